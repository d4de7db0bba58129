/- Ways: lists of edges in memory; putPath puts them. -/
import Derived.Test.YtjiiabekjiilbaaReqAnswer
import Derived.Test.YtjiiabekjiilbaaReqTake
import Derived.Deep.RegionLaw
set_option linter.unusedSimpArgs false
set_option linter.unusedVariables false
namespace Go.Proofs.Ytjiiabekjiilbaa
open Go.RowKit Mp

/-- an edge of a way: tail, head, weight, the vertex between. -/
structure Ed where
  t : Nat
  h : Nat
  w : Nat
  m : Nat
def Ed.ok (x : Ed) : Prop := x.t ≤ 4294967295 ∧ x.h ≤ 4294967295 ∧ x.w ≤ 18446744073709551615 ∧ x.m ≤ 4294967295
def Ed.cells (x : Ed) : List Value := [.int .u32 x.t, .int .u32 x.h, .int .u64 x.w, .int .u32 x.m]
def stepL (x : Ed) : List UInt8 := le 4 x.t ++ le 4 x.h ++ le 8 x.w
theorem stepL_length (x : Ed) : (stepL x).length = 16 := by simp [stepL, le_length]
def wayL (ws : List Ed) : List UInt8 := ws.flatMap stepL
theorem wayL_length (ws : List Ed) : (wayL ws).length = 16 * ws.length := by
  induction ws with
  | nil => rfl
  | cons x ws ih =>
    have : wayL (x :: ws) = stepL x ++ wayL ws := rfl
    rw [this, List.length_append, stepL_length, ih]
    simp; omega
theorem wayL_snoc (ws : List Ed) (x : Ed) : wayL (ws ++ [x]) = wayL ws ++ stepL x := by simp [wayL]
theorem edgeL_take (x : Ed) : (edgeL x.t x.h x.w x.m).take 16 = stepL x := by
  unfold edgeL
  have h : (le 4 x.t ++ le 4 x.h ++ le 8 x.w).length = 16 := by simp [le_length]
  rw [← h, List.take_left]
  rfl

/-- a slice of edges that reads as ws, below block B. -/
def WayAt (w : World) (B : Nat) (A : Option Addr) (ws : List Ed) : Prop := ws = [] ∨ ∃ b off, A = some ⟨b, off, none⟩ ∧ b < B ∧ ∀ i (h : i < ws.length), w.cell? ⟨b, off + i * 4, none⟩ = some (.int .u32 ws[i].t) ∧ w.cell? ⟨b, off + i * 4 + 1, none⟩ = some (.int .u32 ws[i].h) ∧ w.cell? ⟨b, off + i * 4 + 2, none⟩ = some (.int .u64 ws[i].w) ∧ w.cell? ⟨b, off + i * 4 + 3, none⟩ = some (.int .u32 ws[i].m)
theorem WayAt.below {w w' : World} {B C : Nat} {A : Option Addr} {ws : List Ed} (h : WayAt w B A ws) (hb : Below C w w') (hC : B ≤ C) : WayAt w' B A ws := by
  rcases h with h | ⟨b, off, h1, h2, h3⟩
  · exact .inl h
  · refine .inr ⟨b, off, h1, h2, fun i hi => ?_⟩
    obtain ⟨a, b', c, d⟩ := h3 i hi
    exact ⟨(hb.cell (p := ⟨b, _, none⟩) (show b < C by omega)).trans a, (hb.cell (p := ⟨b, _, none⟩) (show b < C by omega)).trans b', (hb.cell (p := ⟨b, _, none⟩) (show b < C by omega)).trans c, (hb.cell (p := ⟨b, _, none⟩) (show b < C by omega)).trans d⟩
theorem WayAt.at_ {w : World} {B : Nat} {A : Option Addr} {ws : List Ed} (h : WayAt w B A ws) {k : Nat} (hk : k < ws.length) : ∃ b off, A = some ⟨b, off, none⟩ ∧ b < B ∧ w.cell? ⟨b, off + k * 4, none⟩ = some (.int .u32 ws[k].t) ∧ w.cell? ⟨b, off + k * 4 + 1, none⟩ = some (.int .u32 ws[k].h) ∧ w.cell? ⟨b, off + k * 4 + 2, none⟩ = some (.int .u64 ws[k].w) ∧ w.cell? ⟨b, off + k * 4 + 3, none⟩ = some (.int .u32 ws[k].m) := by
  rcases h with h | ⟨b, off, h1, h2, h3⟩
  · subst h; simp at hk
  · exact ⟨b, off, h1, h2, h3 k hk⟩

theorem step_append_b {ops : Array Oper} {o : Oper} {a : Act} {w : World} {K : Act → World → Prop} {E : Prop} {Q : Exit → Act → World → Prop} (hgd : o.guard = none) (s x : Operand) (t : TypeId)
    (ho : o.op = .call { callee := .builtin .append, args := #[s, x], argTypes := #[t, t] })
    (e : TypeId) (i : TypeInfo) (ht : Try.prog.underlying t = some (.slice e)) (hi : Try.prog.info? e = some i) (hz : i.zero = some (.int .u8 0)) (hsize : i.size = 1) (hby : i.bytes = 1)
    {lo n c : Nat} {A : Option Addr} {l : List UInt8} (hs : a.eval s = .slice A n c) (h : OwnB w lo e A n c l) {B m c2 : Nat} {X : Option Addr} {news : List UInt8} (hxe : a.eval x = .slice X m c2) (hx : Bytes w B X news) (hm : news.length = m)
    (hb : n + m ≤ 1099511627776) (hlo : lo ≤ w.heap.size)
    (hk : ∀ A' c' w', OwnB w' lo e A' (n + m) c' (l ++ news) → w.grownBy w' (Mp.blk A c) → ((Mp.blk A' c' = Mp.blk A c ∧ c' = c ∧ A' = A ∧ n + m ≤ c) ∨ ((∀ g, Mp.blk A' c' = some g → w.heap.size ≤ g) ∧ c < n + m)) → K (a.put o.dst (.slice A' (n + m) c')) w') :
    if Region.wanted o (yielded ops a.tmps) = true then Oper.wp Try.prog o a w K Q else E := by
  rw [if_pos (by simp [Region.wanted, hgd])]
  exact wp_append_b s x t ho e i ht hi hz hsize hby hs h hxe hx hm hb hlo hk
theorem AW.below {w w' : World} {lo ga gr : Nat} {R : Array Value} {l : List UInt8} {A : Option Addr} {c : Nat} (h : AW w lo ga gr R l A c) (hb : Below w.heap.size w w') : AW w' lo ga gr R l A c :=
  ⟨h.a.below hb h.a.lt, h.o.below hb, h.r.below hb h.r.lt, h.lga, Nat.le_trans h.lsz hb.size⟩

theorem own_grown6 {w w' : World} {lo ga gr : Nat} {R : Array Value} {l : List UInt8} {A : Option Addr} {c : Nat} (h : AW w lo ga gr R l A c) (hg : w.grownBy w' (Mp.blk A c)) : Below lo w w' ∧ Blk w' ga 66 #[.slice A l.length c, .bool false] ∧ Blk w' gr 37 R :=
  ⟨below_grown (Below.refl _ _) h.o hg h.lsz, (hg.block ga h.a.lt (fun e => own_ne_blk h.o h.a (by decide) ga e.symm rfl)).trans h.a, (hg.block gr h.r.lt (fun e => own_ne_blk h.o h.r (by decide) gr e.symm rfl)).trans h.r⟩

theorem way_step {w W w5 w6 : World} {lo ga gr k m n cx : Nat} {R : Array Value} {L P : List UInt8} {ws : List Ed} {E : Ed} {Ax : Option Addr} (A6 : Option Addr) (c6 : Nat)
    (hL : P ++ wayL (ws.take k) = L) (hwk : wayL (ws.take (k + 1)) = wayL (ws.take k) ++ stepL E) (hm : L.length = m)
    (hO : OwnB w6 lo 5 A6 (m + 16) c6 (L ++ stepL E)) (hA : Below lo w5 w6 ∧ Blk w6 ga 66 #[.slice Ax L.length cx, .bool false] ∧ Blk w6 gr 37 R)
    (hW : AW W lo ga gr R L Ax cx) (hb4 : Below lo w W) (hb5 : Below W.drew.heap.size W.drew w5) (hlt : k < n) :
    ∃ k' : Nat, k' ≤ n ∧ Value.int .i64 (k + 1) = .int .i64 k' ∧ AWs (w6.setCell ⟨ga, 0, none⟩ (.slice A6 (m + 16) c6)) lo ga gr R (P ++ wayL (ws.take k')) ∧ Below lo w (w6.setCell ⟨ga, 0, none⟩ (.slice A6 (m + 16) c6)) := by
  have hlen : (P ++ wayL (ws.take (k + 1))) = L ++ stepL E := by rw [hwk, ← List.append_assoc, hL]
  have hsz : lo ≤ w6.heap.size := Nat.le_trans hW.lga (Nat.le_of_lt hA.2.1.lt)
  refine ⟨k + 1, hlt, by simp, ⟨A6, c6, ?_, ?_, ?_, hW.lga, ?_⟩, ?_⟩
  · rw [hlen, List.length_append, stepL_length, hm]
    exact hA.2.1.set_ 0 (.slice A6 (m + 16) c6)
  · rw [hlen, List.length_append, stepL_length, hm]
    exact own_set hO _ _ (own_ne_blk hO hA.2.1 (by decide))
  · exact hA.2.2.far (p := ⟨ga, 0, none⟩) (blk_ne hA.2.2 hA.2.1 (by decide)) _
  · simpa [World.setCell] using hsz
  · exact ((hb4.trans ((Below.drew (Below.refl lo W)).trans (hb5.mono hW.lsz))).trans hA.1).setCell (p := ⟨ga, 0, none⟩) hW.lga _

set_option maxRecDepth 100000 in
set_option maxHeartbeats 3200000 in
theorem putpath_any (lo ga gr n c : Nat) (err : Int) (fd : Bool) (ds st : Nat) (A : Option Addr) (ws : List Ed) (l : List UInt8) (w : World) (h : AWs w lo ga gr (repC err fd ds (.slice A n c) st) l) (hl : l.length ≤ 100) (hws : ws.length = n) (hW : WayAt w lo A ws) (hok : ∀ x ∈ ws, x.ok) (hn : n ≤ 65536) (hgr : lo ≤ gr) :
    Calls Try.prog 43 #[.pointer (some ⟨ga, 0, none⟩), .pointer (some ⟨gr, 0, none⟩)] w fun e w' => e = .returned (.tuple #[]) ∧ AWs w' lo ga gr (repC err fd ds (.slice A n c) st) (l ++ flagL fd ++ le 4 n ++ wayL ws) ∧ Below lo w w' := by
  obtain ⟨i0, hi0, hz0, hz1, hz2⟩ := info_parts info_u8
  have HA := Lib.hid h
  have HWS := Lib.hid hws
  have HW := Lib.hid hW
  have HOK := Lib.hid hok
  clear h hws hW hok
  have r1 : w.cell? ⟨gr, 1, none⟩ = some (.bool fd) := by obtain ⟨A, c, h⟩ := HA.out; exact (h.r.cell 1).trans rfl
  go_enter Try.func43, Try.ntmps43
  go_wp2_with fail
  refine (aflag_any lo ga gr fd _ l _ HA.out (by omega)).mono ?_
  rintro e w1 ⟨rfl, hA1, hb1⟩
  have HA1 := Lib.hid hA1
  have HB1 := Lib.hid hb1
  clear hA1 hb1 r1
  have r3 : w1.cell? ⟨gr, 3, none⟩ = some (.slice A n c) := by obtain ⟨A, c, h⟩ := HA1.out; exact (h.r.cell 3).trans rfl
  go_wp2_with fail
  refine (aput_any lo ga gr n 4 _ (l ++ flagL fd) _ HA1.out (by simp [flagL]; omega) sz4 (by omega)).mono ?_
  rintro e w2 ⟨rfl, hA2, hb2⟩
  have HA2 := Lib.hid hA2
  have HB2 := Lib.hid (HB1.out.trans hb2)
  clear hA2 hb2 r3
  have r3 : w2.cell? ⟨gr, 3, none⟩ = some (.slice A n c) := by obtain ⟨A, c, h⟩ := HA2.out; exact (h.r.cell 3).trans rfl
  go_wp2_with fail
  go_loopw [25] (fun i wr => ∃ k : Nat, k ≤ n ∧ i = .int .i64 k ∧ AWs wr lo ga gr (repC err fd ds (.slice A n c) st) (l ++ flagL fd ++ le 4 n ++ wayL (ws.take k)) ∧ Below lo w wr) (fun i _ => n - (intOf i).toNat)
  case atStart => exact ⟨0, by omega, rfl, by simpa [wayL] using HA2.out, HB2.out⟩
  case round =>
    obtain ⟨k, hk, rfl, hA, hb⟩ := hrel
    by_cases hlt : k < n
    · have hkx : k < ws.length := by have := HWS.out; omega
      obtain ⟨b, off, rfl, hbl, e0, e1, e2, e3⟩ := (HW.out.below hb (Nat.le_refl _)).at_ hkx
      obtain ⟨Ax, cx, hx⟩ := hA
      have HX := Lib.hid hx
      have HB := Lib.hid hb
      have hlen : (l ++ flagL fd ++ le 4 n ++ wayL (ws.take k)).length = l.length + 5 + 16 * k := by
        simp [flagL, le_length, wayL_length, HWS.out]; omega
      have HO := Lib.hid (HOK.out _ (List.getElem_mem hkx))
      have hwk : wayL (ws.take (k + 1)) = wayL (ws.take k) ++ stepL ws[k] := by rw [List.take_succ_eq_append_getElem hkx, wayL_snoc]
      have HWK := Lib.hid hwk
      generalize ws[k] = E at *
      clear hx hb hwk r3
      go_upto_region 5 with (fail)
      have HW4 : Hid (AW (wr.alloc (.cells #[.int .u32 E.t, .int .u32 E.h, .int .u64 E.w, .int .u32 E.m] 71)) lo ga gr (repC err fd ds (.slice (some ⟨b, off, none⟩) n c) st) (l ++ flagL fd ++ le 4 n ++ wayL (ws.take k)) Ax cx ∧ Below lo w (wr.alloc (.cells #[.int .u32 E.t, .int .u32 E.h, .int .u64 E.w, .int .u32 E.m] 71))) := ⟨HX.out.below ((Below.refl _ _).alloc (Nat.le_refl _) _), HB.out.alloc HX.out.lsz _⟩
      have HE4 := Lib.hid (Blk.new wr 71 #[.int .u32 E.t, .int .u32 E.h, .int .u64 E.w, .int .u32 E.m])
      generalize wr.heap.size = ne at *
      generalize wr.alloc (.cells #[.int .u32 E.t, .int .u32 E.h, .int .u64 E.w, .int .u32 E.m] 71) = W at *
      have q0 : W.cell? ⟨ne, 0, none⟩ = some (.int .u32 E.t) := (HE4.out.cell 0).trans rfl
      have q1 : W.cell? ⟨ne, 1, none⟩ = some (.int .u32 E.h) := (HE4.out.cell 1).trans rfl
      have q2 : W.cell? ⟨ne, 2, none⟩ = some (.int .u64 E.w) := (HE4.out.cell 2).trans rfl
      have q3 : W.cell? ⟨ne, 3, none⟩ = some (.int .u32 E.m) := (HE4.out.cell 3).trans rfl
      obtain ⟨HA4, HB4⟩ := HW4.out
      have HA4 := Lib.hid HA4
      have HB4 := Lib.hid HB4
      clear HW4 HX HB HE4 HA HW HA1 HB1 HA2 HB2
      generalize hL : l ++ flagL fd ++ le 4 n ++ wayL (ws.take k) = L at *
      have HL := Lib.hid hL
      clear hL
      have g0 : W.cell? ⟨ga, 0, none⟩ = some (.slice Ax L.length cx) := (HA4.out.a.cell 0).trans rfl
      have HLN : Hid (L.length ≤ 1048776 + 105) := by have : L.length ≤ 1048776 + 105 := (by omega); exact this
      have HP : Hid (∀ W', Below W.drew.heap.size W.drew W' → W'.cell? ⟨ga, 0, none⟩ = some (.slice Ax L.length cx) ∧ AW W' lo ga gr (repC err fd ds (.slice (some ⟨b, off, none⟩) n c) st) L Ax cx) := fun W' hb => by
        have h : AW W' lo ga gr (repC err fd ds (.slice (some ⟨b, off, none⟩) n c) st) L Ax cx := AW.below (w := W.drew) ⟨HA4.out.a, HA4.out.o, HA4.out.r, HA4.out.lga, HA4.out.lsz⟩ hb
        exact ⟨(h.a.cell 0).trans rfl, h⟩
      generalize hm : L.length = m at *
      have HM := Lib.hid hm
      clear hm hlen
      go_region_law (first
        | (refine step_append_b rfl (.tmp 33) (.tmp 36) _ rfl 5 i0 Try.underlying22 hi0 hz0 hz1 hz2 rfl (by rw [← HM.out]; exact (HP.out _ HB5.out).2.o) rfl (HO5.out.bytes.take 16) (by rw [edgeL_take, stepL_length]) (by have := HLN.out; omega) (HP.out _ HB5.out).2.lsz ?_; (intro A6 c6 w6 hO6 hg6 hd6); (rw [edgeL_take] at hO6); (have hq := HP.out _ HB5.out); (have HA6 := Lib.hid (own_grown6 hq.2 hg6)); (have s0 : w6.cell? ⟨ga, 0, none⟩ = some (.slice Ax m cx) := by (rw [← HM.out]; exact (HA6.out.2.1.cell 0).trans rfl)); (have s1 : w6.frozen? ⟨ga, 0, none⟩ = false := HA6.out.2.1.frozen 0); (have HO6 := Lib.hid hO6); (clear hO6 hg6 hd6 hq))
        | ((go_simp); (go_at_call 57); (refine (edge_any E.t E.h E.w E.m _ HO.out.1 HO.out.2.1 HO.out.2.2.1 HO.out.2.2.2).mono ?_); (rintro e w5 ⟨A5, c5, rfl, hO5, hb5⟩); (have HB5 := Lib.hid hb5); (have p0 := (HP.out _ hb5).1); (have HO5 := Lib.hid hO5); (have hc5 : (16 : Int) ≤ (c5 : Int) := by have := hO5.2.1; omega); (obtain ⟨g5, rfl, _⟩ := hO5.open_ (by omega)); (clear hO5 hb5)))
      all_goals
        go_wp2_with fail
        go_roundw
        case rel => exact way_step A6 c6 HL.out HWK.out HM.out HO6.out HA6.out HA4.out HB4.out HB5.out hlt
        case measure => simp [intOf]; omega
    · obtain rfl : k = n := by omega
      have hws := HWS.out
      go_wp2_with fail
      go_end0
      rw [← HWS.out, List.take_length] at hA
      rw [HWS.out] at hA
      exact ⟨rfl, hA, hb⟩
end Go.Proofs.Ytjiiabekjiilbaa
