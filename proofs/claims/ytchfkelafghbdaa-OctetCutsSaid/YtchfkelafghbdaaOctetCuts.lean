/- OctetCuts: an edge's bytes, a vertex's and a label's that are cut, or have more behind them, say nothing. -/
import Derived.Test.YtchfkelafghbdaaOctWorks
import Derived.Test.YtchfkelafghbdaaOctRead
import Derived.Deep.RegionHeld3
set_option linter.unusedSimpArgs false
set_option linter.unusedVariables false
namespace Go.Proofs.Ytchfkelafghbdaa
open Go.RowKit Mp

theorem Since.alloc {w w' : World} (h : Since w w') (o : Obj) : Since w (w'.alloc o) := Below.alloc h (show w.heap.size ≤ _ from Below.size h) o
theorem edgeL_length (t hd wt m : Nat) : (edgeL t hd wt m).length = 20 := by simp [edgeL, le_length]
theorem vertL_length (r lv gn : Nat) : (vertL r lv gn).length = 12 := by simp [vertL, le_length]
theorem labelL_length (v hb nx ds : Nat) : (labelL v hb nx ds).length = 20 := by simp [labelL, le_length]

set_option maxRecDepth 100000 in
set_option maxHeartbeats 4000000 in
theorem law_cuts (t hd wt m r lv gn hb nx ds v : Nat) (q : Int) (A : Option Addr) (n c : Nat) (l : List UInt8) (w : World) (ht : t ≤ 4294967295) (hhd : hd ≤ 4294967295) (hwt : wt ≤ 18446744073709551615) (hm : m ≤ 4294967295) (hr : r ≤ 4294967295) (hlv : lv ≤ 4294967295) (hgn : gn ≤ 4294967295) (hhb : hb ≤ 4294967295) (hnx : nx ≤ 4294967295) (hds : ds ≤ 18446744073709551615) (hv : v ≤ 4294967295) (hq1 : -9223372036854775808 ≤ q) (hq2 : q ≤ 9223372036854775807) (hl : l.length = n) (hb0 : Bytes w w.heap.size A l) (hcap : n ≤ c ∧ c ≤ maxLen) :
    Calls Try.prog 10 #[.agg #[.int .u32 t, .int .u32 hd, .int .u64 wt, .int .u32 m, .int .u32 r, .int .u32 lv, .int .u32 gn, .int .u32 hb, .int .u32 nx, .int .u64 ds, .int .u32 v], .int .i64 q, .slice A n c] w fun e w' => e = .returned (.bool true) ∧ Below w.heap.size w w' := by
  obtain ⟨i0, hi0, hz0, hz1, hz2⟩ := info_parts info_u8
  have HL := Lib.hid hl
  have HB := Lib.hid hb0
  clear hl hb0
  by_cases h8 : 1024 < n
  · skip
    go_enter Try.func10, Try.ntmps10
    go_wp2_with fail
    refine (works_any _).mono ?_
    rintro e w1 ⟨rfl, hb1⟩
    go_wp2_with fail
    go_ret
    exact ⟨rfl, ((Below.refl _ _).alloc (Nat.le_refl _) _).trans (hb1.mono (by simp))⟩
  by_cases h5 : q < 0
  · skip
    go_enter Try.func10, Try.ntmps10
    go_wp2_with fail
    refine (works_any _).mono ?_
    rintro e w1 ⟨rfl, hb1⟩
    go_wp2_with fail
    go_ret
    exact ⟨rfl, ((Below.refl _ _).alloc (Nat.le_refl _) _).trans (hb1.mono (by simp))⟩
  by_cases h6 : 20 < q
  · skip
    go_enter Try.func10, Try.ntmps10
    go_wp2_with fail
    refine (works_any _).mono ?_
    rintro e w1 ⟨rfl, hb1⟩
    go_wp2_with fail
    go_ret
    exact ⟨rfl, ((Below.refl _ _).alloc (Nat.le_refl _) _).trans (hb1.mono (by simp))⟩
  obtain ⟨q, rfl⟩ : ∃ k : Nat, q = (k : Int) := ⟨q.toNat, by omega⟩
  have Hk : Hid (∀ w', Since (w.alloc (.cells #[.int .u32 t, .int .u32 hd, .int .u64 wt, .int .u32 m, .int .u32 r, .int .u32 lv, .int .u32 gn, .int .u32 hb, .int .u32 nx, .int .u64 ds, .int .u32 v] 46)) w' → (w'.cell? ⟨w.heap.size, 0, none⟩ = some (.int .u32 t) ∧ w'.cell? ⟨w.heap.size, 1, none⟩ = some (.int .u32 hd) ∧ w'.cell? ⟨w.heap.size, 2, none⟩ = some (.int .u64 wt) ∧ w'.cell? ⟨w.heap.size, 3, none⟩ = some (.int .u32 m) ∧ w'.cell? ⟨w.heap.size, 4, none⟩ = some (.int .u32 r) ∧ w'.cell? ⟨w.heap.size, 5, none⟩ = some (.int .u32 lv) ∧ w'.cell? ⟨w.heap.size, 6, none⟩ = some (.int .u32 gn) ∧ w'.cell? ⟨w.heap.size, 7, none⟩ = some (.int .u32 hb) ∧ w'.cell? ⟨w.heap.size, 8, none⟩ = some (.int .u32 nx) ∧ w'.cell? ⟨w.heap.size, 9, none⟩ = some (.int .u64 ds) ∧ w'.cell? ⟨w.heap.size, 10, none⟩ = some (.int .u32 v) ∧ Since (w.alloc (.cells #[.int .u32 t, .int .u32 hd, .int .u64 wt, .int .u32 m, .int .u32 r, .int .u32 lv, .int .u32 gn, .int .u32 hb, .int .u32 nx, .int .u64 ds, .int .u32 v] 46)) w')) := fun w' hq => by
    have k := (Blk.new w 46 #[.int .u32 t, .int .u32 hd, .int .u64 wt, .int .u32 m, .int .u32 r, .int .u32 lv, .int .u32 gn, .int .u32 hb, .int .u32 nx, .int .u64 ds, .int .u32 v]).below hq (Blk.new w 46 #[.int .u32 t, .int .u32 hd, .int .u64 wt, .int .u32 m, .int .u32 r, .int .u32 lv, .int .u32 gn, .int .u32 hb, .int .u32 nx, .int .u64 ds, .int .u32 v]).lt
    exact ⟨(k.cell 0).trans rfl, (k.cell 1).trans rfl, (k.cell 2).trans rfl, (k.cell 3).trans rfl, (k.cell 4).trans rfl, (k.cell 5).trans rfl, (k.cell 6).trans rfl, (k.cell 7).trans rfl, (k.cell 8).trans rfl, (k.cell 9).trans rfl, (k.cell 10).trans rfl, hq⟩
  have PEdge : Hid (∀ W, Since (w.alloc (.cells #[.int .u32 t, .int .u32 hd, .int .u64 wt, .int .u32 m, .int .u32 r, .int .u32 lv, .int .u32 gn, .int .u32 hb, .int .u32 nx, .int .u64 ds, .int .u32 v] 46)) W → Calls Try.prog 20 #[.agg #[.int .u32 t, .int .u32 hd, .int .u64 wt, .int .u32 m]] W fun e w' => ∃ A' c', e = .returned (.slice A' 20 c') ∧ OwnB w' (w.alloc (.cells #[.int .u32 t, .int .u32 hd, .int .u64 wt, .int .u32 m, .int .u32 r, .int .u32 lv, .int .u32 gn, .int .u32 hb, .int .u32 nx, .int .u64 ds, .int .u32 v] 46)).heap.size 5 A' 20 c' (edgeL t hd wt m) ∧ Since W w' ∧ Since (w.alloc (.cells #[.int .u32 t, .int .u32 hd, .int .u64 wt, .int .u32 m, .int .u32 r, .int .u32 lv, .int .u32 gn, .int .u32 hb, .int .u32 nx, .int .u64 ds, .int .u32 v] 46)) w') := fun W hS =>
    (edge_any t hd wt m W ht hhd hwt hm).mono fun e w' ⟨A', c', h1, h2, h3⟩ => ⟨A', c', h1, h2.mono hS.size, h3, hS.step h3⟩
  have PVert : Hid (∀ W, Since (w.alloc (.cells #[.int .u32 t, .int .u32 hd, .int .u64 wt, .int .u32 m, .int .u32 r, .int .u32 lv, .int .u32 gn, .int .u32 hb, .int .u32 nx, .int .u64 ds, .int .u32 v] 46)) W → Calls Try.prog 22 #[.agg #[.int .u32 r, .int .u32 lv, .int .u32 gn]] W fun e w' => ∃ A' c', e = .returned (.slice A' 12 c') ∧ OwnB w' (w.alloc (.cells #[.int .u32 t, .int .u32 hd, .int .u64 wt, .int .u32 m, .int .u32 r, .int .u32 lv, .int .u32 gn, .int .u32 hb, .int .u32 nx, .int .u64 ds, .int .u32 v] 46)).heap.size 5 A' 12 c' (vertL r lv gn) ∧ Since W w' ∧ Since (w.alloc (.cells #[.int .u32 t, .int .u32 hd, .int .u64 wt, .int .u32 m, .int .u32 r, .int .u32 lv, .int .u32 gn, .int .u32 hb, .int .u32 nx, .int .u64 ds, .int .u32 v] 46)) w') := fun W hS =>
    (vert_any r lv gn W hr hlv hgn).mono fun e w' ⟨A', c', h1, h2, h3⟩ => ⟨A', c', h1, h2.mono hS.size, h3, hS.step h3⟩
  have PLabel : Hid (∀ W, Since (w.alloc (.cells #[.int .u32 t, .int .u32 hd, .int .u64 wt, .int .u32 m, .int .u32 r, .int .u32 lv, .int .u32 gn, .int .u32 hb, .int .u32 nx, .int .u64 ds, .int .u32 v] 46)) W → Calls Try.prog 24 #[.int .u32 v, .agg #[.int .u32 hb, .int .u32 nx, .int .u64 ds]] W fun e w' => ∃ A' c', e = .returned (.slice A' 20 c') ∧ OwnB w' (w.alloc (.cells #[.int .u32 t, .int .u32 hd, .int .u64 wt, .int .u32 m, .int .u32 r, .int .u32 lv, .int .u32 gn, .int .u32 hb, .int .u32 nx, .int .u64 ds, .int .u32 v] 46)).heap.size 5 A' 20 c' (labelL v hb nx ds) ∧ Since W w' ∧ Since (w.alloc (.cells #[.int .u32 t, .int .u32 hd, .int .u64 wt, .int .u32 m, .int .u32 r, .int .u32 lv, .int .u32 gn, .int .u32 hb, .int .u32 nx, .int .u64 ds, .int .u32 v] 46)) w') := fun W hS =>
    (label_any v hb nx ds W hv hhb hnx hds).mono fun e w' ⟨A', c', h1, h2, h3⟩ => ⟨A', c', h1, h2.mono hS.size, h3, hS.step h3⟩
  go_enter Try.func10, Try.ntmps10
  go_wp2_with fail
  have hst := Since.refl (w.alloc (.cells #[.int .u32 t, .int .u32 hd, .int .u64 wt, .int .u32 m, .int .u32 r, .int .u32 lv, .int .u32 gn, .int .u32 hb, .int .u32 nx, .int .u64 ds, .int .u32 v] 46))
  have hbw : Hid (Below w.heap.size w (w.alloc (.cells #[.int .u32 t, .int .u32 hd, .int .u64 wt, .int .u32 m, .int .u32 r, .int .u32 lv, .int .u32 gn, .int .u32 hb, .int .u32 nx, .int .u64 ds, .int .u32 v] 46))) := by
    have h : Below w.heap.size w (w.alloc (.cells #[.int .u32 t, .int .u32 hd, .int .u64 wt, .int .u32 m, .int .u32 r, .int .u32 lv, .int .u32 gn, .int .u32 hb, .int .u32 nx, .int .u64 ds, .int .u32 v] 46)) := (Below.refl _ _).alloc (Nat.le_refl _) _
    exact h
  have hst1 := Since.drew hst
  generalize (w.alloc (.cells #[.int .u32 t, .int .u32 hd, .int .u64 wt, .int .u32 m, .int .u32 r, .int .u32 lv, .int .u32 gn, .int .u32 hb, .int .u32 nx, .int .u64 ds, .int .u32 v] 46)) = w0 at *
  go_region_held3 (fun w' => (w'.cell? ⟨w.heap.size, 0, none⟩ = some (.int .u32 t) ∧ w'.cell? ⟨w.heap.size, 1, none⟩ = some (.int .u32 hd) ∧ w'.cell? ⟨w.heap.size, 2, none⟩ = some (.int .u64 wt) ∧ w'.cell? ⟨w.heap.size, 3, none⟩ = some (.int .u32 m) ∧ w'.cell? ⟨w.heap.size, 4, none⟩ = some (.int .u32 r) ∧ w'.cell? ⟨w.heap.size, 5, none⟩ = some (.int .u32 lv) ∧ w'.cell? ⟨w.heap.size, 6, none⟩ = some (.int .u32 gn) ∧ w'.cell? ⟨w.heap.size, 7, none⟩ = some (.int .u32 hb) ∧ w'.cell? ⟨w.heap.size, 8, none⟩ = some (.int .u32 nx) ∧ w'.cell? ⟨w.heap.size, 9, none⟩ = some (.int .u64 ds) ∧ w'.cell? ⟨w.heap.size, 10, none⟩ = some (.int .u32 v) ∧ Since w0 w')) (first | ((with_reducible refine Hk.out _ ?_); (with_reducible assumption)) | ((with_reducible refine Hk.out _ (Since.drew ?_)); (with_reducible assumption)) | ((with_reducible refine Hk.out _ (Since.alloc ?_ _)); (with_reducible assumption))) (first | (go_at_call 20; (with_reducible refine Calls.mono (PEdge.out _ ?_) ?_); (with_reducible assumption); rintro e wEdge ⟨AEdge, cEdge, rfl, hEdge, hstEdge, hsqEdge⟩) | (go_at_call 22; (with_reducible refine Calls.mono (PVert.out _ ?_) ?_); (with_reducible assumption); rintro e wVert ⟨AVert, cVert, rfl, hVert, hstVert, hsqVert⟩) | (go_at_call 24; (with_reducible refine Calls.mono (PLabel.out _ ?_) ?_); (with_reducible assumption); rintro e wLabel ⟨ALabel, cLabel, rfl, hLabel, hstLabel, hsqLabel⟩))
  have O3 := Lib.hid hLabel
  have O2 := Lib.hid (hVert.below hstLabel)
  have O1 := Lib.hid ((hEdge.below hstVert).below hstLabel)
  have Z4 : Hid (Below w.heap.size w wLabel) := by
    have h := hbw.out.trans (Below.mono (show Below _ _ _ from hsqLabel) hbw.out.size)
    exact h
  clear hLabel hVert hEdge hstLabel hstVert hstEdge hsqEdge hsqVert hsqLabel hst hst1 PEdge PVert PLabel Hk
  have hc1 : 20 ≤ cEdge := O1.out.2.1
  have hc2 : 12 ≤ cVert := O2.out.2.1
  have hc3 : 20 ≤ cLabel := O3.out.2.1
  have Zt : Hid (∀ wr, Below (wLabel.heap.size + 1) (wLabel.alloc (.cells #[.slice AEdge 20 cEdge, .slice AVert 12 cVert, .slice ALabel 20 cLabel] 22)) wr → Below w.heap.size w wr) := by
    have h : ∀ wr, Below (wLabel.heap.size + 1) (wLabel.alloc (.cells #[.slice AEdge 20 cEdge, .slice AVert 12 cVert, .slice ALabel 20 cLabel] 22)) wr → Below w.heap.size w wr := fun wr h => (Z4.out.alloc Z4.out.size _).trans (h.mono (Nat.le_trans Z4.out.size (by omega)))
    exact h
  have Y1 : Hid (∀ wr, Below (wLabel.heap.size + 1) (wLabel.alloc (.cells #[.slice AEdge 20 cEdge, .slice AVert 12 cVert, .slice ALabel 20 cLabel] 22)) wr → Bytes wr wr.heap.size AEdge (edgeL t hd wt m)) := by
    have h : ∀ wr, Below (wLabel.heap.size + 1) (wLabel.alloc (.cells #[.slice AEdge 20 cEdge, .slice AVert 12 cVert, .slice ALabel 20 cLabel] 22)) wr → Bytes wr wr.heap.size AEdge (edgeL t hd wt m) := fun wr h => by
      have h0 := (O1.out.alloc (.cells #[.slice AEdge 20 cEdge, .slice AVert 12 cVert, .slice ALabel 20 cLabel] 22)).bytes
      exact (h0.below (h.mono (by simp))).more (by have := h.size; simpa using this)
    exact h
  have Y2 : Hid (∀ wr, Below (wLabel.heap.size + 1) (wLabel.alloc (.cells #[.slice AEdge 20 cEdge, .slice AVert 12 cVert, .slice ALabel 20 cLabel] 22)) wr → Bytes wr wr.heap.size AVert (vertL r lv gn)) := by
    have h : ∀ wr, Below (wLabel.heap.size + 1) (wLabel.alloc (.cells #[.slice AEdge 20 cEdge, .slice AVert 12 cVert, .slice ALabel 20 cLabel] 22)) wr → Bytes wr wr.heap.size AVert (vertL r lv gn) := fun wr h => by
      have h0 := (O2.out.alloc (.cells #[.slice AEdge 20 cEdge, .slice AVert 12 cVert, .slice ALabel 20 cLabel] 22)).bytes
      exact (h0.below (h.mono (by simp))).more (by have := h.size; simpa using this)
    exact h
  have Y3 : Hid (∀ wr, Below (wLabel.heap.size + 1) (wLabel.alloc (.cells #[.slice AEdge 20 cEdge, .slice AVert 12 cVert, .slice ALabel 20 cLabel] 22)) wr → Bytes wr wr.heap.size ALabel (labelL v hb nx ds)) := by
    have h : ∀ wr, Below (wLabel.heap.size + 1) (wLabel.alloc (.cells #[.slice AEdge 20 cEdge, .slice AVert 12 cVert, .slice ALabel 20 cLabel] 22)) wr → Bytes wr wr.heap.size ALabel (labelL v hb nx ds) := fun wr h => by
      have h0 := (O3.out.alloc (.cells #[.slice AEdge 20 cEdge, .slice AVert 12 cVert, .slice ALabel 20 cLabel] 22)).bytes
      exact (h0.below (h.mono (by simp))).more (by have := h.size; simpa using this)
    exact h
  have Ym : Hid (∀ wr, Below w.heap.size w wr → Bytes wr wr.heap.size A l) := by
    have h : ∀ wr, Below w.heap.size w wr → Bytes wr wr.heap.size A l := fun wr h => (HB.out.below h).more h.size
    exact h
  have Kw : Hid (∀ wr, Below (wLabel.heap.size + 1) (wLabel.alloc (.cells #[.slice AEdge 20 cEdge, .slice AVert 12 cVert, .slice ALabel 20 cLabel] 22)) wr → Blk wr wLabel.heap.size 22 #[.slice AEdge 20 cEdge, .slice AVert 12 cVert, .slice ALabel 20 cLabel]) := by
    have h : ∀ wr, Below (wLabel.heap.size + 1) (wLabel.alloc (.cells #[.slice AEdge 20 cEdge, .slice AVert 12 cVert, .slice ALabel 20 cLabel] 22)) wr → Blk wr wLabel.heap.size 22 #[.slice AEdge 20 cEdge, .slice AVert 12 cVert, .slice ALabel 20 cLabel] := fun wr h => (Blk.new wLabel _ _).below h (by omega)
    exact h
  go_wp2_with fail
  go_loopw [8] (fun i wr => (i = .int .i64 0 ∨ i = .int .i64 1 ∨ i = .int .i64 2 ∨ i = .int .i64 3) ∧ Below (wLabel.heap.size + 1) (wLabel.alloc (.cells #[.slice AEdge 20 cEdge, .slice AVert 12 cVert, .slice ALabel 20 cLabel] 22)) wr) (fun i _ => 3 - (intOf i).toNat)
  case atStart => exact ⟨by simp, Below.refl _ _⟩
  case round =>
    obtain ⟨hi, hbl⟩ := hrel
    have H0 := Lib.hid hbl
    clear hbl
    rcases hi with rfl | rfl | rfl | rfl
    · skip
      have HT : Hid (((edgeL t hd wt m).take q).length = q) := by
        have h : ((edgeL t hd wt m).take q).length = q := by rw [List.length_take, edgeL_length]; omega
        exact h
      have qa : wr.cell? ⟨wLabel.heap.size, 0, none⟩ = some (.slice AEdge 20 cEdge) := ((Kw.out _ H0.out).cell 0).trans rfl
      by_cases hfit : q + n = 20
      · skip
        have HN := Lib.hid hfit
        clear hfit
        go_wp2_with fail
        refine (copy_any AEdge q cEdge ((edgeL t hd wt m).take q) _ HT.out ((Y1.out _ H0.out).take q) (by omega)).mono ?_
        rintro e w5 ⟨A5, c5, rfl, hO5, hb5⟩
        have O5 := Lib.hid hO5
        have H5 : Hid (Below (wLabel.heap.size + 1) (wLabel.alloc (.cells #[.slice AEdge 20 cEdge, .slice AVert 12 cVert, .slice ALabel 20 cLabel] 22)) w5) := by
          have h := H0.out.trans (hb5.mono (by have := H0.out.size; simpa using this))
          exact h
        have F5 : Hid ((wLabel.heap.size + 1) ≤ wr.heap.size) := by
          have h : (wLabel.heap.size + 1) ≤ wr.heap.size := by have := H0.out.size; simpa using this
          exact h
        have X5 : Hid (wr.heap.size ≤ w5.heap.size) := by
          have h := hb5.size
          exact h
        clear hO5 hb5
        go_wp2_with (at_builtin; refine wpList_append_b rfl (.tmp 51) (.tmp 52) _ rfl 5 i0 Try.underlying22 hi0 hz0 hz1 hz2 rfl O5.out rfl (Ym.out _ (Zt.out _ H5.out)) HL.out (by omega) X5.out ?_; intro A6 c6 w6 hO6 hg6 hd6; rw [HN.out] at hO6 ⊢; have O6 := Lib.hid hO6; have G6 := Lib.hid hg6; clear hO6 hg6 hd6)
        have H6 : Hid (Below (wLabel.heap.size + 1) (wLabel.alloc (.cells #[.slice AEdge 20 cEdge, .slice AVert 12 cVert, .slice ALabel 20 cLabel] 22)) w6) := by
          have h := below_grown H5.out (O5.out.mono F5.out) G6.out (by have := H5.out.size; simpa using this)
          exact h
        refine (readedge_ok A6 c6 _ _ O6.out.1 O6.out.bytes O6.out.2.1).mono ?_
        rintro e w7 ⟨rfl, hb7⟩
        have H7 : Hid (Below (wLabel.heap.size + 1) (wLabel.alloc (.cells #[.slice AEdge 20 cEdge, .slice AVert 12 cVert, .slice ALabel 20 cLabel] 22)) w7) := by
          have h := H6.out.trans (hb7.mono (by have := H6.out.size; simpa using this))
          exact h
        clear hb7
        go_wp2_with fail
        go_roundw
        case rel => exact ⟨by simp, H7.out⟩
        case measure => simp [intOf]
      · skip
        obtain ⟨N, hN⟩ : ∃ N, q + n = N := ⟨_, rfl⟩
        have HN := Lib.hid hN
        have hne : ((N : Int) == 20) = false := by simp; omega
        have hne2 : N ≠ 20 := by omega
        clear hN
        clear hfit
        go_wp2_with fail
        refine (copy_any AEdge q cEdge ((edgeL t hd wt m).take q) _ HT.out ((Y1.out _ H0.out).take q) (by omega)).mono ?_
        rintro e w5 ⟨A5, c5, rfl, hO5, hb5⟩
        have O5 := Lib.hid hO5
        have H5 : Hid (Below (wLabel.heap.size + 1) (wLabel.alloc (.cells #[.slice AEdge 20 cEdge, .slice AVert 12 cVert, .slice ALabel 20 cLabel] 22)) w5) := by
          have h := H0.out.trans (hb5.mono (by have := H0.out.size; simpa using this))
          exact h
        have F5 : Hid ((wLabel.heap.size + 1) ≤ wr.heap.size) := by
          have h : (wLabel.heap.size + 1) ≤ wr.heap.size := by have := H0.out.size; simpa using this
          exact h
        have X5 : Hid (wr.heap.size ≤ w5.heap.size) := by
          have h := hb5.size
          exact h
        clear hO5 hb5
        go_wp2_with (at_builtin; refine wpList_append_b rfl (.tmp 51) (.tmp 52) _ rfl 5 i0 Try.underlying22 hi0 hz0 hz1 hz2 rfl O5.out rfl (Ym.out _ (Zt.out _ H5.out)) HL.out (by omega) X5.out ?_; intro A6 c6 w6 hO6 hg6 hd6; rw [HN.out] at hO6 ⊢; have O6 := Lib.hid hO6; have G6 := Lib.hid hg6; clear hO6 hg6 hd6)
        have H6 : Hid (Below (wLabel.heap.size + 1) (wLabel.alloc (.cells #[.slice AEdge 20 cEdge, .slice AVert 12 cVert, .slice ALabel 20 cLabel] 22)) w6) := by
          have h := below_grown H5.out (O5.out.mono F5.out) G6.out (by have := H5.out.size; simpa using this)
          exact h
        refine (readedge_no A6 N c6 _ (by have := HN.out; omega) hne2).mono ?_
        rintro e w7 ⟨rfl, hb7⟩
        have H7 : Hid (Below (wLabel.heap.size + 1) (wLabel.alloc (.cells #[.slice AEdge 20 cEdge, .slice AVert 12 cVert, .slice ALabel 20 cLabel] 22)) w7) := by
          have h := H6.out.trans (hb7.mono (by have := H6.out.size; simpa using this))
          exact h
        clear hb7
        go_wp2_with fail
        go_roundw
        case rel => exact ⟨by simp, H7.out⟩
        case measure => simp [intOf]
    · by_cases hq12 : 12 < q
      · skip
        have HT : Hid (((vertL r lv gn).take 12).length = 12) := by
          have h : ((vertL r lv gn).take 12).length = 12 := by rw [List.length_take, vertL_length]; omega
          exact h
        have qa : wr.cell? ⟨wLabel.heap.size, 1, none⟩ = some (.slice AVert 12 cVert) := ((Kw.out _ H0.out).cell 1).trans rfl
        by_cases hfit : 12 + n = 12
        · skip
          have HN := Lib.hid hfit
          clear hfit
          go_wp2_with fail
          refine (copy_any AVert 12 cVert ((vertL r lv gn).take 12) _ HT.out ((Y2.out _ H0.out).take 12) (by omega)).mono ?_
          rintro e w5 ⟨A5, c5, rfl, hO5, hb5⟩
          have O5 := Lib.hid hO5
          have H5 : Hid (Below (wLabel.heap.size + 1) (wLabel.alloc (.cells #[.slice AEdge 20 cEdge, .slice AVert 12 cVert, .slice ALabel 20 cLabel] 22)) w5) := by
            have h := H0.out.trans (hb5.mono (by have := H0.out.size; simpa using this))
            exact h
          have F5 : Hid ((wLabel.heap.size + 1) ≤ wr.heap.size) := by
            have h : (wLabel.heap.size + 1) ≤ wr.heap.size := by have := H0.out.size; simpa using this
            exact h
          have X5 : Hid (wr.heap.size ≤ w5.heap.size) := by
            have h := hb5.size
            exact h
          clear hO5 hb5
          go_wp2_with (at_builtin; refine wpList_append_b rfl (.tmp 51) (.tmp 52) _ rfl 5 i0 Try.underlying22 hi0 hz0 hz1 hz2 rfl O5.out rfl (Ym.out _ (Zt.out _ H5.out)) HL.out (by omega) X5.out ?_; intro A6 c6 w6 hO6 hg6 hd6; rw [HN.out] at hO6 ⊢; have O6 := Lib.hid hO6; have G6 := Lib.hid hg6; clear hO6 hg6 hd6)
          have H6 : Hid (Below (wLabel.heap.size + 1) (wLabel.alloc (.cells #[.slice AEdge 20 cEdge, .slice AVert 12 cVert, .slice ALabel 20 cLabel] 22)) w6) := by
            have h := below_grown H5.out (O5.out.mono F5.out) G6.out (by have := H5.out.size; simpa using this)
            exact h
          refine (readvert_ok A6 c6 _ _ O6.out.1 O6.out.bytes O6.out.2.1).mono ?_
          rintro e w7 ⟨rfl, hb7⟩
          have H7 : Hid (Below (wLabel.heap.size + 1) (wLabel.alloc (.cells #[.slice AEdge 20 cEdge, .slice AVert 12 cVert, .slice ALabel 20 cLabel] 22)) w7) := by
            have h := H6.out.trans (hb7.mono (by have := H6.out.size; simpa using this))
            exact h
          clear hb7
          go_wp2_with fail
          go_roundw
          case rel => exact ⟨by simp, H7.out⟩
          case measure => simp [intOf]
        · skip
          obtain ⟨N, hN⟩ : ∃ N, 12 + n = N := ⟨_, rfl⟩
          have HN := Lib.hid hN
          have hne : ((N : Int) == 12) = false := by simp; omega
          have hne2 : N ≠ 12 := by omega
          clear hN
          clear hfit
          go_wp2_with fail
          refine (copy_any AVert 12 cVert ((vertL r lv gn).take 12) _ HT.out ((Y2.out _ H0.out).take 12) (by omega)).mono ?_
          rintro e w5 ⟨A5, c5, rfl, hO5, hb5⟩
          have O5 := Lib.hid hO5
          have H5 : Hid (Below (wLabel.heap.size + 1) (wLabel.alloc (.cells #[.slice AEdge 20 cEdge, .slice AVert 12 cVert, .slice ALabel 20 cLabel] 22)) w5) := by
            have h := H0.out.trans (hb5.mono (by have := H0.out.size; simpa using this))
            exact h
          have F5 : Hid ((wLabel.heap.size + 1) ≤ wr.heap.size) := by
            have h : (wLabel.heap.size + 1) ≤ wr.heap.size := by have := H0.out.size; simpa using this
            exact h
          have X5 : Hid (wr.heap.size ≤ w5.heap.size) := by
            have h := hb5.size
            exact h
          clear hO5 hb5
          go_wp2_with (at_builtin; refine wpList_append_b rfl (.tmp 51) (.tmp 52) _ rfl 5 i0 Try.underlying22 hi0 hz0 hz1 hz2 rfl O5.out rfl (Ym.out _ (Zt.out _ H5.out)) HL.out (by omega) X5.out ?_; intro A6 c6 w6 hO6 hg6 hd6; rw [HN.out] at hO6 ⊢; have O6 := Lib.hid hO6; have G6 := Lib.hid hg6; clear hO6 hg6 hd6)
          have H6 : Hid (Below (wLabel.heap.size + 1) (wLabel.alloc (.cells #[.slice AEdge 20 cEdge, .slice AVert 12 cVert, .slice ALabel 20 cLabel] 22)) w6) := by
            have h := below_grown H5.out (O5.out.mono F5.out) G6.out (by have := H5.out.size; simpa using this)
            exact h
          refine (readvert_no A6 N c6 _ (by have := HN.out; omega) hne2).mono ?_
          rintro e w7 ⟨rfl, hb7⟩
          have H7 : Hid (Below (wLabel.heap.size + 1) (wLabel.alloc (.cells #[.slice AEdge 20 cEdge, .slice AVert 12 cVert, .slice ALabel 20 cLabel] 22)) w7) := by
            have h := H6.out.trans (hb7.mono (by have := H6.out.size; simpa using this))
            exact h
          clear hb7
          go_wp2_with fail
          go_roundw
          case rel => exact ⟨by simp, H7.out⟩
          case measure => simp [intOf]
      · skip
        have HT : Hid (((vertL r lv gn).take q).length = q) := by
          have h : ((vertL r lv gn).take q).length = q := by rw [List.length_take, vertL_length]; omega
          exact h
        have qa : wr.cell? ⟨wLabel.heap.size, 1, none⟩ = some (.slice AVert 12 cVert) := ((Kw.out _ H0.out).cell 1).trans rfl
        by_cases hfit : q + n = 12
        · skip
          have HN := Lib.hid hfit
          clear hfit
          go_wp2_with fail
          refine (copy_any AVert q cVert ((vertL r lv gn).take q) _ HT.out ((Y2.out _ H0.out).take q) (by omega)).mono ?_
          rintro e w5 ⟨A5, c5, rfl, hO5, hb5⟩
          have O5 := Lib.hid hO5
          have H5 : Hid (Below (wLabel.heap.size + 1) (wLabel.alloc (.cells #[.slice AEdge 20 cEdge, .slice AVert 12 cVert, .slice ALabel 20 cLabel] 22)) w5) := by
            have h := H0.out.trans (hb5.mono (by have := H0.out.size; simpa using this))
            exact h
          have F5 : Hid ((wLabel.heap.size + 1) ≤ wr.heap.size) := by
            have h : (wLabel.heap.size + 1) ≤ wr.heap.size := by have := H0.out.size; simpa using this
            exact h
          have X5 : Hid (wr.heap.size ≤ w5.heap.size) := by
            have h := hb5.size
            exact h
          clear hO5 hb5
          go_wp2_with (at_builtin; refine wpList_append_b rfl (.tmp 51) (.tmp 52) _ rfl 5 i0 Try.underlying22 hi0 hz0 hz1 hz2 rfl O5.out rfl (Ym.out _ (Zt.out _ H5.out)) HL.out (by omega) X5.out ?_; intro A6 c6 w6 hO6 hg6 hd6; rw [HN.out] at hO6 ⊢; have O6 := Lib.hid hO6; have G6 := Lib.hid hg6; clear hO6 hg6 hd6)
          have H6 : Hid (Below (wLabel.heap.size + 1) (wLabel.alloc (.cells #[.slice AEdge 20 cEdge, .slice AVert 12 cVert, .slice ALabel 20 cLabel] 22)) w6) := by
            have h := below_grown H5.out (O5.out.mono F5.out) G6.out (by have := H5.out.size; simpa using this)
            exact h
          refine (readvert_ok A6 c6 _ _ O6.out.1 O6.out.bytes O6.out.2.1).mono ?_
          rintro e w7 ⟨rfl, hb7⟩
          have H7 : Hid (Below (wLabel.heap.size + 1) (wLabel.alloc (.cells #[.slice AEdge 20 cEdge, .slice AVert 12 cVert, .slice ALabel 20 cLabel] 22)) w7) := by
            have h := H6.out.trans (hb7.mono (by have := H6.out.size; simpa using this))
            exact h
          clear hb7
          go_wp2_with fail
          go_roundw
          case rel => exact ⟨by simp, H7.out⟩
          case measure => simp [intOf]
        · skip
          obtain ⟨N, hN⟩ : ∃ N, q + n = N := ⟨_, rfl⟩
          have HN := Lib.hid hN
          have hne : ((N : Int) == 12) = false := by simp; omega
          have hne2 : N ≠ 12 := by omega
          clear hN
          clear hfit
          go_wp2_with fail
          refine (copy_any AVert q cVert ((vertL r lv gn).take q) _ HT.out ((Y2.out _ H0.out).take q) (by omega)).mono ?_
          rintro e w5 ⟨A5, c5, rfl, hO5, hb5⟩
          have O5 := Lib.hid hO5
          have H5 : Hid (Below (wLabel.heap.size + 1) (wLabel.alloc (.cells #[.slice AEdge 20 cEdge, .slice AVert 12 cVert, .slice ALabel 20 cLabel] 22)) w5) := by
            have h := H0.out.trans (hb5.mono (by have := H0.out.size; simpa using this))
            exact h
          have F5 : Hid ((wLabel.heap.size + 1) ≤ wr.heap.size) := by
            have h : (wLabel.heap.size + 1) ≤ wr.heap.size := by have := H0.out.size; simpa using this
            exact h
          have X5 : Hid (wr.heap.size ≤ w5.heap.size) := by
            have h := hb5.size
            exact h
          clear hO5 hb5
          go_wp2_with (at_builtin; refine wpList_append_b rfl (.tmp 51) (.tmp 52) _ rfl 5 i0 Try.underlying22 hi0 hz0 hz1 hz2 rfl O5.out rfl (Ym.out _ (Zt.out _ H5.out)) HL.out (by omega) X5.out ?_; intro A6 c6 w6 hO6 hg6 hd6; rw [HN.out] at hO6 ⊢; have O6 := Lib.hid hO6; have G6 := Lib.hid hg6; clear hO6 hg6 hd6)
          have H6 : Hid (Below (wLabel.heap.size + 1) (wLabel.alloc (.cells #[.slice AEdge 20 cEdge, .slice AVert 12 cVert, .slice ALabel 20 cLabel] 22)) w6) := by
            have h := below_grown H5.out (O5.out.mono F5.out) G6.out (by have := H5.out.size; simpa using this)
            exact h
          refine (readvert_no A6 N c6 _ (by have := HN.out; omega) hne2).mono ?_
          rintro e w7 ⟨rfl, hb7⟩
          have H7 : Hid (Below (wLabel.heap.size + 1) (wLabel.alloc (.cells #[.slice AEdge 20 cEdge, .slice AVert 12 cVert, .slice ALabel 20 cLabel] 22)) w7) := by
            have h := H6.out.trans (hb7.mono (by have := H6.out.size; simpa using this))
            exact h
          clear hb7
          go_wp2_with fail
          go_roundw
          case rel => exact ⟨by simp, H7.out⟩
          case measure => simp [intOf]
    · skip
      have HT : Hid (((labelL v hb nx ds).take q).length = q) := by
        have h : ((labelL v hb nx ds).take q).length = q := by rw [List.length_take, labelL_length]; omega
        exact h
      have qa : wr.cell? ⟨wLabel.heap.size, 2, none⟩ = some (.slice ALabel 20 cLabel) := ((Kw.out _ H0.out).cell 2).trans rfl
      by_cases hfit : q + n = 20
      · skip
        have HN := Lib.hid hfit
        clear hfit
        go_wp2_with fail
        refine (copy_any ALabel q cLabel ((labelL v hb nx ds).take q) _ HT.out ((Y3.out _ H0.out).take q) (by omega)).mono ?_
        rintro e w5 ⟨A5, c5, rfl, hO5, hb5⟩
        have O5 := Lib.hid hO5
        have H5 : Hid (Below (wLabel.heap.size + 1) (wLabel.alloc (.cells #[.slice AEdge 20 cEdge, .slice AVert 12 cVert, .slice ALabel 20 cLabel] 22)) w5) := by
          have h := H0.out.trans (hb5.mono (by have := H0.out.size; simpa using this))
          exact h
        have F5 : Hid ((wLabel.heap.size + 1) ≤ wr.heap.size) := by
          have h : (wLabel.heap.size + 1) ≤ wr.heap.size := by have := H0.out.size; simpa using this
          exact h
        have X5 : Hid (wr.heap.size ≤ w5.heap.size) := by
          have h := hb5.size
          exact h
        clear hO5 hb5
        go_wp2_with (at_builtin; refine wpList_append_b rfl (.tmp 51) (.tmp 52) _ rfl 5 i0 Try.underlying22 hi0 hz0 hz1 hz2 rfl O5.out rfl (Ym.out _ (Zt.out _ H5.out)) HL.out (by omega) X5.out ?_; intro A6 c6 w6 hO6 hg6 hd6; rw [HN.out] at hO6 ⊢; have O6 := Lib.hid hO6; have G6 := Lib.hid hg6; clear hO6 hg6 hd6)
        have H6 : Hid (Below (wLabel.heap.size + 1) (wLabel.alloc (.cells #[.slice AEdge 20 cEdge, .slice AVert 12 cVert, .slice ALabel 20 cLabel] 22)) w6) := by
          have h := below_grown H5.out (O5.out.mono F5.out) G6.out (by have := H5.out.size; simpa using this)
          exact h
        refine (readlabel_ok A6 c6 _ _ O6.out.1 O6.out.bytes O6.out.2.1).mono ?_
        rintro e w7 ⟨rfl, hb7⟩
        have H7 : Hid (Below (wLabel.heap.size + 1) (wLabel.alloc (.cells #[.slice AEdge 20 cEdge, .slice AVert 12 cVert, .slice ALabel 20 cLabel] 22)) w7) := by
          have h := H6.out.trans (hb7.mono (by have := H6.out.size; simpa using this))
          exact h
        clear hb7
        go_wp2_with fail
        go_roundw
        case rel => exact ⟨by simp, H7.out⟩
        case measure => simp [intOf]
      · skip
        obtain ⟨N, hN⟩ : ∃ N, q + n = N := ⟨_, rfl⟩
        have HN := Lib.hid hN
        have hne : ((N : Int) == 20) = false := by simp; omega
        have hne2 : N ≠ 20 := by omega
        clear hN
        clear hfit
        go_wp2_with fail
        refine (copy_any ALabel q cLabel ((labelL v hb nx ds).take q) _ HT.out ((Y3.out _ H0.out).take q) (by omega)).mono ?_
        rintro e w5 ⟨A5, c5, rfl, hO5, hb5⟩
        have O5 := Lib.hid hO5
        have H5 : Hid (Below (wLabel.heap.size + 1) (wLabel.alloc (.cells #[.slice AEdge 20 cEdge, .slice AVert 12 cVert, .slice ALabel 20 cLabel] 22)) w5) := by
          have h := H0.out.trans (hb5.mono (by have := H0.out.size; simpa using this))
          exact h
        have F5 : Hid ((wLabel.heap.size + 1) ≤ wr.heap.size) := by
          have h : (wLabel.heap.size + 1) ≤ wr.heap.size := by have := H0.out.size; simpa using this
          exact h
        have X5 : Hid (wr.heap.size ≤ w5.heap.size) := by
          have h := hb5.size
          exact h
        clear hO5 hb5
        go_wp2_with (at_builtin; refine wpList_append_b rfl (.tmp 51) (.tmp 52) _ rfl 5 i0 Try.underlying22 hi0 hz0 hz1 hz2 rfl O5.out rfl (Ym.out _ (Zt.out _ H5.out)) HL.out (by omega) X5.out ?_; intro A6 c6 w6 hO6 hg6 hd6; rw [HN.out] at hO6 ⊢; have O6 := Lib.hid hO6; have G6 := Lib.hid hg6; clear hO6 hg6 hd6)
        have H6 : Hid (Below (wLabel.heap.size + 1) (wLabel.alloc (.cells #[.slice AEdge 20 cEdge, .slice AVert 12 cVert, .slice ALabel 20 cLabel] 22)) w6) := by
          have h := below_grown H5.out (O5.out.mono F5.out) G6.out (by have := H5.out.size; simpa using this)
          exact h
        refine (readlabel_no A6 N c6 _ (by have := HN.out; omega) hne2).mono ?_
        rintro e w7 ⟨rfl, hb7⟩
        have H7 : Hid (Below (wLabel.heap.size + 1) (wLabel.alloc (.cells #[.slice AEdge 20 cEdge, .slice AVert 12 cVert, .slice ALabel 20 cLabel] 22)) w7) := by
          have h := H6.out.trans (hb7.mono (by have := H6.out.size; simpa using this))
          exact h
        clear hb7
        go_wp2_with fail
        go_roundw
        case rel => exact ⟨by simp, H7.out⟩
        case measure => simp [intOf]
    · go_wp2_with fail
      refine (works_any _).mono ?_
      rintro e w6 ⟨rfl, hb6⟩
      go_wp2_with fail
      go_ret
      have h4 := Zt.out _ H0.out
      exact ⟨rfl, h4.trans (hb6.mono h4.size)⟩
end Go.Proofs.Ytchfkelafghbdaa
