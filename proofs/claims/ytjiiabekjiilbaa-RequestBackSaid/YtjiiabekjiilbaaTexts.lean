/- What milepostref00.texts answers: the bytes of each list, as texts; and when two lists of texts say the same. -/
import Derived.Test.YtjiiabekjiilbaaSame
import Derived.Test.YtjiiabekjiilbaaAppend
import Derived.Laws.AppendOwn
set_option linter.unusedSimpArgs false
set_option linter.unusedVariables false
namespace Go.Proofs.Ytjiiabekjiilbaa
open Go.RowKit Mp

/-- one list of a list of lists: where it lies, its room, its bytes. -/
structure It where
  a : Option Addr
  c : Nat
  l : List UInt8
def It.val (x : It) : Value := .slice x.a x.l.length x.c
def It.str (x : It) : Value := .string (txt x.l)

/-- a slice of values, each of one cell, below block B. -/
def Cells (w : World) (B : Nat) (A : Option Addr) (xs : List Value) : Prop := xs = [] ∨ ∃ b off, A = some ⟨b, off, none⟩ ∧ b < B ∧ ∀ i (h : i < xs.length), w.cell? ⟨b, off + i, none⟩ = some xs[i]
theorem Cells.below {w w' : World} {B : Nat} {A : Option Addr} {xs : List Value} (h : Cells w B A xs) {C : Nat} (hb : Below C w w') (hC : B ≤ C) : Cells w' B A xs := by
  rcases h with h | ⟨b, off, h1, h2, h3⟩
  · exact .inl h
  · exact .inr ⟨b, off, h1, h2, fun i hi => (hb.cell (show b < C by omega)).trans (h3 i hi)⟩
theorem Cells.more {w : World} {B C : Nat} {A : Option Addr} {xs : List Value} (h : Cells w B A xs) (hC : B ≤ C) : Cells w C A xs := by
  rcases h with h | ⟨b, off, h1, h2, h3⟩
  · exact .inl h
  · exact .inr ⟨b, off, h1, by omega, h3⟩
theorem Cells.at_ {w : World} {B : Nat} {A : Option Addr} {xs : List Value} (h : Cells w B A xs) {k : Nat} (hk : k < xs.length) : ∃ b off, A = some ⟨b, off, none⟩ ∧ b < B ∧ ∀ i (h : i < xs.length), w.cell? ⟨b, off + i, none⟩ = some xs[i] := by
  rcases h with h | h
  · subst h; simp at hk
  · exact h

theorem new_one (w : World) (e : TypeId) (u : Value) : ∀ j x, [u][j]? = some x → (w.alloc (.cells #[u] e)).cell? ((⟨w.heap.size, 0, none⟩ : Addr).add j) = some x := by
  intro j x h
  have h0 : j = 0 := by
    rcases j with _ | j
    · rfl
    · simp at h
  subst h0
  have hx : u = x := by simpa using h
  subst hx
  exact ((Blk.new w e #[u]).cell 0).trans rfl
theorem string_info : (Try.prog.info? 9).map (fun i => (i.zero, i.size, i.bytes)) = some (some (.string ⟨#[]⟩), 1, 16) := by kernel_rfl

/-- a list of lists of bytes, as it lies in memory. -/
def Items (w : World) (A : Option Addr) (xs : List It) : Prop := Cells w w.heap.size A (xs.map It.val) ∧ ∀ x ∈ xs, Bytes w w.heap.size x.a x.l
theorem Items.below {w w' : World} {A : Option Addr} {xs : List It} (h : Items w A xs) (hb : Below w.heap.size w w') : Items w' A xs :=
  ⟨(h.1.below hb (Nat.le_refl _)).more hb.size, fun x hx => ((h.2 x hx).below hb).more hb.size⟩

set_option maxRecDepth 100000 in
set_option maxHeartbeats 1600000 in
theorem texts_any (A : Option Addr) (n c : Nat) (xs : List It) (w : World) (hl : xs.length = n) (hI : Items w A xs) (hn : n ≤ 1048576) :
    Calls Try.prog 37 #[.slice A n c] w fun e w' => ∃ v, e = .returned v ∧ w'.ownsRow w.heap.size 9 1 v n (xs.map It.str) ∧ Below w.heap.size w w' := by
  obtain ⟨i0, hi0, hz0, hz1, hz2⟩ := info_parts string_info
  have HL := Lib.hid hl
  have HI := Lib.hid hI
  clear hl hI
  go_enter Try.func37, Try.ntmps37
  go_wp2_with fail
  go_loopw [3, 4] (fun v i wr => ∃ k : Nat, k ≤ n ∧ i = .int .i64 k ∧ wr.ownsRow w.heap.size 9 1 v k ((xs.take k).map It.str) ∧ Below w.heap.size w wr) (fun _ i _ => n - (intOf i).toNat)
  case atStart => exact ⟨0, by omega, rfl, by simpa using World.ownsRow_nil _ _ _ _, Below.refl _ _⟩
  case round =>
    obtain ⟨k, hk, rfl, hO, hbl⟩ := hrel
    have HO := Lib.hid hO
    have HBL := Lib.hid hbl
    clear hO hbl
    by_cases hlt : k < n
    · have hkx : k < xs.length := by have := HL.out; omega
      obtain ⟨b, off, rfl, hbb, hcell⟩ := HI.out.1.at_ (k := k) (by simpa using hkx)
      have hc0 : w.cell? ⟨b, off + k, none⟩ = some (.slice (xs[k]).a (xs[k]).l.length (xs[k]).c) := by
        have := hcell k (by simpa using hkx)
        simpa [It.val] using this
      have hc : wr.cell? ⟨b, off + k, none⟩ = some (.slice (xs[k]).a (xs[k]).l.length (xs[k]).c) := (HBL.out.cell hbb).trans hc0
      have hs := str_any (xs[k]).c ((HI.out.2 _ (List.getElem_mem hkx)).below HBL.out) rfl
      have HT : Hid ((xs.take (k + 1)).map It.str = (xs.take k).map It.str ++ [.string (txt (xs[k]).l)]) := by
        have h : (xs.take (k + 1)).map It.str = (xs.take k).map It.str ++ [.string (txt (xs[k]).l)] := by rw [List.take_succ_eq_append_getElem hkx, List.map_append]; rfl
        exact h
      clear hcell hc0
      have HS := Lib.hid hs
      go_wp2_with (at_builtin; refine wpList_append_own _ rfl (.tmp 11) (.tmp 17) _ rfl w.heap.size 9 i0 (.string ⟨#[]⟩) 1 16 Try.underlying72 hi0 hz0 hz1 hz2 rfl (by decide) _ k _ rfl (HO.out.alloc _) ⟨wr.heap.size, 0, none⟩ 1 1 [.string (txt (xs[k]).l)] rfl rfl (new_one wr _ _) (by simp [Value.oneCell']) (by simp [maxLen]; omega) (by omega) (Nat.le_trans HBL.out.size (by simp)) ?_; intro v2 w3 hO3 hg3 hd3; have HO3 := Lib.hid hO3; have HG3 := Lib.hid hg3; clear hO3 hg3 hd3)
      go_roundw
      case rel =>
        exact ⟨k + 1, by omega, by go_num, by rw [HT.out]; exact HO3.out, ((HBL.out.alloc HBL.out.size _)).grown HG3.out (Nat.le_trans HBL.out.size (by simp)) fun g hg => (World.ownsRow.lt HO.out g hg).1⟩
      case measure => simp [intOf]; omega
    · obtain rfl : k = n := by omega
      go_wp2_with fail
      go_ret
      have h := HO.out
      rw [List.take_of_length_le (by have := HL.out; omega)] at h
      exact ⟨_, rfl, h, HBL.out⟩

/-- an owned row as cells. -/
theorem cells_of_owns {w : World} {lo : Nat} {e : TypeId} {v : Value} {n : Nat} {xs : List Value} (h : w.ownsRow lo e 1 v n xs) (hlo : lo ≤ w.heap.size) : ∃ A c, v = .slice A n c ∧ n ≤ c ∧ Cells w w.heap.size A xs := by
  obtain ⟨h1, h2 | ⟨g, cap, cur, hv, hg, hh, hnc, hcm, hs, ht⟩⟩ := h
  · obtain ⟨rfl, rfl⟩ := h2
    exact ⟨none, 0, rfl, Nat.le_refl _, .inl (List.eq_nil_of_length_eq_zero (by simpa using h1))⟩
  · refine ⟨_, cap, hv, hnc, .inr ⟨g, 0, rfl, lt_of_block hh, fun i hi => ?_⟩⟩
    rw [Nat.zero_add, cell_of_row w g i cur e (0, 0) hh]
    have hin : i < n := by omega
    have h3 : (cur.toList.take (n * 1))[i]? = xs[i]? := by rw [ht]
    rw [Nat.mul_one, List.getElem?_take, if_pos hin] at h3
    rw [show cur[i]? = cur.toList[i]? by simp, h3]
    exact List.getElem?_eq_getElem hi

set_option maxRecDepth 100000 in
set_option maxHeartbeats 1600000 in
/-- two lists of texts that say the same: no place where they differ. -/
theorem differ_same (A A2 : Option Addr) (n c c2 : Nat) (xs : List It) (w : World) (hl : xs.length = n) (h1 : Cells w w.heap.size A (xs.map It.str)) (h2 : Cells w w.heap.size A2 (xs.map It.str)) (hn : n ≤ 1048576) :
    Calls Try.prog 53 #[.slice A n c, .slice A2 n c2] w fun e w' => e = .returned (.int .i64 (-1)) ∧ Below w.heap.size w w' := by
  have HL := Lib.hid hl
  have H1 := Lib.hid h1
  have H2 := Lib.hid h2
  clear hl h1 h2
  go_enter Try.func53, Try.ntmps53
  go_wp2_with fail
  go_loopw [5] (fun i wr => ∃ k : Nat, k ≤ n ∧ i = .int .i64 k ∧ Below w.heap.size w wr) (fun i _ => n - (intOf i).toNat)
  case atStart => exact ⟨0, by omega, rfl, Below.refl _ _⟩
  case round =>
    obtain ⟨k, hk, rfl, hbl⟩ := hrel
    have HBL := Lib.hid hbl
    clear hbl
    by_cases hlt : k < n
    · have hkx : k < xs.length := by have := HL.out; omega
      obtain ⟨b, off, rfl, hbb, hcell⟩ := H1.out.at_ (k := k) (by simpa using hkx)
      obtain ⟨b2, off2, rfl, hbb2, hcell2⟩ := H2.out.at_ (k := k) (by simpa using hkx)
      have hc : wr.drew.cell? ⟨b, off + k, none⟩ = some (.string (txt (xs[k]).l)) := (HBL.out.cell hbb).trans ((hcell k (by simpa using hkx)).trans (by rw [List.getElem_map]; rfl))
      have hc2 : wr.drew.cell? ⟨b2, off2 + k, none⟩ = some (.string (txt (xs[k]).l)) := (HBL.out.cell hbb2).trans ((hcell2 k (by simpa using hkx)).trans (by rw [List.getElem_map]; rfl))
      clear hcell hcell2
      have hi0 : (0 : Int) ≤ (k : Int) := by omega
      have hi1 : (k : Int) < (n : Int) := by omega
      go_wp2_with fail
      go_region
      all_goals go_wp2_with fail
      all_goals go_roundw
      case rel => exact ⟨k + 1, by omega, by go_num, HBL.out.drew⟩
      case measure => simp [intOf]; omega
    · obtain rfl : k = n := by omega
      go_wp2_with fail
      go_ret
      exact ⟨rfl, HBL.out⟩

set_option maxRecDepth 100000 in
theorem eqtexts_same (A A2 : Option Addr) (n c c2 : Nat) (xs : List It) (w : World) (hl : xs.length = n) (h1 : Cells w w.heap.size A (xs.map It.str)) (h2 : Cells w w.heap.size A2 (xs.map It.str)) (hn : n ≤ 1048576) :
    Calls Try.prog 39 #[.slice A n c, .slice A2 n c2] w fun e w' => e = .returned (.bool true) ∧ Below w.heap.size w w' := by
  have G := Lib.hid (differ_same A A2 n c c2 xs w hl h1 h2 hn)
  clear hl h1 h2
  go_enter Try.func39, Try.ntmps39
  go_wp2_with fail
  refine G.out.mono ?_
  rintro e w1 ⟨rfl, hb⟩
  go_wp2_with fail
  go_ret
  exact ⟨rfl, hb⟩

end Go.Proofs.Ytjiiabekjiilbaa
