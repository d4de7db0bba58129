/- What the shared functions of the statements compute: guard, Roomy, Kept, EqBytes, CopyBytes. -/
import Derived.Test.YtjiiabekjiilbaaMem2
import Derived.Test.YtjiiabekjiilbaaRows
import Derived.WalkKit
import Derived.ProofKit
import Derived.Lib.Hide
import Derived.Deep.QuietTactic
import Derived.BigQuiet
import Derived.Deep.RegionWith
set_option linter.unusedSimpArgs false
set_option linter.unusedVariables false
namespace Go.Proofs.Ytjiiabekjiilbaa
open Go.RowKit Mp

def guardL : List UInt8 := [209, 14, 165, 90, 119, 254, 19]
theorem conv_any (w : World) (s : ByteArray) : (convert 9 22 (.string s)).run Try.prog w = .ok (.slice (some ⟨w.heap.size, 0, none⟩) s.size (capOf 5 w s)) (convW 5 w s) :=
  run_conv _ _ _ Try.underlying9 Try.underlying22 Try.underlying5 w s
theorem str_any {w : World} {B : Nat} {A : Option Addr} {n : Nat} (c : Nat) {l : List UInt8} (hb : Bytes w B A l) (hl : l.length = n) : (convert 22 9 (.slice A n c)).run Try.prog w = .ok (.string (txt l)) w :=
  run_str _ _ _ Try.underlying22 Try.underlying5 Try.underlying9 c hb hl
theorem guard_any (w : World) : Calls Try.prog 28 #[] w fun e w' => e = .returned (.string (txt guardL)) ∧ w = w' := by
  go_enter Try.func28, Try.ntmps28
  go_wp2_with fail
  go_ret
  exact ⟨rfl, rfl⟩

theorem roomy_any (A : Option Addr) (n c : Nat) (l : List UInt8) (w : World) (hl : l.length = n) (hb : Bytes w w.heap.size A l) (hn : n ≤ 1099511627776) :
    Calls Try.prog 11 #[.slice A n c] w fun e w' => ∃ A' c', e = .returned (.slice A' n c') ∧ OwnB w' w.heap.size 5 A' (n + 7) c' (l ++ guardL) ∧ n + 7 ≤ c' ∧ Below w.heap.size w w' := by
  have hcv := str_any c (w := w.drew) (show Bytes w.drew w.heap.size A l from hb) hl
  have hsz : (txt l).size ≤ 1099511627776 := by rw [txt_size]; omega
  have hgz : (txt guardL).size ≤ 7 := by decide
  have hta := txt_add l guardL
  have hsb := conv_any
  have hlen : (l ++ guardL).length = n + 7 := by rw [List.length_append, hl]; rfl
  have hown := convW_own 5 w.drew (l ++ guardL) (by rw [hlen]; simp only [maxLen]; omega)
  have hge := capOf_ge 5 w.drew (txt (l ++ guardL))
  have hbel := convW_below 5 w.drew (txt (l ++ guardL))
  rw [txt_size, hlen] at hge
  rw [hlen] at hown
  have HO := Lib.hid hown
  have HB := Lib.hid hbel
  have hts : (txt (l ++ guardL)).size = n + 7 := hlen
  clear hown hbel hl hb hlen
  generalize hLL : l ++ guardL = LL at *
  have HLL := Lib.hid hLL
  clear hLL
  generalize hW1 : convW 5 w.drew (txt LL) = w1 at *
  generalize hC1 : capOf 5 w.drew (txt LL) = c1 at *
  go_enter Try.func11, Try.ntmps11
  go_wp2_with fail
  go_region_with (go_at_call 28; refine (guard_any _).mono ?_; rintro e w' ⟨rfl, rfl⟩)
  all_goals
    go_wp2_with fail
    go_ret
    exact ⟨_, c1, rfl, HO.out, hge, below_drew HB.out⟩

/-- what Roomy made, looked at again: does it say b, and does the guard stand behind it? -/
theorem kept_any (A : Option Addr) (n c : Nat) (A2 : Option Addr) (m c2 : Nat) (l g l2 : List UInt8) (w : World) (hl : l.length = n) (hc : n + 7 ≤ c) (hb : Bytes w w.heap.size A (l ++ g)) (hg : g.length = 7)
    (hl2 : l2.length = m) (hb2 : Bytes w w.heap.size A2 l2) (hn : n ≤ 1099511627776) (hm : m ≤ 1099511627776) :
    Calls Try.prog 14 #[.slice A n c, .slice A2 m c2] w fun e w' => e = .returned (.bool (l ++ g == l2 ++ guardL)) ∧ Below w.heap.size w w' := by
  have hlen : (l ++ g).length = n + 7 := by rw [List.length_append, hl, hg]
  have hcv := fun k => str_any c (w := w.drewN k) (show Bytes (w.drewN k) w.heap.size A (l ++ g) from hb) hlen
  have hcv2 := fun k => str_any c2 (w := w.drewN k) (show Bytes (w.drewN k) w.heap.size A2 l2 from hb2) hl2
  have hsz : (txt l2).size ≤ 1099511627776 := by rw [txt_size]; omega
  have hgz : (txt guardL).size ≤ 7 := by decide
  have hta := txt_add l2 guardL
  have htl := txt_toList
  have hgs : (txt guardL).size = 7 := by decide
  clear hl hl2 hb hb2 hg hlen
  generalize l ++ g = L1 at *
  generalize l2 ++ guardL = L2 at *
  go_enter Try.func14, Try.ntmps14
  go_wp2_with (go_at_call 28; refine (guard_any _).mono ?_; rintro e w' ⟨rfl, rfl⟩)
  go_quiet ((go_at_call 28; exact Calls.quiet_of_same ((guard_any _).mono fun _ _ h => ⟨h.1, h.2.symm⟩)))
  go_wp2_with fail
  go_ret
  exact ⟨rfl, below_drewN (Below.refl _ _) _⟩

theorem eq_any (A : Option Addr) (n c : Nat) (A2 : Option Addr) (m c2 : Nat) (l l2 : List UInt8) (w : World) (hl : l.length = n) (hb : Bytes w w.heap.size A l) (hl2 : l2.length = m) (hb2 : Bytes w w.heap.size A2 l2) :
    Calls Try.prog 15 #[.slice A n c, .slice A2 m c2] w fun e w' => e = .returned (.bool (l == l2)) ∧ w = w' := by
  have hcv := str_any c (w := w) hb hl
  have hcv2 := str_any c2 (w := w) hb2 hl2
  have htl := txt_toList
  by_cases hnm : n = m
  · subst hnm
    clear hl hl2 hb hb2
    go_enter Try.func15, Try.ntmps15
    go_wp2_with fail
    go_ret
    exact ⟨rfl, rfl⟩
  · have he : (l == l2) = false := by
      rw [beq_eq_false_iff_ne]
      rintro rfl
      exact hnm (hl.symm.trans hl2)
    rw [he]
    have hd : ((n : Int) == (m : Int)) = false := by simp; omega
    clear hl hl2 hb hb2 he
    go_enter Try.func15, Try.ntmps15
    go_wp2_with fail
    go_ret
    exact ⟨rfl, rfl⟩

theorem copy_any (A : Option Addr) (n c : Nat) (l : List UInt8) (w : World) (hl : l.length = n) (hb : Bytes w w.heap.size A l) (hn : n ≤ 1099511627776) :
    Calls Try.prog 27 #[.slice A n c] w fun e w' => ∃ A' c', e = .returned (.slice A' n c') ∧ OwnB w' w.heap.size 5 A' n c' l ∧ Below w.heap.size w w' := by
  by_cases h0 : n = 0
  · subst h0
    have hl0 := List.eq_nil_of_length_eq_zero hl
    subst hl0
    clear hl hb
    go_enter Try.func27, Try.ntmps27
    go_wp2_with fail
    go_ret
    exact ⟨none, 0, rfl, OwnB.nil _ _ _ _, Below.refl _ _⟩
  · have hcv := str_any c (w := w) hb hl
    have hsb := conv_any
    have hown := convW_own 5 w l (by rw [hl]; simp only [maxLen]; omega)
    rw [hl] at hown
    have HO := Lib.hid hown
    have HB := Lib.hid (convW_below 5 w (txt l))
    have hts : (txt l).size = n := hl
    clear hown hl hb
    generalize hW1 : convW 5 w (txt l) = w1 at *
    generalize hC1 : capOf 5 w (txt l) = c1 at *
    have hz : ((n : Int) == 0) = false := by simp; omega
    go_enter Try.func27, Try.ntmps27
    go_wp2_with fail
    go_ret
    exact ⟨_, c1, rfl, HO.out, HB.out⟩
end Go.Proofs.Ytjiiabekjiilbaa
