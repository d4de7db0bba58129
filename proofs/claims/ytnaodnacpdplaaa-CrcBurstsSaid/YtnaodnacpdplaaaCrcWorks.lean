/- The anchor of the statements on sums: the sum that everybody knows. -/
import Derived.Test.YtnaodnacpdplaaaCrcRef
import Derived.Test.YtnaodnacpdplaaaSame
import Derived.Lib.SlBytesConst
set_option linter.unusedSimpArgs false
set_option linter.unusedVariables false
namespace Go.Proofs.Ytnaodnacpdplaaa
open Go.RowKit Mp

def nineL : List UInt8 := [49, 50, 51, 52, 53, 54, 55, 56, 57]
theorem nine_sum : ext 0 nineL = 3808858755 := by decide +kernel
theorem seven_sum : ext 7 [] = 7 := by decide +kernel

theorem works_any (w : World) : Calls Try.prog 9 #[] w fun e w' => e = .returned (.bool true) ∧ Below w.heap.size w w' := by
  have kc := fun (w : World) (C : Array Value) (n c : Nat) => Lib.run_convert_bytes_const (P := Try.prog) w 23 5 C n c Try.underlying23 Try.underlying5
  go_enter Try.func9, Try.ntmps9
  go_wp2_with fail
  refine (sum_any _ 9 9 nineL _ rfl (bytes_new w 5 (9, 10) nineL) (by omega)).mono ?_
  rintro e w1 ⟨rfl, hb1⟩
  have hn := nine_sum
  rw [hn]
  go_wp2_with fail
  refine (extend_any 7 none 0 0 [] _ (by omega) rfl (Bytes.nil _ _ _) (by omega)).mono ?_
  rintro e w2 ⟨rfl, hb2⟩
  rw [seven_sum]
  go_wp2_with fail
  go_ret
  exact ⟨rfl, ((Below.refl _ _).alloc (Nat.le_refl _) _).trans ((hb1.mono (by simp)).trans (hb2.mono (Nat.le_trans (by simp) hb1.size)))⟩
end Go.Proofs.Ytnaodnacpdplaaa
