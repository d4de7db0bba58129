/- CrcApart: from two unlike sums on the same bytes come to two unlike sums. -/
import Derived.Test.YtnaodnacpdplaaaCrcSince
set_option linter.unusedSimpArgs false
set_option linter.unusedVariables false
namespace Go.Proofs.Ytnaodnacpdplaaa
open Go.RowKit Mp

set_option maxRecDepth 100000 in
set_option maxHeartbeats 800000 in
theorem apart_walk (one two : Nat) (A : Option Addr) (n c : Nat) (w : World) (x y : Nat) (hbig : n ≤ 16384)
    (hxy : Hid (one = two ∧ x = y ∨ one ≠ two ∧ x ≠ y))
    (Ha : Hid (∀ W, Since w W → Calls Try.prog 11 #[.int .u32 one, .slice A n c] W fun e w' => e = .returned (.int .u32 x) ∧ Since w w'))
    (Hb : Hid (∀ W, Since w W → Calls Try.prog 11 #[.int .u32 two, .slice A n c] W fun e w' => e = .returned (.int .u32 y) ∧ Since w w')) :
    Calls Try.prog 7 #[.int .u32 one, .int .u32 two, .slice A n c] w fun e w' => e = .returned (.bool true) ∧ Below w.heap.size w w' := by
  rcases hxy.out with ⟨h1, h2⟩ | ⟨h1, h2⟩
  · subst h1; subst h2
    clear hxy Hb
    go_enter Try.func7, Try.ntmps7
    go_wp2_with fail
    refine (Ha.out _ (Since.refl _)).mono ?_
    rintro e w1 ⟨rfl, hs1⟩
    go_wp2_with fail
    refine (Ha.out _ hs1).mono ?_
    rintro e w2 ⟨rfl, hs2⟩
    go_wp2_with fail
    refine (works_since _ hs2).mono ?_
    rintro e w3 ⟨rfl, hs3⟩
    go_wp2_with fail
    go_ret
    exact ⟨rfl, hs3⟩
  · have e1 : ((one : Int) == (two : Int)) = false := by simp; omega
    have e2 : ((x : Int) == (y : Int)) = false := by simp; omega
    clear hxy h1 h2
    go_enter Try.func7, Try.ntmps7
    go_wp2_with fail
    refine (Ha.out _ (Since.refl _)).mono ?_
    rintro e w1 ⟨rfl, hs1⟩
    go_wp2_with fail
    refine (Hb.out _ hs1).mono ?_
    rintro e w2 ⟨rfl, hs2⟩
    go_wp2_with fail
    refine (works_since _ hs2).mono ?_
    rintro e w3 ⟨rfl, hs3⟩
    go_wp2_with fail
    go_ret
    exact ⟨rfl, hs3⟩

theorem law_apart (one two : Nat) (A : Option Addr) (n c : Nat) (l : List UInt8) (w : World) (h1 : one ≤ 4294967295) (h2 : two ≤ 4294967295) (hl : l.length = n) (hb : Bytes w w.heap.size A l) (hcap : n ≤ c ∧ c ≤ maxLen) :
    Calls Try.prog 7 #[.int .u32 one, .int .u32 two, .slice A n c] w fun e w' => e = .returned (.bool true) ∧ Below w.heap.size w w' := by
  by_cases hbig : n ≤ 16384
  · refine apart_walk one two A n c w (ext one l) (ext two l) hbig ?_ (Lib.hid fun W hS => extend_since one A n c l h1 hl hb (by omega) W hS) (Lib.hid fun W hS => extend_since two A n c l h2 hl hb (by omega) W hS)
    by_cases h : one = two
    · exact .inl ⟨h, by rw [h]⟩
    · exact .inr ⟨h, fun e => h (ext_inj (by omega) (by omega) l e)⟩
  · clear hl hb
    go_enter Try.func7, Try.ntmps7
    go_wp2_with (go_at_call 9; refine (works_any _).mono ?_; rintro e w1 ⟨rfl, hb1⟩)
    go_ret
    exact ⟨rfl, ‹_›⟩
end Go.Proofs.Ytnaodnacpdplaaa
