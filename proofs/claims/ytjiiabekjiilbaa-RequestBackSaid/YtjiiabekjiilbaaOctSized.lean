/- Which sizes a number may have: 1, 2, 4 and 8, in the program and in the reference. -/
import Derived.Test.YtjiiabekjiilbaaMem2
import Derived.Test.YtjiiabekjiilbaaRows
import Derived.WalkKit
import Derived.ProofKit
import Derived.Lib.Hide
import Derived.Handy
set_option linter.unusedSimpArgs false
set_option linter.unusedVariables false
namespace Go.Proofs.Ytjiiabekjiilbaa
open Go.RowKit Mp

/-- is it a size? -/
def Sz (s : Int) : Prop := s = 1 ∨ s = 2 ∨ s = 4 ∨ s = 8
instance (s : Int) : Decidable (Sz s) := by unfold Sz; infer_instance

set_option maxRecDepth 100000 in
set_option maxHeartbeats 1600000 in
theorem index_any (v : Int) (b : Nat) (w : World) (h0 : w.cell? ⟨b, 0, none⟩ = some (.int .i64 1)) (h1 : w.cell? ⟨b, 1, none⟩ = some (.int .i64 2)) (h2 : w.cell? ⟨b, 2, none⟩ = some (.int .i64 4)) (h3 : w.cell? ⟨b, 3, none⟩ = some (.int .i64 8)) :
    Calls Try.prog 60 #[.slice (some ⟨b, 0, none⟩) 4 4, .int .i64 v] w fun e w' => (∃ i : Int, e = .returned (.int .i64 i) ∧ (0 ≤ i ↔ Sz v) ∧ -1 ≤ i ∧ i ≤ 4) ∧ w = w' := by
  go_enter Try.func60, Try.ntmps60
  go_wp2_with fail
  go_loop [8] (fun i => ∃ k : Nat, k ≤ 4 ∧ i = .int .i64 k ∧ (1 ≤ k → v ≠ 1) ∧ (2 ≤ k → v ≠ 2) ∧ (3 ≤ k → v ≠ 4) ∧ (4 ≤ k → v ≠ 8)) (fun i => 4 - (intOf i).toNat)
  case atStart => exact ⟨0, by omega, rfl, by omega, by omega, by omega, by omega⟩
  case round =>
    obtain ⟨k, hk, rfl, g1, g2, g3, g4⟩ := hrel
    have G := Lib.hid (And.intro g1 (And.intro g2 (And.intro g3 g4)))
    clear g1 g2 g3 g4
    rcases (show k = 0 ∨ k = 1 ∨ k = 2 ∨ k = 3 ∨ k = 4 by omega) with rfl | rfl | rfl | rfl | rfl
    · by_cases hv : v = 1
      · subst hv
        go_wp2_with fail
        go_ret
        exact ⟨⟨0, rfl, by simp [Sz], by omega, by omega⟩, rfl⟩
      · have hb : (v == 1) = false := by simpa using hv
        go_wp2_with fail
        go_round
        case rel => exact ⟨1, by omega, by go_num, by have := G.out; omega, by have := G.out; omega, by have := G.out; omega, by have := G.out; omega⟩
        case measure => simp [intOf]
    · by_cases hv : v = 2
      · subst hv
        go_wp2_with fail
        go_ret
        exact ⟨⟨1, rfl, by simp [Sz], by omega, by omega⟩, rfl⟩
      · have hb : (v == 2) = false := by simpa using hv
        go_wp2_with fail
        go_round
        case rel => exact ⟨2, by omega, by go_num, by have := G.out; omega, by have := G.out; omega, by have := G.out; omega, by have := G.out; omega⟩
        case measure => simp [intOf]
    · by_cases hv : v = 4
      · subst hv
        go_wp2_with fail
        go_ret
        exact ⟨⟨2, rfl, by simp [Sz], by omega, by omega⟩, rfl⟩
      · have hb : (v == 4) = false := by simpa using hv
        go_wp2_with fail
        go_round
        case rel => exact ⟨3, by omega, by go_num, by have := G.out; omega, by have := G.out; omega, by have := G.out; omega, by have := G.out; omega⟩
        case measure => simp [intOf]
    · by_cases hv : v = 8
      · subst hv
        go_wp2_with fail
        go_ret
        exact ⟨⟨3, rfl, by simp [Sz], by omega, by omega⟩, rfl⟩
      · have hb : (v == 8) = false := by simpa using hv
        go_wp2_with fail
        go_round
        case rel => exact ⟨4, by omega, by go_num, by have := G.out; omega, by have := G.out; omega, by have := G.out; omega, by have := G.out; omega⟩
        case measure => simp [intOf]
    · go_wp2_with fail
      go_ret
      exact ⟨⟨-1, rfl, by have := G.out; unfold Sz; omega, by omega, by omega⟩, rfl⟩

theorem contains_any (v : Int) (b : Nat) (w : World) (h0 : w.cell? ⟨b, 0, none⟩ = some (.int .i64 1)) (h1 : w.cell? ⟨b, 1, none⟩ = some (.int .i64 2)) (h2 : w.cell? ⟨b, 2, none⟩ = some (.int .i64 4)) (h3 : w.cell? ⟨b, 3, none⟩ = some (.int .i64 8)) :
    Calls Try.prog 58 #[.slice (some ⟨b, 0, none⟩) 4 4, .int .i64 v] w fun e w' => e = .returned (.bool (decide (Sz v))) ∧ w = w' := by
  have H := Lib.hid (index_any v b w h0 h1 h2 h3)
  clear h0 h1 h2 h3
  by_cases hs : Sz v
  · have hd : decide (Sz v) = true := by simpa using hs
    rw [hd]
    have HS := Lib.hid hs
    clear hs hd
    go_enter Try.func58, Try.ntmps58
    go_wp2_with fail
    refine H.out.mono ?_
    rintro e w' ⟨⟨i, rfl, hi, hi1, hi2⟩, rfl⟩
    have h0 : 0 ≤ i := hi.2 HS.out
    clear hi
    go_wp2_with fail
    go_ret
    exact ⟨rfl, rfl⟩
  · have hd : decide (Sz v) = false := by simpa using hs
    rw [hd]
    have HS := Lib.hid hs
    clear hs hd
    go_enter Try.func58, Try.ntmps58
    go_wp2_with fail
    refine H.out.mono ?_
    rintro e w' ⟨⟨i, rfl, hi, hi1, hi2⟩, rfl⟩
    have h0 : ¬ 0 ≤ i := fun h => HS.out (hi.1 h)
    have h0' : decide (0 ≤ i) = false := by simpa using h0
    clear hi h0
    go_wp2_with fail
    go_ret
    exact ⟨rfl, rfl⟩

theorem sized_any (v : Int) (w : World) : Calls Try.prog 47 #[.int .i64 v] w fun e w' => e = .returned (.bool (decide (Sz v))) ∧ Below w.heap.size w w' := by
  go_enter Try.func47, Try.ntmps47
  go_wp2_with fail
  refine (contains_any v w.heap.size _ ((World.cell?_alloc_mark w _ _ _ 0).trans rfl) ((World.cell?_alloc_mark w _ _ _ 1).trans rfl) ((World.cell?_alloc_mark w _ _ _ 2).trans rfl) ((World.cell?_alloc_mark w _ _ _ 3).trans rfl)).mono ?_
  rintro e w' ⟨rfl, rfl⟩
  go_wp2_with fail
  go_ret
  exact ⟨rfl, (Below.refl _ _).alloc (Nat.le_refl _) _⟩

theorem refsized_any (v : Int) (w : World) : Calls Try.prog 52 #[.int .i64 v] w fun e w' => e = .returned (.bool (decide (Sz v))) ∧ w = w' := by
  by_cases hs : Sz v
  · have hd : decide (Sz v) = true := by simpa using hs
    rw [hd]
    rcases hs with rfl | rfl | rfl | rfl
    all_goals
      go_enter Try.func52, Try.ntmps52
      go_wp2_with fail
      go_ret
      exact ⟨rfl, rfl⟩
  · have hd : decide (Sz v) = false := by simpa using hs
    rw [hd]
    have e1 : (v == 1) = false := by unfold Sz at hs; simp; omega
    have e2 : (v == 2) = false := by unfold Sz at hs; simp; omega
    have e4 : (v == 4) = false := by unfold Sz at hs; simp; omega
    have e8 : (v == 8) = false := by unfold Sz at hs; simp; omega
    clear hd hs
    go_enter Try.func52, Try.ntmps52
    go_wp2_with fail
    go_ret
    exact ⟨rfl, rfl⟩
end Go.Proofs.Ytjiiabekjiilbaa
