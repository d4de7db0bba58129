/- Apart, of two lists and of three, as the statements call it. -/
import Derived.Test.YtjiiabekjiilbaaApart
set_option linter.unusedSimpArgs false
set_option linter.unusedVariables false
namespace Go.Proofs.Ytjiiabekjiilbaa
open Go.RowKit Mp

/-- not in one block. -/
def Off (x y : Option Nat) : Prop := x = none ∨ x ≠ y
theorem Off.symm {x y : Option Nat} (h : Off x y) : Off y x := by
  unfold Off at *
  rcases h with rfl | h
  · rcases y with _ | y
    · exact .inl rfl
    · exact .inr (by simp)
  · exact .inr fun e => h e.symm
theorem off_of {x y : Option Nat} {B : Nat} (hx : ∀ g, x = some g → g < B) (hy : ∀ g, y = some g → B ≤ g) : Off x y := by
  rcases x with _ | g
  · exact .inl rfl
  · refine .inr fun e => ?_
    have := hx g rfl
    have := hy g e.symm
    omega
theorem lst_new (W : World) (t : TypeId) (vs : List Value) : Lst (W.alloc (.cells vs.toArray t)) (W.alloc (.cells vs.toArray t)).heap.size (some ⟨W.heap.size, 0, none⟩) t vs :=
  .inr ⟨W.heap.size, 0, _, _, rfl, by simp, heap_alloc_new W _, fun i hi => by simp [hi]⟩

theorem apart3 (A1 A2 A3 : Option Addr) (n1 n2 n3 c1 c2 c3 lo : Nat) (l1 l2 l3 : List UInt8) (W : World) (h1 : OwnB W lo 5 A1 n1 c1 l1) (h2 : OwnB W lo 5 A2 n2 c2 l2) (h3 : OwnB W lo 5 A3 n3 c3 l3)
    (d12 : Off (Mp.blk A1 c1) (Mp.blk A2 c2)) (d13 : Off (Mp.blk A1 c1) (Mp.blk A3 c3)) (d23 : Off (Mp.blk A2 c2) (Mp.blk A3 c3)) (b1 : n1 ≤ 536870912) (b2 : n2 ≤ 536870912) (b3 : n3 ≤ 536870912) (hlo : lo ≤ W.heap.size) :
    Calls Try.prog 22 #[.slice (some ⟨W.heap.size, 0, none⟩) 3 3] (W.alloc (.cells #[.slice A1 n1 c1, .slice A2 n2 c2, .slice A3 n3 c3] 22)) fun e w' => e = .returned (.bool true) ∧ Below lo W w' := by
  obtain rfl : l1.length = n1 := h1.1
  obtain rfl : l2.length = n2 := h2.1
  obtain rfl : l3.length = n3 := h3.1
  refine (apart_any (some ⟨W.heap.size, 0, none⟩) 3 3 lo 22 [⟨A1, c1, l1⟩, ⟨A2, c2, l2⟩, ⟨A3, c3, l3⟩] _ rfl (by omega) (by omega) (by decide) (lst_new W 22 _) ?_ ?_ ?_ (Nat.le_trans hlo (by simp))).mono fun e w' h => ⟨h.1, ((Below.refl lo W).alloc hlo _).trans h.2⟩
  · intro x hx
    simp at hx
    rcases hx with rfl | rfl | rfl
    · exact h1.alloc _
    · exact h2.alloc _
    · exact h3.alloc _
  · intro i j hi hj hij
    simp at hi hj
    have hi3 : i = 0 ∨ i = 1 ∨ i = 2 := by omega
    have hj3 : j = 0 ∨ j = 1 ∨ j = 2 := by omega
    rcases hi3 with rfl | rfl | rfl <;> rcases hj3 with rfl | rfl | rfl <;> first | exact absurd rfl hij | exact d12 | exact d13 | exact d23 | exact d12.symm | exact d13.symm | exact d23.symm
  · intro x hx
    simp at hx
    rcases hx with rfl | rfl | rfl <;> assumption

theorem apart2 (A1 A2 : Option Addr) (n1 n2 c1 c2 lo : Nat) (l1 l2 : List UInt8) (W : World) (h1 : OwnB W lo 5 A1 n1 c1 l1) (h2 : OwnB W lo 5 A2 n2 c2 l2)
    (d12 : Off (Mp.blk A1 c1) (Mp.blk A2 c2)) (b1 : n1 ≤ 536870912) (b2 : n2 ≤ 536870912) (hlo : lo ≤ W.heap.size) :
    Calls Try.prog 22 #[.slice (some ⟨W.heap.size, 0, none⟩) 2 2] (W.alloc (.cells #[.slice A1 n1 c1, .slice A2 n2 c2] 22)) fun e w' => e = .returned (.bool true) ∧ Below lo W w' := by
  obtain rfl : l1.length = n1 := h1.1
  obtain rfl : l2.length = n2 := h2.1
  refine (apart_any (some ⟨W.heap.size, 0, none⟩) 2 2 lo 22 [⟨A1, c1, l1⟩, ⟨A2, c2, l2⟩] _ rfl (by omega) (by omega) (by decide) (lst_new W 22 _) ?_ ?_ ?_ (Nat.le_trans hlo (by simp))).mono fun e w' h => ⟨h.1, ((Below.refl lo W).alloc hlo _).trans h.2⟩
  · intro x hx
    simp at hx
    rcases hx with rfl | rfl
    · exact h1.alloc _
    · exact h2.alloc _
  · intro i j hi hj hij
    simp at hi hj
    have hi3 : i = 0 ∨ i = 1 := by omega
    have hj3 : j = 0 ∨ j = 1 := by omega
    rcases hi3 with rfl | rfl <;> rcases hj3 with rfl | rfl <;> first | exact absurd rfl hij | exact d12 | exact d12.symm
  · intro x hx
    simp at hx
    rcases hx with rfl | rfl <;> assumption
end Go.Proofs.Ytjiiabekjiilbaa
