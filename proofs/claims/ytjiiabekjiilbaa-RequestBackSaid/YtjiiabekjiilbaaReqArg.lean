/- A question that comes in by value. -/
import Derived.Test.YtjiiabekjiilbaaStruct
set_option linter.unusedSimpArgs false
set_option linter.unusedVariables false
namespace Go.Proofs.Ytjiiabekjiilbaa
open Go.ChangeShapes Go.WideShapes Go.ChangeAt Go.RowKit Mp

theorem cell_u8 {P : Program} {w : World} {r : Reach} {b : Nat} {t : TypeId} (ht : P.underlying t = some (.int .u8)) {v : Value} (h : Cell.okWide P w r b t v) : ∃ a : Nat, v = .int .u8 a ∧ a ≤ 255 := by
  obtain ⟨n, rfl, hn⟩ := cell_int ht h
  have h1 : (0 : Int) ≤ n ∧ n ≤ 255 := by simpa [IntKind.has, IntKind.min, IntKind.max, IntKind.signed, IntKind.bits] using hn
  exact ⟨n.toNat, by congr 1; omega, by omega⟩
theorem ask_types : Try.prog.cellTypes Try.prog.depth 25 = some [5, 23, 23] := by kernel_rfl
theorem ask_form {w : World} {r : Reach} {b : Nat} {x : Value} (h : Value.okWide Try.prog w r b 25 x) :
    ∃ k s t : Nat, x = .agg #[.int .u8 k, .int .u32 s, .int .u32 t] ∧ k ≤ 255 ∧ s ≤ 4294967295 ∧ t ≤ 4294967295 := by
  obtain ⟨l, rfl, hl, hc⟩ := agg_cells Try.underlying25 ask_types (by kernel_rfl) h
  match l, hl with
  | [x0, x1, x2], _ =>
    obtain ⟨a0, rfl, h0⟩ := cell_u8 Try.underlying5 (hc 0 (by simp) (by simp))
    obtain ⟨a1, rfl, h1⟩ := cell_u32 Try.underlying23 (hc 1 (by simp) (by simp))
    obtain ⟨a2, rfl, h2⟩ := cell_u32 Try.underlying23 (hc 2 (by simp) (by simp))
    exact ⟨a0, a1, a2, rfl, h0, h1, h2⟩
end Go.Proofs.Ytjiiabekjiilbaa
