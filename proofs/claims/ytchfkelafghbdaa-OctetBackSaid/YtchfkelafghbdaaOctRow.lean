/- A Row that comes in by value: eleven numbers. -/
import Derived.Test.YtchfkelafghbdaaStruct
set_option linter.unusedSimpArgs false
set_option linter.unusedVariables false
namespace Go.Proofs.Ytchfkelafghbdaa
open Go.ChangeShapes Go.WideShapes Go.ChangeAt Go.RowKit Mp

theorem row_types : Try.prog.cellTypes Try.prog.depth 46 = some [38, 38, 25, 38, 38, 38, 38, 38, 38, 25, 38] := by kernel_rfl
theorem row_form {w : World} {r : Reach} {b : Nat} {x : Value} (h : Value.okWide Try.prog w r b 46 x) :
    ∃ t hd wt m rk lv gn hb nx ds v : Nat, x = .agg #[.int .u32 t, .int .u32 hd, .int .u64 wt, .int .u32 m, .int .u32 rk, .int .u32 lv, .int .u32 gn, .int .u32 hb, .int .u32 nx, .int .u64 ds, .int .u32 v] ∧
      t ≤ 4294967295 ∧ hd ≤ 4294967295 ∧ wt ≤ 18446744073709551615 ∧ m ≤ 4294967295 ∧ rk ≤ 4294967295 ∧ lv ≤ 4294967295 ∧ gn ≤ 4294967295 ∧ hb ≤ 4294967295 ∧ nx ≤ 4294967295 ∧ ds ≤ 18446744073709551615 ∧ v ≤ 4294967295 := by
  obtain ⟨l, rfl, hl, hc⟩ := agg_cells Try.underlying46 row_types (by kernel_rfl) h
  match l, hl with
  | [x0, x1, x2, x3, x4, x5, x6, x7, x8, x9, x10], _ =>
    obtain ⟨a0, rfl, h0⟩ := cell_u32 Try.underlying38 (hc 0 (by simp) (by simp))
    obtain ⟨a1, rfl, h1⟩ := cell_u32 Try.underlying38 (hc 1 (by simp) (by simp))
    obtain ⟨a2, rfl, h2⟩ := cell_u64 Try.underlying25 (hc 2 (by simp) (by simp))
    obtain ⟨a3, rfl, h3⟩ := cell_u32 Try.underlying38 (hc 3 (by simp) (by simp))
    obtain ⟨a4, rfl, h4⟩ := cell_u32 Try.underlying38 (hc 4 (by simp) (by simp))
    obtain ⟨a5, rfl, h5⟩ := cell_u32 Try.underlying38 (hc 5 (by simp) (by simp))
    obtain ⟨a6, rfl, h6⟩ := cell_u32 Try.underlying38 (hc 6 (by simp) (by simp))
    obtain ⟨a7, rfl, h7⟩ := cell_u32 Try.underlying38 (hc 7 (by simp) (by simp))
    obtain ⟨a8, rfl, h8⟩ := cell_u32 Try.underlying38 (hc 8 (by simp) (by simp))
    obtain ⟨a9, rfl, h9⟩ := cell_u64 Try.underlying25 (hc 9 (by simp) (by simp))
    obtain ⟨a10, rfl, h10⟩ := cell_u32 Try.underlying38 (hc 10 (by simp) (by simp))
    exact ⟨a0, a1, a2, a3, a4, a5, a6, a7, a8, a9, a10, rfl, h0, h1, h2, h3, h4, h5, h6, h7, h8, h9, h10⟩
end Go.Proofs.Ytchfkelafghbdaa
