/- A Case and a Burst of the statements on pages that come in by value. -/
import Derived.Test.YtflgelkpblnkcaaStruct
import Derived.Lib.SmallJoins
set_option linter.unusedSimpArgs false
set_option linter.unusedVariables false
namespace Go.Proofs.Ytflgelkpblnkcaa
open Go.ChangeShapes Go.WideShapes Go.ChangeAt Go.RowKit Mp

theorem cell_slice {P : Program} {w : World} {r : Reach} {b : Nat} {t e : TypeId} (ht : P.underlying t = some (.slice e)) {v : Value} (h : Cell.okWide P w r b t v) : ∃ A n c, v = .slice A n c := by
  simp only [Cell.okWide, ht] at h
  cases v <;> simp_all [Cell.ok]
theorem cell_i64 {P : Program} {w : World} {r : Reach} {b : Nat} {t : TypeId} (ht : P.underlying t = some (.int .i64)) {v : Value} (h : Cell.okWide P w r b t v) : ∃ n : Int, v = .int .i64 n ∧ -9223372036854775808 ≤ n ∧ n ≤ 9223372036854775807 := by
  obtain ⟨n, rfl, hn⟩ := cell_int ht h
  have h1 : (-9223372036854775808 : Int) ≤ n ∧ n ≤ 9223372036854775807 := by simpa [IntKind.has, IntKind.min, IntKind.max, IntKind.signed, IntKind.bits] using hn
  exact ⟨n, rfl, h1.1, h1.2⟩

theorem case_types : Try.prog.cellTypes Try.prog.depth 38 = some [23, 22, 22, 22, 22, 23] := by kernel_rfl
theorem case_form {H : Type} {enc : TypeId × Value → H} {W : World} {base : Nat} {spare : Nat → Bool} {held : Bool} {x : Value} {d : DataW H} {p : List MemPlace} {w : World} {r : Reach} {b : Nat} (hv : Value.okWide Try.prog w r b 38 x)
    (h : DataW.Trod enc Try.prog W base spare held 38 x d p) :
    ∃ A n c l t nb t2 nb2 A2 n2 c2 l2, x = .agg #[.slice A n c, .int .u32 (t : Nat), .int .u32 (nb : Nat), .int .u32 (t2 : Nat), .int .u32 (nb2 : Nat), .slice A2 n2 c2] ∧ (t ≤ 4294967295 ∧ nb ≤ 4294967295 ∧ t2 ≤ 4294967295 ∧ nb2 ≤ 4294967295) ∧
      (l.length = n ∧ Bytes W W.heap.size A l ∧ n ≤ c ∧ c ≤ maxLen) ∧ (l2.length = n2 ∧ Bytes W W.heap.size A2 l2 ∧ n2 ≤ c2 ∧ c2 ≤ maxLen) := by
  obtain ⟨l, rfl, hl, hc⟩ := agg_cells Try.underlying38 case_types (by kernel_rfl) hv
  match l, hl with
  | [x0, x1, x2, x3, x4, x5], _ =>
    obtain ⟨A, n, c, rfl⟩ := cell_slice Try.underlying23 (hc 0 (by simp) (by simp))
    obtain ⟨a1, rfl, h1⟩ := cell_u32 Try.underlying22 (hc 1 (by simp) (by simp))
    obtain ⟨a2, rfl, h2⟩ := cell_u32 Try.underlying22 (hc 2 (by simp) (by simp))
    obtain ⟨a3, rfl, h3⟩ := cell_u32 Try.underlying22 (hc 3 (by simp) (by simp))
    obtain ⟨a4, rfl, h4⟩ := cell_u32 Try.underlying22 (hc 4 (by simp) (by simp))
    obtain ⟨A2, n2, c2, rfl⟩ := cell_slice Try.underlying23 (hc 5 (by simp) (by simp))
    obtain ⟨fuel, hf⟩ := h
    obtain ⟨y0, y1, y2, y3, m, hx, _, g0, g1, g2, g3⟩ := Joins.trod_struct4 Try.underlying38 hf
    have k1 : Try.prog.cellsOf 23 = 1 := by kernel_rfl
    have e0 : DataW.Trod enc Try.prog W base spare held 23 (.slice A n c) y0.1 y0.2 := ⟨m, by simpa [Value.cells, k1] using g0⟩
    have e3 : DataW.Trod enc Try.prog W base spare held 23 (.slice A2 n2 c2) y3.1 y3.2 := ⟨m, by simpa [Value.cells, k1] using g3⟩
    obtain ⟨l, hb⟩ := bytes_of_arg e0
    obtain ⟨l2, hb2⟩ := bytes_of_arg e3
    exact ⟨A, n, c, l, a1, a2, a3, a4, A2, n2, c2, l2, rfl, ⟨h1, h2, h3, h4⟩, hb, hb2⟩

theorem burst_types : Try.prog.cellTypes Try.prog.depth 41 = some [22, 22, 23, 3, 22] := by kernel_rfl
theorem burst_form {H : Type} {enc : TypeId × Value → H} {W : World} {base : Nat} {spare : Nat → Bool} {held : Bool} {x : Value} {d : DataW H} {p : List MemPlace} {w : World} {r : Reach} {b : Nat} (hv : Value.okWide Try.prog w r b 41 x)
    (h : DataW.Trod enc Try.prog W base spare held 41 x d p) :
    ∃ (t nb : Nat) (A : Option Addr) (n c : Nat) (l : List UInt8) (a : Int) (m : Nat), x = .agg #[.int .u32 (t : Nat), .int .u32 (nb : Nat), .slice A n c, .int .i64 a, .int .u32 (m : Nat)] ∧ (t ≤ 4294967295 ∧ nb ≤ 4294967295 ∧ m ≤ 4294967295) ∧ (-9223372036854775808 ≤ a ∧ a ≤ 9223372036854775807) ∧
      (l.length = n ∧ Bytes W W.heap.size A l ∧ n ≤ c ∧ c ≤ maxLen) := by
  obtain ⟨l, rfl, hl, hc⟩ := agg_cells Try.underlying41 burst_types (by kernel_rfl) hv
  match l, hl with
  | [x0, x1, x2, x3, x4], _ =>
    obtain ⟨a0, rfl, h0⟩ := cell_u32 Try.underlying22 (hc 0 (by simp) (by simp))
    obtain ⟨a1, rfl, h1⟩ := cell_u32 Try.underlying22 (hc 1 (by simp) (by simp))
    obtain ⟨A, n, c, rfl⟩ := cell_slice Try.underlying23 (hc 2 (by simp) (by simp))
    obtain ⟨a3, rfl, h3⟩ := cell_i64 Try.underlying3 (hc 3 (by simp) (by simp))
    obtain ⟨a4, rfl, h4⟩ := cell_u32 Try.underlying22 (hc 4 (by simp) (by simp))
    obtain ⟨fuel, hf⟩ := h
    obtain ⟨y0, y1, y2, y3, m, hx, _, g0, g1, g2, g3⟩ := Joins.trod_struct4 Try.underlying41 hf
    have k1 : Try.prog.cellsOf 23 = 1 := by kernel_rfl
    have e1 : DataW.Trod enc Try.prog W base spare held 23 (.slice A n c) y1.1 y1.2 := ⟨m, by simpa [Value.cells, k1] using g1⟩
    obtain ⟨l, hb⟩ := bytes_of_arg e1
    exact ⟨a0, a1, A, n, c, l, a3, a4, rfl, ⟨h0, h1, h4⟩, h3, hb⟩
end Go.Proofs.Ytflgelkpblnkcaa
