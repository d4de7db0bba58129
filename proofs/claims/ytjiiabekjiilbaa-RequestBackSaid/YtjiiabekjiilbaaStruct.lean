/- A struct of numbers that comes in by value, nested or not: the cells of its value, each with its bounds. -/
import Derived.Test.YtjiiabekjiilbaaOpen
set_option linter.unusedSimpArgs false
set_option linter.unusedVariables false
namespace Go.Proofs.Ytjiiabekjiilbaa
open Go.ChangeShapes Go.WideShapes Go.ChangeAt Go.RowKit Mp

theorem agg_cells {P : Program} {w : World} {r : Reach} {b : Nat} {t : TypeId} {fs : Array Field} {ts : List TypeId} (ht : P.underlying t = some (.struct fs)) (hts : P.cellTypes P.depth t = some ts) (hC : P.cellsOf t = ts.length)
    {v : Value} (h : Value.okWide P w r b t v) : ∃ l : List Value, v = .agg l.toArray ∧ l.length = ts.length ∧ ∀ i (hi : i < ts.length) (hj : i < l.length), Cell.okWide P w r b ts[i] l[i] := by
  simp only [Value.okWide, ht] at h
  obtain ⟨cs, rfl, hsz, ts', hts', _, hc⟩ := h
  rw [hts] at hts'
  obtain rfl : ts = ts' := by simpa using hts'
  obtain ⟨l⟩ := cs
  have hl : l.length = ts.length := by simpa [hC] using hsz
  refine ⟨l, rfl, hl, fun i hi hj => ?_⟩
  obtain ⟨u, hu, hok⟩ := hc i l[i] (by simp [List.getElem?_eq_getElem hj])
  rw [Nat.mod_eq_of_lt hi, List.getElem?_eq_getElem hi] at hu
  obtain rfl : ts[i] = u := by simpa using hu
  exact hok
theorem cell_int {P : Program} {w : World} {r : Reach} {b : Nat} {t : TypeId} {k : IntKind} (ht : P.underlying t = some (.int k)) {v : Value} (h : Cell.okWide P w r b t v) : ∃ n, v = .int k n ∧ k.has n := by
  simp only [Cell.okWide, ht] at h
  cases v <;> simp_all [Cell.ok]
theorem cell_u32 {P : Program} {w : World} {r : Reach} {b : Nat} {t : TypeId} (ht : P.underlying t = some (.int .u32)) {v : Value} (h : Cell.okWide P w r b t v) : ∃ a : Nat, v = .int .u32 a ∧ a ≤ 4294967295 := by
  obtain ⟨n, rfl, hn⟩ := cell_int ht h
  have h1 : (0 : Int) ≤ n ∧ n ≤ 4294967295 := by simpa [IntKind.has, IntKind.min, IntKind.max, IntKind.signed, IntKind.bits] using hn
  exact ⟨n.toNat, by congr 1; omega, by omega⟩
theorem cell_u64 {P : Program} {w : World} {r : Reach} {b : Nat} {t : TypeId} (ht : P.underlying t = some (.int .u64)) {v : Value} (h : Cell.okWide P w r b t v) : ∃ a : Nat, v = .int .u64 a ∧ a ≤ 18446744073709551615 := by
  obtain ⟨n, rfl, hn⟩ := cell_int ht h
  have h1 : (0 : Int) ≤ n ∧ n ≤ 18446744073709551615 := by simpa [IntKind.has, IntKind.min, IntKind.max, IntKind.signed, IntKind.bits] using hn
  exact ⟨n.toNat, by congr 1; omega, by omega⟩
end Go.Proofs.Ytjiiabekjiilbaa
