/- Arguments opened: a slice of bytes as a list of bytes, an unsigned number as a natural number. -/
import Derived.Test.YtjiiabekjiilbaaMem
import Derived.Test.YtjiiabekjiilbaaRows
import Derived.WalkKit
import Derived.ProofKit
import Derived.OpenShut
import Derived.ShutString
import Derived.ChangeOld
import Derived.Below
set_option linter.unusedVariables false
set_option linter.unusedSimpArgs false
namespace Go.Proofs.Ytjiiabekjiilbaa
open Go.ChangeShapes Go.WideShapes Go.ChangeAt Go.RowKit Mp

theorem own : ownKnob Try.prog.godebug = none := by kernel_rfl
theorem laidOut : laidOutB Try.prog = true := by kernel_rfl

theorem nat_of_u8 {z : Int} (h : (Lit.int .u8 z).wf = true) : ∃ a : Nat, z = (a : Int) ∧ a ≤ 255 := by
  have := bounds_u8 h; exact ⟨z.toNat, by omega, by omega⟩
theorem nat_of_u16 {z : Int} (h : (Lit.int .u16 z).wf = true) : ∃ a : Nat, z = (a : Int) ∧ a ≤ 65535 := by
  have := bounds_u16 h; exact ⟨z.toNat, by omega, by omega⟩
theorem nat_of_u32 {z : Int} (h : (Lit.int .u32 z).wf = true) : ∃ a : Nat, z = (a : Int) ∧ a ≤ 4294967295 := by
  have := bounds_u32 h; exact ⟨z.toNat, by omega, by omega⟩
theorem nat_of_u64 {z : Int} (h : (Lit.int .u64 z).wf = true) : ∃ a : Nat, z = (a : Int) ∧ a ≤ 18446744073709551615 := by
  have := bounds_u64 h; exact ⟨z.toNat, by omega, by omega⟩

/-- a slice of bytes that came in. -/
theorem bytes_of_arg {H : Type} {enc : TypeId × Value → H} {W : World} {base : Nat} {spare : Nat → Bool} {held : Bool} {A : Option Addr} {n c : Nat} {d : DataW H} {p : List MemPlace}
    (h : DataW.Trod enc Try.prog W base spare held 22 (.slice A n c) d p) : ∃ l : List UInt8, l.length = n ∧ Bytes W W.heap.size A l ∧ n ≤ c ∧ c ≤ maxLen := by
  obtain ⟨fuel, hf⟩ := h
  rcases open_ints Try.underlying22 Try.underlying5 (by kernel_rfl) hf with ⟨hcs, _⟩ | ⟨x, l, cp, zs, hcs, _, hl, hm, hz, _, hcell, hwz⟩
  · simp [Value.cells] at hcs
    obtain ⟨rfl, rfl, rfl⟩ := hcs
    exact ⟨[], rfl, Bytes.nil _ _ _, Nat.le_refl _, Nat.zero_le _⟩
  · simp [Value.cells] at hcs
    obtain ⟨rfl, rfl, rfl⟩ := hcs
    have hzn : n ≤ zs.length := by
      split at hz <;> omega
    refine ⟨(zs.take n).map fun z => UInt8.ofNat z.toNat, by simp; omega, ?_, hl, hm⟩
    by_cases h0 : n = 0
    · left; simp [h0]
    · right
      obtain ⟨b, off, spot⟩ := x
      have hc := hcell 0 (by omega)
      have hspot : spot = none := by simpa [Addr.add] using World.cell?_spot hc
      subst hspot
      refine ⟨b, off, rfl, World.block_lt_of_cell? W _ hc, fun i hi => ?_⟩
      have hi' : i < n := by simp at hi; omega
      have hadd : (⟨b, off, none⟩ : Addr).add i = ⟨b, off + i, none⟩ := by unfold Addr.add; split <;> simp_all
      have h1 := hcell i (by omega)
      rw [hadd] at h1
      rw [h1]
      have hmem : zs[i]'(by omega) ∈ zs := List.getElem_mem _
      have hb := bounds_u8 (hwz _ hmem)
      simp [List.getD, List.getElem?_eq_getElem (show i < zs.length by omega)]
      omega
end Go.Proofs.Ytjiiabekjiilbaa
