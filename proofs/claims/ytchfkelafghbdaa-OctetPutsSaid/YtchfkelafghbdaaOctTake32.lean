/- take of a number of four bytes. -/
import Derived.Test.YtchfkelafghbdaaOctTake
set_option linter.unusedSimpArgs false
set_option linter.unusedVariables false
namespace Go.Proofs.Ytchfkelafghbdaa
open Go.RowKit Mp

set_option maxRecDepth 100000 in
set_option maxHeartbeats 1600000 in
theorem take32_any (A : Option Addr) (n c s : Nat) (l : List UInt8) (w : World) (hl : l.length = n) (hb : Bytes w w.heap.size A l) (hn : n ≤ 1099511627776) (hnc : n ≤ c) (hs8 : s ≤ 4) (hsn : s ≤ n) :
    Calls Try.prog 43 #[.slice A n c, .int .i64 s] w fun e w' => e = .returned (.tuple #[.int .u32 (num l 0 s : Nat), .slice (restA A c s) (n - s) (c - s)]) ∧ Below w.heap.size w w' := by
  have HL := Lib.hid hl
  have HB := Lib.hid hb
  clear hl hb
  have hsc : (s : Int) ≤ (c : Int) := by omega
  have hsn' : (s : Int) ≤ (n : Int) := by omega
  have hR : Hid (restA A c s = if c = s then A else A.map (·.add s)) := rfl
  have hm : Hid (n - s = n - s) := rfl
  have hc : Hid (c - s = c - s) := rfl
  generalize restA A c s = RA at hR
  generalize hgm : n - s = m2
  generalize hgc : c - s = c2
  have HM := Lib.hid hgm
  have HC := Lib.hid hgc
  clear hm hc hgm hgc
  go_enter Try.func43, Try.ntmps43
  go_wp2_with fail
  go_loop [4, 8] (fun x i => ∃ k : Nat, k ≤ s ∧ i = .int .i64 k ∧ x = .int .u32 (num l 0 k : Nat)) (fun _ i => s - (intOf i).toNat)
  case atStart => exact ⟨0, by omega, rfl, by rw [num_zero]; rfl⟩
  case round =>
    obtain ⟨k, hk, rfl, rfl⟩ := hrel
    by_cases hlt : k < s
    · obtain ⟨b, off, rfl, hbB, hcell⟩ := HB.out.open_ HL.out (by omega)
      have hkl : k < l.length := by have := HL.out; omega
      have hc0 := hcell k hkl
      have hor := Lib.hid (or_u32 l k hkl (by omega))
      have hby := byte_le l[k]
      clear hcell
      go_wp2_with fail
      go_round
      case rel => exact ⟨k + 1, by omega, by go_num, by first | rw [hor.out] | rw [IntKind.wrap_u32, hor.out]⟩
      case measure => simp [intOf]; omega
    · obtain rfl : k = s := by omega
      have hR' := hR.out
      by_cases hck : c = k
      · rw [if_pos hck] at hR'
        have HR := Lib.hid hR'
        clear hR hR'
        obtain rfl : n = k := by omega
        subst hck
        go_wp2_with fail
        go_region
        go_wp2_with fail
        go_ret2
        refine ⟨?_, ?_⟩
        · have := HM.out
          have := HC.out
          obtain rfl : m2 = 0 := by omega
          obtain rfl : c2 = 0 := by omega
          rw [HR.out]; rfl
        · exact (Below.refl _ _).drew
      · rw [if_neg hck] at hR'
        have HR := Lib.hid hR'
        clear hR hR'
        go_wp2_with fail
        go_region
        go_wp2_with fail
        go_ret2
        refine ⟨?_, ?_⟩
        · rw [HR.out, ← HM.out, ← HC.out]; rfl
        · exact (Below.refl _ _).drew

end Go.Proofs.Ytchfkelafghbdaa
