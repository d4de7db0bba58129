/- What take takes from the front of bytes: a number, the lowest byte first, and the rest. -/
import Derived.Test.YtjiiabekjiilbaaOctSized
import Derived.Test.YtjiiabekjiilbaaBits
set_option linter.unusedSimpArgs false
set_option linter.unusedVariables false
namespace Go.Proofs.Ytjiiabekjiilbaa
open Go.RowKit Mp

theorem num_zero (l : List UInt8) : num l 0 0 = 0 := by simp [num, bval]
theorem num_succ (l : List UInt8) (k : Nat) (h : k < l.length) : num l 0 (k + 1) = num l 0 k + 2 ^ (8 * k) * (l[k]).toNat := by
  unfold num
  simp only [List.drop_zero]
  rw [List.take_succ_eq_append_getElem h, bval_snoc, List.length_take, Nat.min_eq_left (by omega)]
/-- where the rest of a slice begins. -/
def restA (A : Option Addr) (c k : Nat) : Option Addr := if c = k then A else A.map (·.add k)

theorem or_u64 (l : List UInt8) (k : Nat) (h : k < l.length) (hk : k < 8) : bits .or .u64 ((num l 0 k : Nat) : Int) (((l[k]).toNat : Int) * 2 ^ (8 * k) % 18446744073709551616) = ((num l 0 (k + 1) : Nat) : Int) := by
  have hb := byte_lt l[k]
  have hn := num_lt l 0 k
  have hp : 2 ^ (8 * k) * (l[k]).toNat < 2 ^ 64 := by
    have h1 : 2 ^ (8 * k) * (l[k]).toNat < 2 ^ (8 * k) * 2 ^ 8 := Nat.mul_lt_mul_of_pos_left hb (Nat.two_pow_pos _)
    rw [← Nat.pow_add] at h1
    exact Nat.lt_of_lt_of_le h1 (Nat.pow_le_pow_right (by decide) (by omega))
  have hn2 : num l 0 k < 2 ^ 64 := Nat.lt_of_lt_of_le hn (Nat.pow_le_pow_right (by decide) (by omega))
  have e : ((l[k]).toNat : Int) * 2 ^ (8 * k) % 18446744073709551616 = ((2 ^ (8 * k) * (l[k]).toNat : Nat) : Int) := by
    have h2 : ((2 : Int) ^ (8 * k)) = ((2 ^ (8 * k) : Nat) : Int) := by simp
    rw [h2, ← Int.natCast_mul, Nat.mul_comm]
    generalize 2 ^ (8 * k) * (l[k]).toNat = z at hp
    omega
  rw [e, u64_or_nat _ _ (by omega) (by omega), or_add _ hn, num_succ l k h]

theorem or_u32 (l : List UInt8) (k : Nat) (h : k < l.length) (hk : k < 4) : bits .or .u32 ((num l 0 k : Nat) : Int) (((l[k]).toNat : Int) * 2 ^ (8 * k) % 4294967296) = ((num l 0 (k + 1) : Nat) : Int) := by
  have hb := byte_lt l[k]
  have hn := num_lt l 0 k
  have hp : 2 ^ (8 * k) * (l[k]).toNat < 2 ^ 32 := by
    have h1 : 2 ^ (8 * k) * (l[k]).toNat < 2 ^ (8 * k) * 2 ^ 8 := Nat.mul_lt_mul_of_pos_left hb (Nat.two_pow_pos _)
    rw [← Nat.pow_add] at h1
    exact Nat.lt_of_lt_of_le h1 (Nat.pow_le_pow_right (by decide) (by omega))
  have hn2 : num l 0 k < 2 ^ 32 := Nat.lt_of_lt_of_le hn (Nat.pow_le_pow_right (by decide) (by omega))
  have e : ((l[k]).toNat : Int) * 2 ^ (8 * k) % 4294967296 = ((2 ^ (8 * k) * (l[k]).toNat : Nat) : Int) := by
    have h2 : ((2 : Int) ^ (8 * k)) = ((2 ^ (8 * k) : Nat) : Int) := by simp
    rw [h2, ← Int.natCast_mul, Nat.mul_comm]
    generalize 2 ^ (8 * k) * (l[k]).toNat = z at hp
    omega
  rw [e, u32_or_nat _ _ (by omega) (by omega), or_add _ hn, num_succ l k h]

set_option maxRecDepth 100000 in
set_option maxHeartbeats 1600000 in
theorem take64_any (A : Option Addr) (n c s : Nat) (l : List UInt8) (w : World) (hl : l.length = n) (hb : Bytes w w.heap.size A l) (hn : n ≤ 1099511627776) (hnc : n ≤ c) (hs8 : s ≤ 8) (hsn : s ≤ n) :
    Calls Try.prog 48 #[.slice A n c, .int .i64 s] w fun e w' => e = .returned (.tuple #[.int .u64 (num l 0 s : Nat), .slice (restA A c s) (n - s) (c - s)]) ∧ Below w.heap.size w w' := by
  have HL := Lib.hid hl
  have HB := Lib.hid hb
  clear hl hb
  have hsc : (s : Int) ≤ (c : Int) := by omega
  have hsn' : (s : Int) ≤ (n : Int) := by omega
  have hR : Hid (restA A c s = if c = s then A else A.map (·.add s)) := rfl
  have hm : Hid (n - s = n - s) := rfl
  have hc : Hid (c - s = c - s) := rfl
  generalize restA A c s = RA at hR
  generalize hgm : n - s = m2
  generalize hgc : c - s = c2
  have HM := Lib.hid hgm
  have HC := Lib.hid hgc
  clear hm hc hgm hgc
  go_enter Try.func48, Try.ntmps48
  go_wp2_with fail
  go_loop [4, 8] (fun x i => ∃ k : Nat, k ≤ s ∧ i = .int .i64 k ∧ x = .int .u64 (num l 0 k : Nat)) (fun _ i => s - (intOf i).toNat)
  case atStart => exact ⟨0, by omega, rfl, by rw [num_zero]; rfl⟩
  case round =>
    obtain ⟨k, hk, rfl, rfl⟩ := hrel
    by_cases hlt : k < s
    · obtain ⟨b, off, rfl, hbB, hcell⟩ := HB.out.open_ HL.out (by omega)
      have hkl : k < l.length := by have := HL.out; omega
      have hc0 := hcell k hkl
      have hor := Lib.hid (or_u64 l k hkl (by omega))
      have hby := byte_le l[k]
      clear hcell
      go_wp2_with fail
      go_round
      case rel => exact ⟨k + 1, by omega, by go_num, by first | rw [hor.out] | rw [IntKind.wrap_u64, hor.out]⟩
      case measure => simp [intOf]; omega
    · obtain rfl : k = s := by omega
      have hR' := hR.out
      by_cases hck : c = k
      · rw [if_pos hck] at hR'
        have HR := Lib.hid hR'
        clear hR hR'
        obtain rfl : n = k := by omega
        subst hck
        go_wp2_with fail
        go_region
        go_wp2_with fail
        go_ret2
        refine ⟨?_, ?_⟩
        · have := HM.out
          have := HC.out
          obtain rfl : m2 = 0 := by omega
          obtain rfl : c2 = 0 := by omega
          rw [HR.out]; rfl
        · exact (Below.refl _ _).drew
      · rw [if_neg hck] at hR'
        have HR := Lib.hid hR'
        clear hR hR'
        go_wp2_with fail
        go_region
        go_wp2_with fail
        go_ret2
        refine ⟨?_, ?_⟩
        · rw [HR.out, ← HM.out, ← HC.out]; rfl
        · exact (Below.refl _ _).drew

end Go.Proofs.Ytjiiabekjiilbaa
