/- Small laws between the model's integers and natural numbers: exclusive or, halving steps, bytes. No program in sight. -/
import Derived.Test.YtjiiabekjiilbaaPlain
import Derived.WalkKit
import Derived.Laws.BitsAllLaws
set_option linter.unusedSimpArgs false
namespace Go.Proofs.Ytjiiabekjiilbaa.Mp
open Go Go.RowKit

theorem step_u32 (X : Nat) (h : X ≤ 4294967295) : bits .xor .u32 ((X : Int) / 2) (2197175160 * bits .and .u32 (X : Int) 1 % 4294967296) = ((L X : Nat) : Int) := by
  have h1 : bits .and .u32 (X : Int) 1 = ((X % 2 : Nat) : Int) := by
    rw [← nat_mask1]; exact u32_and_nat X 1 (by omega) (by omega)
  rw [h1]
  have h2 : (2197175160 * ((X % 2 : Nat) : Int) % 4294967296) = ((if X % 2 = 1 then poly else 0 : Nat) : Int) := by
    unfold poly
    split <;> omega
  rw [h2, show (X : Int) / 2 = ((X / 2 : Nat) : Int) by omega, u32_xor_nat _ _ (by omega) (by unfold poly; split <;> omega)]
  rfl

theorem not_u32 (s : Nat) (h : s ≤ 4294967295) : bits .xor .u32 IntKind.u32.max (s : Int) = ((s ^^^ M : Nat) : Int) := by
  rw [show IntKind.u32.max = ((M : Nat) : Int) by decide, u32_xor_nat _ _ (by decide) (by omega), Nat.xor_comm]
theorem xor_le {a b : Nat} (ha : a ≤ 4294967295) (hb : b ≤ 4294967295) : a ^^^ b ≤ 4294967295 := by
  have := Nat.xor_lt_two_pow (x := a) (y := b) (n := 32) (by omega) (by omega); omega
theorem xor_u8 (X : Nat) (b : UInt8) : bits .xor .u8 ((X : Int) % 256) (b.toNat : Int) = ((X % 256 ^^^ b.toNat : Nat) : Int) := by
  have := byte_lt b
  rw [show (X : Int) % 256 = ((X % 256 : Nat) : Int) by omega, u8_xor_nat _ _ (by omega) (by omega)]
theorem xor_u8_lt (X : Nat) (b : UInt8) : X % 256 ^^^ b.toNat < 256 :=
  Nat.xor_lt_two_pow (n := 8) (by omega) (byte_lt b)
theorem xor_u32 (a b : Nat) (ha : a ≤ 4294967295) (hb : b ≤ 4294967295) : bits .xor .u32 (a : Int) (b : Int) = ((a ^^^ b : Nat) : Int) := u32_xor_nat _ _ (by omega) (by omega)
theorem Ln_le (n : Nat) {X : Nat} (h : X ≤ 4294967295) : Ln n X ≤ 4294967295 := by
  have := Ln_lt n (a := X) (by omega); omega
theorem tab_step (X : Nat) (b : UInt8) (hX : X ≤ 4294967295) : bits .xor .u32 ((X : Int) / 256) ((Ln 8 (X % 256 ^^^ b.toNat) : Nat) : Int) = ((Ln 8 (X ^^^ b.toNat) : Nat) : Int) := by
  have h := xor_u8_lt X b
  rw [show (X : Int) / 256 = ((X / 256 : Nat) : Int) by omega, xor_u32 _ _ (by omega) (Ln_le 8 (by omega)), ← step_table]
theorem byte_le (b : UInt8) : b.toNat ≤ 255 := by have := byte_lt b; omega
theorem L_odd (X : Nat) (h : X ≤ 4294967295) (ho : X % 2 = 1) : bits .xor .u32 ((X : Int) / 2) 2197175160 = ((L X : Nat) : Int) := by
  rw [show (X : Int) / 2 = ((X / 2 : Nat) : Int) by omega, show (2197175160 : Int) = ((poly : Nat) : Int) by rfl, xor_u32 _ _ (by omega) (by decide)]
  unfold L; rw [if_pos ho]
theorem L_even (X : Nat) (ho : ¬ X % 2 = 1) : ((L X : Nat) : Int) = (X : Int) / 2 := by
  unfold L; rw [if_neg ho]; simp
theorem xor_M (s : Nat) (h : s ≤ 4294967295) : bits .xor .u32 (s : Int) 4294967295 = ((s ^^^ M : Nat) : Int) := by
  rw [show (4294967295 : Int) = ((M : Nat) : Int) by rfl, xor_u32 _ _ h (by decide)]
theorem xor_byte (X : Nat) (b : UInt8) (hX : X ≤ 4294967295) : bits .xor .u32 (X : Int) (b.toNat : Int) = ((X ^^^ b.toNat : Nat) : Int) :=
  xor_u32 _ _ hX (by have := byte_le b; omega)
theorem xor3_u8 (a b c : UInt8) : bits .xor .u8 (bits .xor .u8 (a.toNat : Int) (b.toNat : Int)) (c.toNat : Int) = ((a ^^^ b ^^^ c).toNat : Int) := by
  have ha := byte_lt a
  have hb := byte_lt b
  have hc := byte_lt c
  have hab : a.toNat ^^^ b.toNat < 2 ^ 8 := Nat.xor_lt_two_pow ha hb
  rw [u8_xor_nat _ _ (by omega) (by omega), u8_xor_nat _ _ (by omega) (by omega), UInt8.toNat_xor, UInt8.toNat_xor]
theorem flip_u8 (x : UInt8) (j : Nat) (hj : j < 8) : ∃ y : UInt8, y.toNat = x.toNat ^^^ 2 ^ j ∧ bits .xor .u8 (x.toNat : Int) ((2 : Int) ^ j % 256) = (y.toNat : Int) := by
  have h2 : 2 ^ j < 2 ^ 8 := Nat.pow_lt_pow_right (by decide) hj
  have hx := byte_lt x
  have hxj : x.toNat ^^^ 2 ^ j < 2 ^ 8 := Nat.xor_lt_two_pow hx h2
  have hy : (UInt8.ofNat (x.toNat ^^^ 2 ^ j)).toNat = x.toNat ^^^ 2 ^ j := by
    rw [UInt8.toNat_ofNat']; exact Nat.mod_eq_of_lt hxj
  refine ⟨_, hy, ?_⟩
  have e : (2 : Int) ^ j % 256 = ((2 ^ j : Nat) : Int) := by
    have h : ((2 : Int) ^ j) = ((2 ^ j : Nat) : Int) := by simp
    rw [h]
    generalize 2 ^ j = p at h2
    omega
  rw [e, u8_xor_nat _ _ (by omega) (by omega), hy]
theorem or_step (X : Nat) (b : UInt8) (hX : X ≤ 16777215) : bits .or .u32 ((X : Int) * 256) (b.toNat : Int) = ((b.toNat + 256 * X : Nat) : Int) := by
  have hb := byte_lt b
  have h := u32_or_nat (X * 256) b.toNat (by omega) (by omega)
  rw [show ((X : Int) * 256) = ((X * 256 : Nat) : Int) by omega, h, Nat.or_comm, show X * 256 = 2 ^ 8 * X by omega, or_add X hb]
theorem L_le {X : Nat} (h : X ≤ 4294967295) : L X ≤ 4294967295 := by
  have := L_lt (a := X) (by omega); omega
end Go.Proofs.Ytjiiabekjiilbaa.Mp
