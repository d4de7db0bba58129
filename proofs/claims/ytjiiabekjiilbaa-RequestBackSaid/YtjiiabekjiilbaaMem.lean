/- Slices of bytes as lists: what a slice that came in, or was made, reads as. No program in sight. -/
import Derived.WalkKit
import Derived.ProofKit
import Derived.Lib.Hide
import Derived.Deep.Draws
set_option linter.unusedSimpArgs false
set_option linter.unusedVariables false
namespace Go.Proofs.Ytjiiabekjiilbaa.Mp
open Go Go.RowKit

theorem below_drew {B : Nat} {w w1 : World} (h : Below B w.drew w1) : Below B w w1 := ⟨h.os, h.tape, h.output, h.size, h.block⟩
theorem below_drewN {B : Nat} {w w1 : World} (h : Below B w w1) (n : Nat) : Below B w (w1.drewN n) := ⟨h.os, h.tape, h.output, h.size, h.block⟩
theorem below_of_drewN {B n : Nat} {w w1 : World} (h : Below B (w.drewN n) w1) : Below B w w1 := ⟨h.os, h.tape, h.output, h.size, h.block⟩
theorem iv {k : IntKind} {a b : Int} (h : a = b) : Value.int k a = Value.int k b := by rw [h]
/-- a byte in a cell. -/
abbrev bv (b : UInt8) : Value := .int .u8 (b.toNat : Nat)

/-- the slice that begins at A reads as the bytes l, and lies below block B. -/
def Bytes (w : World) (B : Nat) (A : Option Addr) (l : List UInt8) : Prop :=
  l = [] ∨ ∃ b off, A = some ⟨b, off, none⟩ ∧ b < B ∧ ∀ i (h : i < l.length), w.cell? ⟨b, off + i, none⟩ = some (bv l[i])

section
variable {w w' : World} {B B' : Nat} {A : Option Addr} {l : List UInt8}
theorem Bytes.nil (w : World) (B : Nat) (A : Option Addr) : Bytes w B A [] := .inl rfl
theorem Bytes.keep (h : Bytes w B A l) (hk : ∀ p : Addr, p.block < B → w'.cell? p = w.cell? p) : Bytes w' B A l := by
  rcases h with h | ⟨b, off, hA, hb, hc⟩
  · exact .inl h
  · exact .inr ⟨b, off, hA, hb, fun i hi => (hk _ hb).trans (hc i hi)⟩
theorem Bytes.more (h : Bytes w B A l) (hB : B ≤ B') : Bytes w B' A l := by
  rcases h with h | ⟨b, off, hA, hb, hc⟩
  · exact .inl h
  · exact .inr ⟨b, off, hA, by omega, hc⟩
theorem Bytes.below (h : Bytes w B A l) (hb : Below B w w') : Bytes w' B A l := h.keep fun _ hp => hb.cell hp
theorem Bytes.at_ {b off : Nat} (h : Bytes w B (some ⟨b, off, none⟩) l) : ∀ i (h : i < l.length), w.cell? ⟨b, off + i, none⟩ = some (bv l[i]) := by
  rcases h with h | ⟨b', off', hA, hb, hc⟩
  · subst h; intro i hi; simp at hi
  · injection hA with hA; injection hA with h1 h2; subst h1; subst h2; exact hc
theorem Bytes.open_ {n : Nat} (h : Bytes w B A l) (hl : l.length = n) (hn : 0 < n) : ∃ b off, A = some ⟨b, off, none⟩ ∧ b < B ∧ ∀ i (h : i < l.length), w.cell? ⟨b, off + i, none⟩ = some (bv l[i]) := by
  rcases h with h | h
  · subst h; simp at hl; omega
  · exact h
/-- the first ones. -/
theorem Bytes.take (h : Bytes w B A l) (k : Nat) : Bytes w B A (l.take k) := by
  rcases h with h | ⟨b, off, hA, hb, hcell⟩
  · left; subst h; simp
  · right
    refine ⟨b, off, hA, hb, fun i hi => ?_⟩
    have hi2 : i < l.length := by simp at hi; omega
    rw [hcell i hi2]; simp
/-- a piece of a slice. -/
theorem Bytes.cut (h : Bytes w B A l) (lo hi cap : Nat) (hlo : lo ≤ hi) (hhi : hi ≤ l.length) (hc : l.length ≤ cap) :
    Bytes w B (if cap = lo then A else A.map (·.add (lo * 1))) ((l.drop lo).take (hi - lo)) := by
  by_cases he : hi = lo
  · subst he; left; simp
  · rcases h with h | ⟨b, off, hA, hb, hcell⟩
    · subst h; simp at hhi; omega
    · right
      refine ⟨b, off + lo, ?_, hb, fun i hi' => ?_⟩
      · rw [if_neg (by omega), hA]
        by_cases h0 : lo = 0
        · subst h0; simp [Addr.add]
        · simp [Addr.add, h0]
      · have hi2 : lo + i < l.length := by simp at hi'; omega
        have := hcell (lo + i) hi2
        rw [Nat.add_assoc]
        rw [this]; simp
end
end Go.Proofs.Ytjiiabekjiilbaa.Mp
