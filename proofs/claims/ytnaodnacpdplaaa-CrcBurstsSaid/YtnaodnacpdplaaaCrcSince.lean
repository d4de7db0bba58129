/- The sums' contracts, said of any world that is as the first one was below its blocks: for regions that draw their order. -/
import Derived.Test.YtnaodnacpdplaaaCrcWorks
import Derived.Deep.RegionHeld3
set_option linter.unusedSimpArgs false
set_option linter.unusedVariables false
namespace Go.Proofs.Ytnaodnacpdplaaa
open Go.RowKit Mp

/-- what was there when w was is as it was. -/
def Since (w w' : World) : Prop := Below w.heap.size w w'
theorem Since.refl (w : World) : Since w w := Below.refl _ _
theorem Since.drew {w w' : World} (h : Since w w') : Since w w'.drew := Below.drew h
theorem Since.step {w w' w'' : World} (h : Since w w') (k : Below w'.heap.size w' w'') : Since w w'' := Below.trans h (k.mono h.size)
theorem Since.bytes {w w' : World} (h : Since w w') {A : Option Addr} {l : List UInt8} (hb : Bytes w w.heap.size A l) : Bytes w' w'.heap.size A l := (hb.below h).more h.size

theorem extend_since {w : World} (s : Nat) (A : Option Addr) (n c : Nat) (l : List UInt8) (hs : s ≤ 4294967295) (hl : l.length = n) (hb : Bytes w w.heap.size A l) (hn : n ≤ 1099511627776) (W : World) (hS : Since w W) :
    Calls Try.prog 11 #[.int .u32 s, .slice A n c] W fun e w' => e = .returned (.int .u32 (ext s l : Nat)) ∧ Since w w' :=
  (extend_any s A n c l W hs hl (hS.bytes hb) hn).mono fun _ _ h => ⟨h.1, hS.step h.2⟩
theorem sum_since {w : World} (A : Option Addr) (n c : Nat) (l : List UInt8) (hl : l.length = n) (hb : Bytes w w.heap.size A l) (hn : n ≤ 1099511627776) (W : World) (hS : Since w W) :
    Calls Try.prog 13 #[.slice A n c] W fun e w' => e = .returned (.int .u32 (ext 0 l : Nat)) ∧ Since w w' :=
  (sum_any A n c l W hl (hS.bytes hb) hn).mono fun _ _ h => ⟨h.1, hS.step h.2⟩
theorem works_since {w : World} (W : World) (hS : Since w W) :
    Calls Try.prog 9 #[] W fun e w' => e = .returned (.bool true) ∧ Since w w' :=
  (works_any W).mono fun _ _ h => ⟨h.1, hS.step h.2⟩
end Go.Proofs.Ytnaodnacpdplaaa
