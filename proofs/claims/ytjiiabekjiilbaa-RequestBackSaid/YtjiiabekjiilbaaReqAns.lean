/- The bytes of an answer, of whatever kind. -/
import Derived.Test.YtjiiabekjiilbaaReqReply
import Derived.Test.YtjiiabekjiilbaaReqKD
set_option linter.unusedSimpArgs false
set_option linter.unusedVariables false
namespace Go.Proofs.Ytjiiabekjiilbaa
open Go.RowKit Mp

def bodyL (k : Nat) (fd : Bool) (ds st n : Nat) (ws : List Ed) : List UInt8 := if k = 1 then distL fd ds else if k = 2 then flagL fd ++ le 4 n ++ wayL ws else if k = 3 then le 1 st else []
theorem body1 (fd : Bool) (ds st n : Nat) (ws : List Ed) : bodyL 1 fd ds st n ws = distL fd ds := rfl
theorem body2 (fd : Bool) (ds st n : Nat) (ws : List Ed) : bodyL 2 fd ds st n ws = flagL fd ++ le 4 n ++ wayL ws := rfl
theorem body3 (fd : Bool) (ds st n : Nat) (ws : List Ed) : bodyL 3 fd ds st n ws = le 1 st := rfl
theorem body0 {k : Nat} (h1 : k ≠ 1) (h2 : k ≠ 2) (h3 : k ≠ 3) (fd : Bool) (ds st n : Nat) (ws : List Ed) : bodyL k fd ds st n ws = [] := by simp [bodyL, h1, h2, h3]
theorem answer_any (k : Nat) (err : Int) (fd : Bool) (ds n c st : Nat) (A : Option Addr) (ws : List Ed) (eb : UInt8) (w : World) (heb : err % 256 = (eb.toNat : Int)) (herr : -9223372036854775808 ≤ err ∧ err ≤ 9223372036854775807)
    (hds : ds ≤ 18446744073709551615) (hst : st ≤ 255) (hws : ws.length = n) (hW : WayAt w w.heap.size A ws) (hok : ∀ x ∈ ws, x.ok) (hn : n ≤ 65536) :
    Calls Try.prog 19 #[.int .u8 k, .agg (repC err fd ds (.slice A n c) st)] w fun e w' => ∃ A' m c', e = .returned (.slice A' m c') ∧ OwnB w' w.heap.size 5 A' m c' (ansL eb (bodyL k fd ds st n ws)) ∧ Below w.heap.size w w' := by
  by_cases h1 : k = 1
  · subst h1; exact answer1 err fd ds st _ eb w rfl heb herr hds
  by_cases h2 : k = 2
  · subst h2; exact answer2 err fd ds n c st A ws eb w heb herr hws hW hok hn
  by_cases h3 : k = 3
  · subst h3; exact answer3 err fd ds st _ eb w rfl heb herr hst
  · rw [body0 h1 h2 h3]
    have : ansL eb [] = [eb] := by unfold ansL; split <;> simp
    rw [this]
    exact answer0 k err fd ds st _ eb w h1 h2 h3 rfl heb herr
/-- the low byte of a number. -/
theorem low_byte (err : Int) : ∃ eb : UInt8, err % 256 = (eb.toNat : Int) := ⟨UInt8.ofNat (err % 256).toNat, by
  have h1 := Int.emod_nonneg err (show (256 : Int) ≠ 0 by decide)
  have h2 := Int.emod_lt_of_pos err (show (0 : Int) < 256 by decide)
  rw [UInt8.toNat_ofNat']
  omega⟩
theorem ans_head {w : World} {lo m c : Nat} {e : TypeId} {A : Option Addr} {eb : UInt8} {X : List UInt8} (h : OwnB w lo e A m c (ansL eb X)) : ∃ g, A = some ⟨g, 0, none⟩ ∧ lo ≤ g ∧ g < w.heap.size ∧ w.cell? ⟨g, 0, none⟩ = some (.int .u8 (eb.toNat : Int)) := by
  have hne : 0 < (ansL eb X).length := by unfold ansL; split <;> simp
  have h0 : (ansL eb X)[0] = eb := by unfold ansL; split <;> simp
  obtain ⟨g, rfl, _, hl, hlt, hc, _⟩ := h.open_ (by have := h.1; have := h.2.1; omega)
  have := hc 0 hne
  rw [h0] at this
  exact ⟨g, rfl, hl, hlt, this⟩
theorem body_length (k : Nat) (fd : Bool) (ds st n : Nat) (ws : List Ed) (h : ws.length = n) : (bodyL k fd ds st n ws).length = if k = 1 then 9 else if k = 2 then 5 + 16 * n else if k = 3 then 1 else 0 := by
  unfold bodyL
  split
  · simp [distL, flagL, le_length]
  · split
    · simp [flagL, le_length, wayL_length, h]; omega
    · split <;> simp [le_length]
end Go.Proofs.Ytjiiabekjiilbaa
