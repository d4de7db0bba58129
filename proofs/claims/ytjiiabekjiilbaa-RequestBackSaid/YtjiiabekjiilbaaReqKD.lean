/- Answers of distances and of states, written and read. -/
import Derived.Test.YtjiiabekjiilbaaReqAnswer
import Derived.Test.YtjiiabekjiilbaaReqReadA
set_option linter.unusedSimpArgs false
set_option linter.unusedVariables false
namespace Go.Proofs.Ytjiiabekjiilbaa
open Go.RowKit Mp

def distL (fd : Bool) (ds : Nat) : List UInt8 := flagL fd ++ le 8 ds
theorem answer1 (err : Int) (fd : Bool) (ds st : Nat) (way : Value) (eb : UInt8) (w : World) (hway : way.oneCell' = true) (heb : err % 256 = (eb.toNat : Int)) (herr : -9223372036854775808 ≤ err ∧ err ≤ 9223372036854775807) (hds : ds ≤ 18446744073709551615) :
    Calls Try.prog 19 #[.int .u8 1, .agg (repC err fd ds way st)] w fun e w' => ∃ A' n c', e = .returned (.slice A' n c') ∧ OwnB w' w.heap.size 5 A' n c' (ansL eb (distL fd ds)) ∧ Below w.heap.size w w' :=
  answer_dist 1 err fd ds st way eb _ (distL fd ds) w hway heb rfl herr (fun W m h => look1 h) fun W ga hga h hb => by
    have := putdist_any w.heap.size ga w.heap.size err fd ds st way [eb] W h (by simp) hds
    rw [List.append_assoc] at this
    exact this
theorem answer3 (err : Int) (fd : Bool) (ds st : Nat) (way : Value) (eb : UInt8) (w : World) (hway : way.oneCell' = true) (heb : err % 256 = (eb.toNat : Int)) (herr : -9223372036854775808 ≤ err ∧ err ≤ 9223372036854775807) (hst : st ≤ 255) :
    Calls Try.prog 19 #[.int .u8 3, .agg (repC err fd ds way st)] w fun e w' => ∃ A' n c', e = .returned (.slice A' n c') ∧ OwnB w' w.heap.size 5 A' n c' (ansL eb (le 1 st)) ∧ Below w.heap.size w w' :=
  answer_state 3 err fd ds st way eb _ (le 1 st) w hway heb rfl herr (fun W m h => look3 h) fun W ga hga h hb => putstate_any w.heap.size ga w.heap.size err fd ds st way [eb] W h (by simp) hst
theorem answer0 (k : Nat) (err : Int) (fd : Bool) (ds st : Nat) (way : Value) (eb : UInt8) (w : World) (hk1 : k ≠ 1) (hk2 : k ≠ 2) (hk3 : k ≠ 3) (hway : way.oneCell' = true) (heb : err % 256 = (eb.toNat : Int)) (herr : -9223372036854775808 ≤ err ∧ err ≤ 9223372036854775807) :
    Calls Try.prog 19 #[.int .u8 k, .agg (repC err fd ds way st)] w fun e w' => ∃ A' n c', e = .returned (.slice A' n c') ∧ OwnB w' w.heap.size 5 A' n c' [eb] ∧ Below w.heap.size w w' :=
  answer_no k err fd ds st way eb w hway heb herr (fun W m h => look_no k hk1 hk2 hk3 h)

/-- what the readers of distances and of states leave, of the bytes behind the first. -/
def QD (l : List UInt8) (fd : Bool) (ds : Nat) (way : Value) (st : Nat) (bd : Bool) (l' : List UInt8) (_ : World) : Prop := TD l.tail fd ds bd l' ∧ way = nil_ ∧ st = 0
def QS (l : List UInt8) (fd : Bool) (ds : Nat) (way : Value) (st : Nat) (bd : Bool) (l' : List UInt8) (_ : World) : Prop := TS l.tail st bd l' ∧ st ≤ 255 ∧ way = nil_ ∧ fd = false ∧ ds = 0
theorem readans1 (n c : Nat) (A : Option Addr) (l : List UInt8) (w : World) (hl : l.length = n) (hb : Bytes w w.heap.size A l) (hn : n ≤ 1099511627776) (hnc : n ≤ c) (hcm : c ≤ maxLen) :
    Calls Try.prog 23 #[.int .u8 1, .slice A n c] w fun e w' => RH l (QD l) e w' ∧ Below w.heap.size w w' :=
  read_dist 1 n c _ A l (QD l) w rfl hl hb hn hnc hcm (fun W m h => look1 h) (fun _ _ _ _ _ _ _ _ _ _ _ h => h) fun W ga t ht h hB =>
    (takedist_any w.heap.size ga w.heap.size 0 false 0 0 nil_ t W h (by have := congrArg List.length ht; simp at this; omega)).mono fun e w' ⟨fd, ds, bd, l', h1, h2, h3, h4⟩ => ⟨fd, ds, nil_, 0, bd, l', h1, rfl, ⟨by rw [ht]; exact h2, rfl, rfl⟩, h3, h4⟩
theorem readans3 (n c : Nat) (A : Option Addr) (l : List UInt8) (w : World) (hl : l.length = n) (hb : Bytes w w.heap.size A l) (hn : n ≤ 1099511627776) (hnc : n ≤ c) (hcm : c ≤ maxLen) :
    Calls Try.prog 23 #[.int .u8 3, .slice A n c] w fun e w' => RH l (QS l) e w' ∧ Below w.heap.size w w' :=
  read_state 3 n c _ A l (QS l) w rfl hl hb hn hnc hcm (fun W m h => look3 h) (fun _ _ _ _ _ _ _ _ _ _ _ h => h) fun W ga t ht h hB =>
    (takestate_any w.heap.size ga w.heap.size 0 false 0 0 nil_ t W h (by have := congrArg List.length ht; simp at this; omega)).mono fun e w' ⟨st, bd, l', h1, h2, h3, h4, h5⟩ => ⟨false, 0, nil_, st, bd, l', h1, rfl, ⟨by rw [ht]; exact h2, h3, rfl, rfl, rfl⟩, h4, h5⟩
/-- the one reply of an answer that is known. -/
theorem rh_dist {fd : Bool} {ds : Nat} {e : Ending} {w' : World} (hds : ds ≤ 18446744073709551615) (h : RH (0 :: distL fd ds) (QD (0 :: distL fd ds)) e w') : e = anAns 0 fd ds nil_ 0 := by
  have hlen : (distL fd ds).length = 9 := by simp [distL, flagL, le_length]
  have hhd : (distL fd ds).headD 0 ≤ 1 := by cases fd <;> simp [distL, flagL]
  have hh : ((distL fd ds).head? == some 1) = fd := by cases fd <;> simp [distL, flagL]
  have hnum : num (distL fd ds) 1 8 = ds := by
    unfold distL flagL num
    simp only [List.cons_append, List.nil_append, List.drop_succ_cons, List.drop_zero]
    rw [List.take_of_length_le (by rw [le_length]; omega), bval_le_lt (by omega)]
  rcases h with ⟨h, _⟩ | ⟨b, t, h, hb, _⟩ | ⟨t, fd', ds', way, st, bd, l', h, ⟨hT, rfl, rfl⟩, hc⟩
  · cases h
  · injection h with h1 h2
    exact absurd h1.symm hb
  · simp only [List.tail_cons] at hT
    rcases hT with ⟨_, _, h3, h4, h5, h6⟩ | ⟨h1, _⟩
    · rw [hh] at h3
      rw [hnum] at h4
      subst h3 h4
      rcases hc with ⟨_, _, h⟩ | ⟨h, _⟩
      · exact h
      · rcases h with h | h
        · rw [h5] at h; cases h
        · exact absurd h6 h
    · exact absurd ⟨hlen, hhd⟩ h1
theorem rh_err {b : UInt8} {Q : Bool → Nat → Value → Nat → Bool → List UInt8 → World → Prop} {e : Ending} {w' : World} (hb : b ≠ 0) (h : RH [b] Q e w') : e = anAns (b.toNat : Int) false 0 nil_ 0 := by
  rcases h with ⟨h, _⟩ | ⟨b', t, h, _, hc⟩ | ⟨t, fd', ds', way, st, bd, l', h, _⟩
  · cases h
  · injection h with h1 h2
    subst h1 h2
    rcases hc with ⟨_, h⟩ | ⟨h, _⟩
    · exact h
    · exact absurd rfl h
  · injection h with h1 h2
    exact absurd h1 hb
end Go.Proofs.Ytjiiabekjiilbaa
