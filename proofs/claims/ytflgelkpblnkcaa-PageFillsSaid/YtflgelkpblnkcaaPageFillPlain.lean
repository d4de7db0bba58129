/- A page with a byte that is another one, and its sum made anew: what it says. No program in sight. -/
import Derived.Test.YtflgelkpblnkcaaPagePlain
set_option linter.unusedSimpArgs false
set_option linter.unusedVariables false
namespace Go.Proofs.Ytflgelkpblnkcaa.Mp

/-- k bytes of a sum laid over the last four. -/
def fillL (q : List UInt8) (s k : Nat) : List UInt8 := q.take 252 ++ le k s ++ q.drop (252 + k)
theorem fill_zero (q : List UInt8) (s : Nat) : fillL q s 0 = q := by simp [fillL, le, List.take_append_drop]
theorem fill_length (q : List UInt8) (s k : Nat) (h : q.length = 256) (hk : k ≤ 4) : (fillL q s k).length = 256 := by
  simp [fillL, le_length, h]; omega
theorem fill_step (q : List UInt8) (s k : Nat) (h : q.length = 256) (hk : k < 4) : (fillL q s k).set (252 + k) (UInt8.ofNat (s / 2 ^ (8 * k))) = fillL q s (k + 1) := by
  have hl : (q.take 252 ++ le k s).length = 252 + k := by simp [le_length, h]
  unfold fillL
  rw [List.set_append_right _ _ (by rw [hl]; omega), hl, Nat.sub_self, le_snoc, ← List.append_assoc]
  have hd : q.drop (252 + k) = q[252 + k]'(by omega) :: q.drop (252 + (k + 1)) := by
    rw [List.drop_eq_getElem_cons (by omega)]
    rfl
  rw [hd]
  simp
/-- the sum made anew. -/
def sumL (q : List UInt8) : List UInt8 := q.take 252 ++ le 4 (ext 0 (q.take 252))
theorem fill_four (q : List UInt8) (h : q.length = 256) : fillL q (ext 0 (q.take 252)) 4 = sumL q := by
  unfold fillL sumL
  rw [List.drop_eq_nil_of_le (by omega), List.append_nil]
theorem sumL_length (q : List UInt8) (h : q.length = 256) : (sumL q).length = 256 := by simp [sumL, le_length, h]

theorem page_take (t nb : Nat) (l : List UInt8) (h : l.length ≤ 240) : (pageL t nb l).take 252 = bodyL t nb l := by
  unfold pageL
  rw [List.take_append_of_le_length (by rw [bodyL_length t nb l h]; omega), List.take_of_length_le (by rw [bodyL_length t nb l h]; omega)]
theorem sum_set (t nb : Nat) (l : List UInt8) (h : l.length ≤ 240) (i : Nat) (v : UInt8) : ((pageL t nb l).set i v).take 252 = (bodyL t nb l).set i v := by
  rw [← page_take t nb l h, List.take_set]
theorem head_nought (t nb n i : Nat) (h : i = 10 ∨ i = 11) : (headL t nb n)[i]? = some 0 := by
  rcases h with rfl | rfl <;> simp [headL, List.getElem?_append, le_length, le]
theorem body_nought (t nb : Nat) (l : List UInt8) (hl : l.length ≤ 240) (i : Nat) (h1 : 10 ≤ i) (h2 : i < 252) (h : i < 12 ∨ 12 + l.length ≤ i) : (bodyL t nb l)[i]? = some 0 := by
  unfold bodyL
  rcases h with h | h
  · rw [List.append_assoc, List.getElem?_append_left (by rw [headL_length]; omega)]
    exact head_nought _ _ _ _ (by omega)
  · rw [List.getElem?_append_right (by rw [List.length_append, headL_length]; omega), List.length_append, headL_length]
    rw [List.getElem?_replicate, if_pos (by omega)]
theorem set_same {q : List UInt8} {i : Nat} {v : UInt8} (h : q[i]? = some v) : q.set i v = q := by
  obtain ⟨hi, he⟩ := List.getElem?_eq_some_iff.1 h
  rw [← he]
  exact List.set_getElem_self hi
theorem fill_nought (t nb : Nat) (l : List UInt8) (hl : l.length ≤ 240) (i : Nat) (h1 : 10 ≤ i) (h2 : i < 252) (h : i < 12 ∨ 12 + l.length ≤ i) : sumL ((pageL t nb l).set i 0) = pageL t nb l := by
  unfold sumL
  rw [sum_set t nb l hl, set_same (body_nought t nb l hl i h1 h2 h)]
  rfl
theorem body_size (t nb : Nat) (l : List UInt8) : ((bodyL t nb l).take 10).drop 8 = le 2 l.length := by
  have h : bodyL t nb l = (le 4 t ++ le 4 nb ++ le 2 l.length) ++ (le 2 0 ++ l ++ List.replicate (240 - l.length) 0) := by simp [bodyL, headL, List.append_assoc]
  have h2 : (le 4 t ++ le 4 nb ++ le 2 l.length).length = 10 := by simp [le_length]
  have h3 : (le 4 t ++ le 4 nb).length = 8 := by simp [le_length]
  rw [h, List.take_append_of_le_length (by omega), List.take_of_length_le (by omega), ← h3, List.drop_left]
theorem fill_shut (t nb : Nat) (l : List UInt8) (hl : l.length ≤ 240) (i : Nat) (v : UInt8) (hv : v ≠ 0) (h1 : 10 ≤ i) (h2 : i < 252) (h : i < 12 ∨ 12 + l.length ≤ i) : ¬ Opens (sumL ((pageL t nb l).set i v)) t nb := by
  rintro ⟨l', hl', he⟩
  have hb : (bodyL t nb l).set i v = bodyL t nb l' := by
    have e1 := congrArg (List.take 252) he
    rw [page_take t nb l' hl'] at e1
    rw [← e1]
    unfold sumL
    rw [sum_set t nb l hl, List.take_append_of_le_length (by rw [List.length_set, bodyL_length t nb l hl]; omega), List.take_of_length_le (by rw [List.length_set, bodyL_length t nb l hl]; omega)]
  have hsz : l'.length = l.length := by
    have e2 := body_size t nb l'
    rw [← hb, List.take_set_of_le h1, body_size t nb l] at e2
    have e3 := congrArg bval e2
    rw [bval_le2 (by omega), bval_le2 (by omega)] at e3
    exact e3.symm
  have e4 := body_nought t nb l' hl' i h1 h2 (by omega)
  rw [← hb, List.getElem?_set_self (by rw [bodyL_length t nb l hl]; omega)] at e4
  injection e4 with e4
  exact hv e4
theorem fill_in (t nb : Nat) (l : List UInt8) (hl : l.length ≤ 240) (j : Nat) (v : UInt8) (hj : j < l.length) : sumL ((pageL t nb l).set (12 + j) v) = pageL t nb (l.set j v) := by
  have hb : (bodyL t nb l).set (12 + j) v = bodyL t nb (l.set j v) := by
    unfold bodyL
    rw [List.length_set, List.set_append_left _ _ (by rw [List.length_append, headL_length]; omega), List.set_append_right _ _ (by rw [headL_length]; omega), headL_length, Nat.add_sub_cancel_left]
  unfold sumL pageL
  rw [show bodyL t nb l ++ le 4 (ext 0 (bodyL t nb l)) = pageL t nb l by rfl, sum_set t nb l hl, hb]
end Go.Proofs.Ytflgelkpblnkcaa.Mp
