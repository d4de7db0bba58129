/- Pages as lists of bytes: what a page of bytes is, what it says, and that no two say the same. No program in sight. -/
import Derived.Test.YtflgelkpblnkcaaPlain
set_option linter.unusedSimpArgs false
set_option linter.unusedVariables false
namespace Go.Proofs.Ytflgelkpblnkcaa.Mp

/-- a page's head: its tag, its number, how many bytes, two noughts. -/
def headL (tag nb n : Nat) : List UInt8 := le 4 tag ++ le 4 nb ++ le 2 n ++ le 2 0
theorem headL_length (tag nb n : Nat) : (headL tag nb n).length = 12 := by simp [headL, le_length]
def bodyL (tag nb : Nat) (l : List UInt8) : List UInt8 := headL tag nb l.length ++ l ++ List.replicate (240 - l.length) 0
theorem bodyL_length (tag nb : Nat) (l : List UInt8) (h : l.length ≤ 240) : (bodyL tag nb l).length = 252 := by
  simp [bodyL, headL_length]; omega
def pageL (tag nb : Nat) (l : List UInt8) : List UInt8 := bodyL tag nb l ++ le 4 (ext 0 (bodyL tag nb l))
theorem pageL_length (tag nb : Nat) (l : List UInt8) (h : l.length ≤ 240) : (pageL tag nb l).length = 256 := by
  simp [pageL, bodyL_length tag nb l h, le_length]
/-- a page that says l. -/
def Says (p : List UInt8) (tag nb : Nat) (l : List UInt8) : Prop := l.length ≤ 240 ∧ p = pageL tag nb l
def Opens (p : List UInt8) (tag nb : Nat) : Prop := ∃ l, Says p tag nb l

theorem num_app (a m z : List UInt8) (k n : Nat) (ha : a.length = k) (hm : m.length = n) : num (a ++ (m ++ z)) k n = bval m := by
  subst ha; subst hm
  unfold num
  rw [List.drop_left, List.take_left]
theorem le_num_ (l : List UInt8) (a s : Nat) (h : a + s ≤ l.length) : le s (num l a s) = (l.drop a).take s := by
  have hlen : ((l.drop a).take s).length = s := by rw [List.length_take, List.length_drop]; omega
  have h2 := le_bval ((l.drop a).take s)
  rw [hlen] at h2
  exact h2
theorem bval_le4 {x : Nat} (h : x ≤ 4294967295) : bval (le 4 x) = x := bval_le_lt (by omega)
theorem bval_le2 {x : Nat} (h : x ≤ 65535) : bval (le 2 x) = x := bval_le_lt (by omega)
theorem ext0_le (l : List UInt8) : ext 0 l ≤ 4294967295 := by
  have := ext_lt (s := 0) (by omega) l
  omega

theorem page_split (tag nb : Nat) (l : List UInt8) : pageL tag nb l = le 4 tag ++ (le 4 nb ++ (le 2 l.length ++ (le 2 0 ++ (l ++ (List.replicate (240 - l.length) 0 ++ le 4 (ext 0 (bodyL tag nb l))))))) := by
  simp [pageL, bodyL, headL, List.append_assoc]
theorem page_tag (tag nb : Nat) (l : List UInt8) (h : tag ≤ 4294967295) : num (pageL tag nb l) 0 4 = tag := by
  have := num_app [] (le 4 tag) (le 4 nb ++ (le 2 l.length ++ (le 2 0 ++ (l ++ (List.replicate (240 - l.length) 0 ++ le 4 (ext 0 (bodyL tag nb l))))))) 0 4 rfl (le_length _ _)
  rw [page_split]
  exact this.trans (bval_le4 h)
theorem page_nb (tag nb : Nat) (l : List UInt8) (h : nb ≤ 4294967295) : num (pageL tag nb l) 4 4 = nb := by
  have := num_app (le 4 tag) (le 4 nb) (le 2 l.length ++ (le 2 0 ++ (l ++ (List.replicate (240 - l.length) 0 ++ le 4 (ext 0 (bodyL tag nb l)))))) 4 4 (le_length _ _) (le_length _ _)
  rw [page_split]
  exact this.trans (bval_le4 h)
theorem page_size (tag nb : Nat) (l : List UInt8) (h : l.length ≤ 65535) : num (pageL tag nb l) 8 2 = l.length := by
  have := num_app (le 4 tag ++ le 4 nb) (le 2 l.length) (le 2 0 ++ (l ++ (List.replicate (240 - l.length) 0 ++ le 4 (ext 0 (bodyL tag nb l))))) 8 2 (by simp [le_length]) (le_length _ _)
  rw [page_split]
  rw [List.append_assoc] at this
  exact this.trans (bval_le2 h)
theorem page_none (tag nb : Nat) (l : List UInt8) : num (pageL tag nb l) 10 2 = 0 := by
  have := num_app (le 4 tag ++ (le 4 nb ++ le 2 l.length)) (le 2 0) (l ++ (List.replicate (240 - l.length) 0 ++ le 4 (ext 0 (bodyL tag nb l)))) 10 2 (by simp [le_length]) (le_length _ _)
  rw [page_split]
  rw [List.append_assoc, List.append_assoc] at this
  exact this.trans (bval_le2 (by omega))
theorem page_sum (tag nb : Nat) (l : List UInt8) (h : l.length ≤ 240) : num (pageL tag nb l) 252 4 = ext 0 ((pageL tag nb l).take 252) := by
  have := num_app (bodyL tag nb l) (le 4 (ext 0 (bodyL tag nb l))) [] 252 4 (bodyL_length tag nb l h) (le_length _ _)
  rw [List.append_nil] at this
  have h2 : (pageL tag nb l).take 252 = bodyL tag nb l := by
    unfold pageL
    rw [List.take_append_of_le_length (by rw [bodyL_length tag nb l h]; omega), List.take_of_length_le (by rw [bodyL_length tag nb l h]; omega)]
  rw [h2]
  exact this.trans (bval_le4 (ext0_le _))
theorem page_bytes (tag nb : Nat) (l : List UInt8) : ((pageL tag nb l).drop 12).take l.length = l := by
  have h : pageL tag nb l = headL tag nb l.length ++ (l ++ (List.replicate (240 - l.length) 0 ++ le 4 (ext 0 (bodyL tag nb l)))) := by
    simp [pageL, bodyL, List.append_assoc]
  rw [h, ← headL_length tag nb l.length, List.drop_left, List.take_left]
theorem page_noughts (tag nb : Nat) (l : List UInt8) (h : l.length ≤ 240) : ((pageL tag nb l).drop (12 + l.length)).take (240 - l.length) = List.replicate (240 - l.length) 0 := by
  have h0 : pageL tag nb l = (headL tag nb l.length ++ l) ++ (List.replicate (240 - l.length) 0 ++ le 4 (ext 0 (bodyL tag nb l))) := by
    simp [pageL, bodyL, List.append_assoc]
  have hl : (headL tag nb l.length ++ l).length = 12 + l.length := by rw [List.length_append, headL_length]
  rw [h0, ← hl, List.drop_left]
  rw [List.take_append_of_le_length (by simp), List.take_of_length_le (by simp)]
/-- what its numbers say decides of a page. -/
theorem opens_of {p : List UInt8} {tag nb n : Nat} (hp : p.length = 256) (hs : num p 252 4 = ext 0 (p.take 252)) (ht : num p 0 4 = tag) (hb : num p 4 4 = nb) (hz : num p 8 2 = n) (hn : n ≤ 240) (h0 : num p 10 2 = 0)
    (hr : (p.drop (12 + n)).take (240 - n) = List.replicate (240 - n) 0) : Says p tag nb ((p.drop 12).take n) := by
  have hlen : ((p.drop 12).take n).length = n := by rw [List.length_take, List.length_drop]; omega
  refine ⟨by omega, ?_⟩
  have hbody : p.take 252 = bodyL tag nb ((p.drop 12).take n) := by
    unfold bodyL headL
    have e1 : le 4 tag = p.take 4 := by rw [← ht, le_num_ p 0 4 (by omega), List.drop_zero]
    have e2 : le 4 nb = (p.drop 4).take 4 := by rw [← hb, le_num_ p 4 4 (by omega)]
    have e3 : le 2 n = (p.drop 8).take 2 := by rw [← hz, le_num_ p 8 2 (by omega)]
    have e4 : le 2 0 = (p.drop 10).take 2 := by rw [← le_num_ p 10 2 (by omega), h0]
    rw [hlen, e1, e2, e3, e4, ← hr, ← List.take_add, ← List.take_add, ← List.take_add, ← List.take_add, ← List.take_add]
    congr 1
    omega
  have hrest : p.drop 252 = le 4 (ext 0 (bodyL tag nb ((p.drop 12).take n))) := by
    rw [← hbody, ← hs, le_num_ p 252 4 (by omega), List.take_of_length_le (by rw [List.length_drop]; omega)]
  unfold pageL
  rw [← hrest, ← hbody, List.take_append_drop]
theorem Says.size {p l : List UInt8} {tag nb : Nat} (h : Says p tag nb l) : p.length = 256 := by
  rw [h.2]; exact pageL_length _ _ _ h.1
/-- a page says one thing. -/
theorem Says.eq {p l l' : List UInt8} {tag nb tag' nb' : Nat} (h : Says p tag nb l) (h' : Says p tag' nb' l') (ht : tag ≤ 4294967295) (hb : nb ≤ 4294967295) (ht' : tag' ≤ 4294967295) (hb' : nb' ≤ 4294967295) : tag = tag' ∧ nb = nb' ∧ l = l' := by
  obtain ⟨h1, h2⟩ := h
  obtain ⟨h1', h2'⟩ := h'
  have e1 := page_tag tag nb l ht
  have e2 := page_nb tag nb l hb
  have e3 := page_size tag nb l (by omega)
  have e4 := page_bytes tag nb l
  have f1 := page_tag tag' nb' l' ht'
  have f2 := page_nb tag' nb' l' hb'
  have f3 := page_size tag' nb' l' (by omega)
  have f4 := page_bytes tag' nb' l'
  rw [← h2] at e1 e2 e3 e4
  rw [← h2'] at f1 f2 f3 f4
  refine ⟨e1.symm.trans f1, e2.symm.trans f2, ?_⟩
  rw [← e4, ← f4, ← e3, ← f3]
/-- a page that a burst has turned says nothing. -/
theorem burst_shut {t l : List UInt8} {tag nb tag' nb' at' : Nat} (hl : l.length ≤ 240) (h : Burst (pageL tag nb l) t at' 32) (hne : pageL tag nb l ≠ t) : ¬ Opens t tag' nb' := by
  rintro ⟨l', hl', ht⟩
  have := burst_told (l := bodyL tag nb l) h hne
  rw [bodyL_length tag nb l hl] at this
  apply this
  have h2 := page_sum tag' nb' l' hl'
  rw [← ht] at h2
  unfold num at h2
  rw [← h2, List.take_of_length_le (by rw [List.length_drop, ht, pageL_length _ _ _ hl']; omega)]
end Go.Proofs.Ytflgelkpblnkcaa.Mp
