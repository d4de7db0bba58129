/- What is written is read, and what is read is written as it was: in plain terms. -/
import Derived.Test.YtjiiabekjiilbaaReqTold
import Derived.Test.YtjiiabekjiilbaaReqWorks
set_option linter.unusedSimpArgs false
set_option linter.unusedVariables false
namespace Go.Proofs.Ytjiiabekjiilbaa
open Go.RowKit Mp

/-- a question that is read is written as it was. -/
theorem ask_back {l : List UInt8} {k : UInt8} (h : Asks l k) : askL k (num l 1 4) (num l 5 4) = l := by
  obtain ⟨h1, h2, _⟩ := h
  unfold askL
  rw [le_num' l 1 4 (by omega), le_num' l 5 4 (by omega)]
  match l, h1, h2 with
  | [b0, b1, b2, b3, b4, b5, b6, b7, b8], _, h2 =>
    simp at h2
    subst h2
    rfl
theorem flag_head {t : List UInt8} (h0 : t ≠ []) (h : t.headD 0 ≤ 1) : flagL (t.head? == some 1) = t.take 1 := by
  match t, h0 with
  | b :: t, _ =>
    simp only [List.headD_cons, UInt8.le_iff_toNat_le] at h
    simp only [List.head?_cons, List.take_succ_cons, List.take_zero, flagL]
    by_cases hb : b = 1
    · subst hb; rfl
    · have h0 : b = 0 := by
        have hn : b.toNat ≠ 1 := fun e => hb (UInt8.toNat_inj.1 (by simpa using e))
        have h1 : b.toNat ≤ 1 := by simpa using h
        exact UInt8.toNat_inj.1 (by simp; omega)
      subst h0; rfl
theorem stepL_edAt {l : List UInt8} (h : 16 ≤ l.length) : stepL (edAt l) = l.take 16 := by
  unfold stepL edAt
  show le 4 (num l 0 4) ++ le 4 (num (l.drop 4) 0 4) ++ le 8 (num ((l.drop 4).drop 4) 0 8) = l.take 16
  rw [le_num' l 0 4 (by omega), le_num' (l.drop 4) 0 4 (by simp; omega), le_num' ((l.drop 4).drop 4) 0 8 (by simp; omega)]
  simp only [List.drop_zero, List.drop_drop]
  rw [show 16 = 4 + (4 + 8) from rfl, List.take_add, List.take_add, List.append_assoc, List.drop_drop]
theorem wayL_parse {l : List UInt8} : ∀ n, 16 * n ≤ l.length → wayL (parse l n) = l.take (16 * n)
  | 0, _ => by simp [parse, wayL]
  | n + 1, h => by
    rw [parse_succ, wayL_snoc, wayL_parse n (by omega), stepL_edAt (by simp; omega), show 16 * (n + 1) = 16 * n + 16 by omega, List.take_add]
theorem body_back {k : Nat} {t : List UInt8} (h : bodyOk k t) : bodyL k (if k = 3 then false else t.head? == some 1) (if k = 1 then num t 1 8 else 0) (if k = 3 then (t.headD 0).toNat else 0) (if k = 2 then parse (t.drop 5) (num t 1 4) else []).length (if k = 2 then parse (t.drop 5) (num t 1 4) else []) = t := by
  rcases h with ⟨rfl, h1, h2⟩ | ⟨rfl, h1, h2, h3⟩ | ⟨rfl, h1⟩
  · have hne : t ≠ [] := by rintro rfl; simp at h1
    show flagL (t.head? == some 1) ++ le 8 (num t 1 8) = t
    rw [flag_head hne h2, le_num' t 1 8 (by omega)]
    rw [List.take_of_length_le (l := t.drop 1) (by simp; omega), List.take_append_drop]
  · have hne : t ≠ [] := by rintro rfl; simp at h1
    show flagL (t.head? == some 1) ++ le 4 (parse (t.drop 5) (num t 1 4)).length ++ wayL (parse (t.drop 5) (num t 1 4)) = t
    rw [parse_length, flag_head hne h2, le_num' t 1 4 (by omega), wayL_parse _ (by simp; omega), h3]
    rw [List.take_of_length_le (l := t.drop 5) (by simp)]
    have e : t.take 1 ++ (t.drop 1).take 4 = t.take 5 := (List.take_add (l := t) (i := 1) (j := 4)).symm
    rw [e, List.take_append_drop]
  · match t, h1 with
    | [b], _ =>
      show le 1 b.toNat = [b]
      simp [le]
theorem noT_er : noT.er = 8 := rfl
/-- what is read is written as it was. -/
theorem rt_back {k : Nat} {l : List UInt8} {T : RepT} (h : RT k l T) (h0 : T.er = 0) : ∃ eb : UInt8, T.err % 256 = (eb.toNat : Int) ∧ ansL eb (bodyL k T.fd T.ds T.st T.ws.length T.ws) = l := by
  rcases h with ⟨_, rfl⟩ | ⟨_, ⟨_, rfl⟩ | ⟨b, rfl, hb, rfl⟩ | ⟨t, rfl, ht, rfl⟩⟩
  · rw [noT_er] at h0; omega
  · rw [noT_er] at h0; omega
  · have := b.toNat_lt
    exact ⟨b, by show (b.toNat : Int) % 256 = _; omega, ansL_other hb⟩
  · refine ⟨0, rfl, ?_⟩
    rw [ansL_zero rfl]
    exact congrArg _ (body_back ht)
theorem rt_not {k : Nat} {l : List UInt8} {T : RepT} (h : RT k l T) (hn : ¬ Kn k ∨ ¬ Acc k l) : T.er = 8 := by
  rcases h with ⟨_, rfl⟩ | ⟨a, ⟨_, rfl⟩ | ⟨b, rfl, hb, rfl⟩ | ⟨t, rfl, ht, rfl⟩⟩
  · rfl
  · rfl
  · rcases hn with h | h
    · exact absurd a h
    · exact absurd (acc_err k hb) h
  · rcases hn with h | h
    · exact absurd a h
    · exact absurd (acc_zero.2 ht) h
theorem num_flag4 (fd : Bool) (x : Nat) (h : x ≤ 4294967295) (t : List UInt8) : num (flagL fd ++ le 4 x ++ t) 1 4 = x := by
  unfold num flagL
  simp only [List.cons_append, List.nil_append, List.drop_succ_cons, List.drop_zero]
  rw [List.take_append_of_le_length (by rw [le_length]; omega), List.take_of_length_le (by rw [le_length]; omega), bval_le_lt (by omega)]
theorem num_flag8 (fd : Bool) (x : Nat) (h : x ≤ 18446744073709551615) : num (flagL fd ++ le 8 x) 1 8 = x := by
  unfold num flagL
  simp only [List.cons_append, List.nil_append, List.drop_succ_cons, List.drop_zero]
  rw [List.take_of_length_le (by rw [le_length]; omega), bval_le_lt (by omega)]
theorem head_flag (fd : Bool) (t : List UInt8) : ((flagL fd ++ t).head? == some 1) = fd := by cases fd <;> rfl
theorem edAt_step (x : Ed) (h : x.ok) (t : List UInt8) : edAt (stepL x ++ t) = tellE x := by
  obtain ⟨h1, h2, h3, _⟩ := h
  unfold edAt stepL tellE
  have e1 : (le 4 x.t ++ le 4 x.h ++ le 8 x.w ++ t).drop 4 = le 4 x.h ++ (le 8 x.w ++ t) := by
    rw [List.append_assoc, List.append_assoc]
    exact List.drop_left' (le_length _ _)
  have e2 : (le 4 x.h ++ (le 8 x.w ++ t)).drop 4 = le 8 x.w ++ t := List.drop_left' (le_length _ _)
  rw [e1, e2]
  have f1 : num (le 4 x.t ++ le 4 x.h ++ le 8 x.w ++ t) 0 4 = x.t := by
    unfold num
    rw [List.drop_zero, List.append_assoc, List.append_assoc, List.take_append_of_le_length (by rw [le_length]; omega), List.take_of_length_le (by rw [le_length]; omega), bval_le_lt (by omega)]
  have f2 : num (le 4 x.h ++ (le 8 x.w ++ t)) 0 4 = x.h := by
    unfold num
    rw [List.drop_zero, List.take_append_of_le_length (by rw [le_length]; omega), List.take_of_length_le (by rw [le_length]; omega), bval_le_lt (by omega)]
  have f3 : num (le 8 x.w ++ t) 0 8 = x.w := by
    unfold num
    rw [List.drop_zero, List.take_append_of_le_length (by rw [le_length]; omega), List.take_of_length_le (by rw [le_length]; omega), bval_le_lt (by omega)]
  rw [f1, f2, f3]
theorem parse_way : ∀ (ws : List Ed) (t : List UInt8), (∀ x ∈ ws, x.ok) → parse (wayL ws ++ t) ws.length = ws.map tellE
  | [], _, _ => rfl
  | x :: ws, t, h => by
    have e : wayL (x :: ws) ++ t = stepL x ++ (wayL ws ++ t) := by simp [wayL]
    rw [e]
    have e2 : parse (stepL x ++ (wayL ws ++ t)) (x :: ws).length = edAt (stepL x ++ (wayL ws ++ t)) :: parse (wayL ws ++ t) ws.length := by
      unfold parse
      rw [List.length_cons, List.range_succ_eq_map, List.map_cons, List.map_map]
      refine congr (congrArg _ (by simp)) ?_
      apply List.map_congr_left
      intro i _
      show edAt ((stepL x ++ (wayL ws ++ t)).drop (16 * (i + 1))) = _
      rw [show 16 * (i + 1) = 16 + 16 * i by omega, ← List.drop_drop, List.drop_left' (stepL_length x)]
    rw [e2, edAt_step x (h x List.mem_cons_self), parse_way ws t fun y hy => h y (List.mem_cons_of_mem _ hy)]
    rfl
/-- an answer tells its reply, as far as its kind has it. -/
theorem rt_told {k : Nat} {eb : UInt8} {fd : Bool} {ds st n : Nat} {ws : List Ed} (hk : Kn k) (hds : ds ≤ 18446744073709551615) (hst : st ≤ 255) (hws : ws.length = n) (hn : n ≤ 65536) (hok : ∀ x ∈ ws, x.ok) : RT k (ansL eb (bodyL k fd ds st n ws)) (toldT k eb fd ds st ws) := by
  refine .inr ⟨hk, ?_⟩
  unfold toldT
  by_cases he : eb = 0
  · subst he
    rw [ansL_zero rfl, if_pos rfl]
    refine .inr (.inr ⟨bodyL k fd ds st n ws, rfl, body_ok k hk fd ds st n ws hws hn, ?_⟩)
    rcases hk with rfl | rfl | rfl
    · rw [body1]
      unfold distL
      rw [head_flag, num_flag8 fd ds hds]
      rfl
    · have h4 := num_flag4 fd n (by omega) (wayL ws)
      have hh : ((flagL fd ++ le 4 n ++ wayL ws).head? == some 1) = fd := by rw [List.append_assoc]; exact head_flag _ _
      have hd : (flagL fd ++ le 4 n ++ wayL ws).drop 5 = wayL ws := List.drop_left' (by simp [flagL, le_length])
      have hp := parse_way ws [] hok
      rw [List.append_nil, hws] at hp
      rw [body2, h4, hh, hd, hp]
      rfl
    · rw [body3]
      have : ((le 1 st).headD 0).toNat = st := by
        simp only [le, List.headD_cons, UInt8.toNat_ofNat']
        omega
      rw [this]
      rfl
  · rw [ansL_other he, if_neg he]
    exact .inr (.inl ⟨eb, rfl, he, rfl⟩)
theorem told_er (k : Nat) (eb : UInt8) (fd : Bool) (ds st : Nat) (ws : List Ed) : (toldT k eb fd ds st ws).er = 0 := by
  unfold toldT
  split <;> rfl
/-- for whatever kind: what is cut, or has more behind it, is refused. -/
theorem rt_cut {k : Nat} {eb : UInt8} {fd : Bool} {ds st n : Nat} {ws : List Ed} {T : RepT} (hws : ws.length = n) (hn : n ≤ 65536) {q : Nat} (hq : q < (ansL eb (bodyL k fd ds st n ws)).length) (h : RT k ((ansL eb (bodyL k fd ds st n ws)).take q) T) : T.er = 8 := by
  by_cases hk : Kn k
  · exact rt_not h (.inr (ans_cut (body_ok k hk fd ds st n ws hws hn) hq))
  · exact rt_not h (.inl hk)
theorem rt_more {k : Nat} {eb : UInt8} {fd : Bool} {ds st n : Nat} {ws : List Ed} {T : RepT} (hws : ws.length = n) (hn : n ≤ 65536) (x : UInt8) (h : RT k (ansL eb (bodyL k fd ds st n ws) ++ [x]) T) : T.er = 8 := by
  by_cases hk : Kn k
  · exact rt_not h (.inr (ans_more (body_ok k hk fd ds st n ws hws hn) x))
  · exact rt_not h (.inl hk)
end Go.Proofs.Ytjiiabekjiilbaa
