/- Which bytes are an answer to a kind of question, and what ReadAnswer says of them. -/
import Derived.Test.YtjiiabekjiilbaaReqTakeWay
import Derived.Test.YtjiiabekjiilbaaReqAns
set_option linter.unusedSimpArgs false
set_option linter.unusedVariables false
namespace Go.Proofs.Ytjiiabekjiilbaa
open Go.RowKit Mp

def bodyOk (k : Nat) (t : List UInt8) : Prop := (k = 1 ∧ t.length = 9 ∧ t.headD 0 ≤ 1) ∨ (k = 2 ∧ 5 ≤ t.length ∧ t.headD 0 ≤ 1 ∧ 16 * num t 1 4 = t.length - 5) ∨ (k = 3 ∧ t.length = 1)
def Acc (k : Nat) (l : List UInt8) : Prop := (∃ b, l = [b] ∧ b ≠ 0) ∨ ∃ t, l = 0 :: t ∧ bodyOk k t
theorem acc_err (k : Nat) {b : UInt8} (hb : b ≠ 0) : Acc k [b] := .inl ⟨b, rfl, hb⟩
theorem not_acc_nil (k : Nat) : ¬ Acc k [] := by rintro (⟨b, h, _⟩ | ⟨t, h, _⟩) <;> cases h
theorem not_acc_long (k : Nat) {b : UInt8} {t : List UInt8} (hb : b ≠ 0) (ht : t ≠ []) : ¬ Acc k (b :: t) := by
  rintro (⟨b', h, _⟩ | ⟨t', h, _⟩)
  · injection h with h1 h2; exact ht h2
  · injection h with h1 h2; exact hb h1
theorem acc_zero {k : Nat} {t : List UInt8} : Acc k (0 :: t) ↔ bodyOk k t := by
  constructor
  · rintro (⟨b', h, hb⟩ | ⟨t', h, h'⟩)
    · injection h with h1 h2; exact absurd h1.symm hb
    · injection h with h1 h2; subst h2; exact h'
  · exact fun h => .inr ⟨t, rfl, h⟩

def QW (lo : Nat) (l : List UInt8) (fd : Bool) (ds : Nat) (way : Value) (st : Nat) (bd : Bool) (l' : List UInt8) (W : World) : Prop :=
  TW l.tail fd bd l' ∧ ds = 0 ∧ st = 0 ∧ (bd = false → W.ownsRow lo 71 4 way (num l.tail 1 4) (cellsL (parse (l.tail.drop 5) (num l.tail 1 4))))
theorem readans2 (n c : Nat) (A : Option Addr) (l : List UInt8) (w : World) (hl : l.length = n) (hb : Bytes w w.heap.size A l) (hn : n ≤ 1048576) (hnc : n ≤ c) (hcm : c ≤ maxLen) :
    Calls Try.prog 23 #[.int .u8 2, .slice A n c] w fun e w' => RH l (QW w.heap.size l) e w' ∧ Below w.heap.size w w' :=
  read_path 2 n c _ A l (QW w.heap.size l) w rfl hl hb (by omega) hnc hcm (fun W m h => look2 h) (fun fd ds way st bd l' W W' R hB hg h => ⟨h.1, h.2.1, h.2.2.1, fun hf => own_row_other (h.2.2.2 hf) hB (by decide) hg⟩) fun W ga t ht h hB =>
    (takepath_any w.heap.size ga w.heap.size 0 false 0 0 t W h (by have := congrArg List.length ht; simp at this; omega)).mono fun e w' ⟨h1, fd, v, bd, l', h2, h3, h4, h5, h6⟩ => ⟨fd, 0, v, 0, bd, l', h1, h2, ⟨by rw [ht]; exact h3, rfl, rfl, by rw [ht]; exact h4⟩, h5, h6⟩

def Says (k : Nat) (l : List UInt8) (e : Ending) : Prop := ∃ (err : Int) (fd : Bool) (ds : Nat) (Aw : Option Addr) (nw cw st : Nat) (er : Int),
  e = .returned (.tuple #[.agg #[.int .i64 err, .bool fd, .int .u64 ds, .slice Aw nw cw, .int .u8 st], .int .i64 er]) ∧ (Acc k l → er = 0) ∧ (¬ Acc k l → er = 8)
theorem says_no {k : Nat} {l : List UInt8} (h : ¬ Acc k l) : Says k l noAns := ⟨0, false, 0, none, 0, 0, 0, 8, rfl, fun h' => absurd h' h, fun _ => rfl⟩
theorem rh_says {k : Nat} {l : List UInt8} {Q : Bool → Nat → Value → Nat → Bool → List UInt8 → World → Prop} {e : Ending} {w' : World} (h : RH l Q e w')
    (hq : ∀ t fd ds way st bd l', l = 0 :: t → Q fd ds way st bd l' w' → (bd = false → l' = [] → bodyOk k t ∧ ∃ A n c, way = .slice A n c) ∧ (bd = true ∨ l' ≠ [] → ¬ bodyOk k t)) : Says k l e := by
  rcases h with ⟨rfl, rfl⟩ | ⟨b, t, rfl, hb, h⟩ | ⟨t, fd, ds, way, st, bd, l', rfl, hQ, h⟩
  · exact says_no (not_acc_nil k)
  · rcases h with ⟨rfl, rfl⟩ | ⟨ht, rfl⟩
    · exact ⟨b.toNat, false, 0, none, 0, 0, 0, 0, rfl, fun _ => rfl, fun h' => absurd (acc_err k hb) h'⟩
    · exact says_no (not_acc_long k hb ht)
  · have hh := hq t fd ds way st bd l' rfl hQ
    rcases h with ⟨hb, hl, rfl⟩ | ⟨hb, rfl⟩
    · obtain ⟨hok, A, n, c, rfl⟩ := hh.1 hb hl
      exact ⟨0, fd, ds, A, n, c, st, 0, rfl, fun _ => rfl, fun h' => absurd (acc_zero.2 hok) h'⟩
    · exact says_no fun h' => hh.2 hb (acc_zero.1 h')
theorem readans_any (k n c : Nat) (A : Option Addr) (l : List UInt8) (w : World) (hk : k = 1 ∨ k = 2 ∨ k = 3) (hl : l.length = n) (hb : Bytes w w.heap.size A l) (hn : n ≤ 1048576) (hnc : n ≤ c) (hcm : c ≤ maxLen) :
    Calls Try.prog 23 #[.int .u8 k, .slice A n c] w fun e w' => Says k l e ∧ Below w.heap.size w w' := by
  rcases hk with rfl | rfl | rfl
  · refine (readans1 n c A l w hl hb (by omega) hnc hcm).mono fun e w' ⟨h1, h2⟩ => ⟨rh_says h1 fun t fd ds way st bd l' ht hQ => ?_, h2⟩
    subst ht
    obtain ⟨hT, rfl, rfl⟩ := hQ
    rcases hT with ⟨a1, a2, _, _, a5, a6⟩ | ⟨a1, a2⟩
    · exact ⟨fun _ _ => ⟨.inl ⟨rfl, a1, a2⟩, _, _, _, rfl⟩, fun h => by rcases h with h | h; rw [a5] at h; cases h; exact absurd a6 h⟩
    · refine ⟨fun h3 h4 => ?_, fun _ h => ?_⟩
      · rcases a2 with h | h
        · rw [h3] at h; cases h
        · exact absurd h4 h
      · rcases h with ⟨_, h5, h6⟩ | ⟨h, _⟩ | ⟨h, _⟩
        · exact a1 ⟨h5, h6⟩
        · omega
        · omega
  · refine (readans2 n c A l w hl hb hn hnc hcm).mono fun e w' ⟨h1, h2⟩ => ⟨rh_says h1 fun t fd ds way st bd l' ht hQ => ?_, h2⟩
    subst ht
    obtain ⟨hT, rfl, rfl, hrow⟩ := hQ
    rcases hT with ⟨a1, a2, a3, a4, a5, a6⟩ | ⟨a1, a2⟩
    · simp only [List.tail_cons] at a1 a2 a3 a4 a5 a6 hrow
      refine ⟨fun _ h4 => ⟨.inr (.inl ⟨rfl, a1, a2, ?_⟩), ?_⟩, fun h => ?_⟩
      · rw [h4] at a6
        have := congrArg List.length a6
        simp at this
        omega
      · rcases (hrow a5).2 with ⟨h, _⟩ | ⟨g, cap, cur, h, _⟩
        · exact ⟨_, _, _, h⟩
        · exact ⟨_, _, _, h⟩
      · rcases h with h | h
        · rw [a5] at h; cases h
        · rintro (⟨h5, _⟩ | ⟨_, h5, h6, h7⟩ | ⟨h5, _⟩)
          · omega
          · apply h
            rw [a6]
            apply List.drop_eq_nil_of_le
            omega
          · omega
    · simp only [List.tail_cons] at a1
      refine ⟨fun h3 _ => absurd (a2.symm.trans h3) (by decide), fun _ h => ?_⟩
      rcases h with ⟨h5, _⟩ | ⟨_, h5, h6, h7⟩ | ⟨h5, _⟩
      · omega
      · exact a1 ⟨h5, h6, by omega⟩
      · omega
  · refine (readans3 n c A l w hl hb (by omega) hnc hcm).mono fun e w' ⟨h1, h2⟩ => ⟨rh_says h1 fun t fd ds way st bd l' ht hQ => ?_, h2⟩
    subst ht
    obtain ⟨hT, _, rfl, rfl, rfl⟩ := hQ
    rcases hT with ⟨a1, a2, a5, a6⟩ | ⟨a1, a2⟩
    · exact ⟨fun _ _ => ⟨.inr (.inr ⟨rfl, a1⟩), _, _, _, rfl⟩, fun h => by rcases h with h | h; rw [a5] at h; cases h; exact absurd a6 h⟩
    · refine ⟨fun h3 h4 => ?_, fun _ h => ?_⟩
      · rcases a2 with h | h
        · rw [h3] at h; cases h
        · exact absurd h4 h
      · rcases h with ⟨h, _⟩ | ⟨h, _⟩ | ⟨_, h5⟩
        · omega
        · omega
        · exact a1 h5
theorem readans_yes (k n c : Nat) (A : Option Addr) (l : List UInt8) (w : World) (hk : k = 1 ∨ k = 2 ∨ k = 3) (hl : l.length = n) (hb : Bytes w w.heap.size A l) (hn : n ≤ 1048576) (hnc : n ≤ c) (hcm : c ≤ maxLen) (ha : Acc k l) :
    Calls Try.prog 23 #[.int .u8 k, .slice A n c] w fun e w' => ∃ (err : Int) (fd : Bool) (ds : Nat) (Aw : Option Addr) (nw cw st : Nat), e = .returned (.tuple #[.agg #[.int .i64 err, .bool fd, .int .u64 ds, .slice Aw nw cw, .int .u8 st], .int .i64 0]) ∧ Below w.heap.size w w' :=
  (readans_any k n c A l w hk hl hb hn hnc hcm).mono fun e w' ⟨⟨err, fd, ds, Aw, nw, cw, st, er, h1, h2, _⟩, h3⟩ => ⟨err, fd, ds, Aw, nw, cw, st, by rw [h1, h2 ha], h3⟩
theorem readans_not (k n c : Nat) (A : Option Addr) (l : List UInt8) (w : World) (hk : k = 1 ∨ k = 2 ∨ k = 3) (hl : l.length = n) (hb : Bytes w w.heap.size A l) (hn : n ≤ 1048576) (hnc : n ≤ c) (hcm : c ≤ maxLen) (ha : ¬ Acc k l) :
    Calls Try.prog 23 #[.int .u8 k, .slice A n c] w fun e w' => ∃ (err : Int) (fd : Bool) (ds : Nat) (Aw : Option Addr) (nw cw st : Nat), e = .returned (.tuple #[.agg #[.int .i64 err, .bool fd, .int .u64 ds, .slice Aw nw cw, .int .u8 st], .int .i64 8]) ∧ Below w.heap.size w w' :=
  (readans_any k n c A l w hk hl hb hn hnc hcm).mono fun e w' ⟨⟨err, fd, ds, Aw, nw, cw, st, er, h1, _, h2⟩, h3⟩ => ⟨err, fd, ds, Aw, nw, cw, st, by rw [h1, h2 ha], h3⟩

theorem num_take (t : List UInt8) (c : Nat) (hc : 5 ≤ c) : num (t.take c) 1 4 = num t 1 4 := by
  unfold num
  rw [List.drop_take, List.take_take]
  congr 2
  omega
theorem num_more (t : List UInt8) (u : List UInt8) (h : 5 ≤ t.length) : num (t ++ u) 1 4 = num t 1 4 := by
  unfold num
  rw [List.drop_append_of_le_length (by omega), List.take_append_of_le_length (by simp; omega)]
theorem body_ok (k : Nat) (hk : k = 1 ∨ k = 2 ∨ k = 3) (fd : Bool) (ds st n : Nat) (ws : List Ed) (hws : ws.length = n) (hn : n ≤ 65536) : bodyOk k (bodyL k fd ds st n ws) := by
  rcases hk with rfl | rfl | rfl
  · exact .inl ⟨rfl, by simp [body1, distL, flagL, le_length], by cases fd <;> simp [body1, distL, flagL]⟩
  · refine .inr (.inl ⟨rfl, by rw [body2]; simp only [flagL, List.length_append, le_length, wayL_length, List.length_cons, List.length_nil]; omega, by cases fd <;> simp [body2, flagL], ?_⟩)
    have hnum : num (bodyL 2 fd ds st n ws) 1 4 = n := by
      rw [body2]
      unfold num flagL
      simp only [List.cons_append, List.nil_append, List.drop_succ_cons, List.drop_zero]
      rw [List.take_append_of_le_length (by rw [le_length]; omega), List.take_of_length_le (by rw [le_length]; omega), bval_le_lt (by omega)]
    rw [hnum]
    rw [body2]
    simp only [flagL, List.length_append, le_length, wayL_length, List.length_cons, List.length_nil, hws]
    omega
  · exact .inr (.inr ⟨rfl, by simp [body3, le_length]⟩)
/-- a body that is cut or has more behind it is none. -/
theorem body_cut {k : Nat} {t : List UInt8} (h : bodyOk k t) {c : Nat} (hc : c < t.length) : ¬ bodyOk k (t.take c) := by
  intro h'
  rcases h with ⟨rfl, h1, _⟩ | ⟨rfl, h1, h2, h3⟩ | ⟨rfl, h1⟩
  · rcases h' with ⟨_, h4, _⟩ | ⟨h4, _⟩ | ⟨h4, _⟩
    · simp at h4; omega
    · omega
    · omega
  · rcases h' with ⟨h4, _⟩ | ⟨_, h4, _, h5⟩ | ⟨h4, _⟩
    · omega
    · simp only [List.length_take] at h4 h5
      rw [num_take t c (by omega)] at h5
      omega
    · omega
  · rcases h' with ⟨h4, _⟩ | ⟨h4, _⟩ | ⟨_, h4⟩
    · omega
    · omega
    · simp at h4; omega
theorem body_more {k : Nat} {t : List UInt8} (h : bodyOk k t) (x : UInt8) : ¬ bodyOk k (t ++ [x]) := by
  intro h'
  rcases h with ⟨rfl, h1, _⟩ | ⟨rfl, h1, h2, h3⟩ | ⟨rfl, h1⟩
  · rcases h' with ⟨_, h4, _⟩ | ⟨h4, _⟩ | ⟨h4, _⟩
    · simp at h4; omega
    · omega
    · omega
  · rcases h' with ⟨h4, _⟩ | ⟨_, h4, _, h5⟩ | ⟨h4, _⟩
    · omega
    · rw [num_more t [x] h1] at h5
      simp at h5
      omega
    · omega
  · rcases h' with ⟨h4, _⟩ | ⟨h4, _⟩ | ⟨_, h4⟩
    · omega
    · omega
    · rw [List.length_append, h1] at h4; simp at h4
theorem ans_acc {k : Nat} {eb : UInt8} {X : List UInt8} (h : bodyOk k X) : Acc k (ansL eb X) := by
  by_cases he : eb = 0
  · subst he; rw [ansL_zero rfl]; exact acc_zero.2 h
  · rw [ansL_other he]; exact acc_err k he
theorem ans_cut {k : Nat} {eb : UInt8} {X : List UInt8} (h : bodyOk k X) {c : Nat} (hc : c < (ansL eb X).length) : ¬ Acc k ((ansL eb X).take c) := by
  rcases c with _ | c
  · rw [List.take_zero]; exact not_acc_nil k
  · by_cases he : eb = 0
    · subst he
      rw [ansL_zero rfl] at hc ⊢
      intro h'
      exact body_cut h (c := c) (by simpa using hc) (acc_zero.1 (by simpa using h'))
    · rw [ansL_other he] at hc
      simp at hc
theorem ans_more {k : Nat} {eb : UInt8} {X : List UInt8} (h : bodyOk k X) (x : UInt8) : ¬ Acc k (ansL eb X ++ [x]) := by
  by_cases he : eb = 0
  · subst he
    rw [ansL_zero rfl]
    intro h'
    exact body_more h x (acc_zero.1 (by simpa using h'))
  · rw [ansL_other he]
    exact not_acc_long k he (by simp)
theorem ans_length_le (k : Nat) (eb : UInt8) (fd : Bool) (ds st n : Nat) (ws : List Ed) (hws : ws.length = n) : (ansL eb (bodyL k fd ds st n ws)).length ≤ 10 + 16 * n := by
  have h := body_length k fd ds st n ws hws
  unfold ansL
  split
  · simp only [List.length_append, List.length_cons, List.length_nil, h]
    split
    · omega
    · split
      · omega
      · split <;> omega
  · simp; omega
end Go.Proofs.Ytjiiabekjiilbaa
