/- Plain laws, with no program in sight: sums of bytes (CRC-32C) as halving steps on natural numbers, and numbers as bytes, the lowest first. -/
set_option linter.unusedSimpArgs false
namespace Go.Proofs.Ytjiiabekjiilbaa.Mp
/-- Castagnoli's polynomial, turned round. -/
def poly : Nat := 2197175160
/-- one halving step. -/
def L (x : Nat) : Nat := x / 2 ^^^ (if x % 2 = 1 then poly else 0)
/-- so many halving steps. -/
def Ln : Nat → Nat → Nat
  | 0, x => x
  | n + 1, x => Ln n (L x)
/-- a number of bytes, the lowest first. -/
def bval : List UInt8 → Nat
  | [] => 0
  | b :: l => b.toNat + 256 * bval l
/-- all 32 bits. -/
def M : Nat := 4294967295
def fold (x : Nat) (l : List UInt8) : Nat := l.foldl (fun x b => Ln 8 (x ^^^ b.toNat)) x
def ext (s : Nat) (l : List UInt8) : Nat := fold (s ^^^ M) l ^^^ M

theorem xor_mod2 (a b : Nat) : (a ^^^ b) % 2 = (a % 2 + b % 2) % 2 := by
  have h := Nat.testBit_xor a b 0
  simp only [Nat.testBit_zero] at h
  rcases Nat.mod_two_eq_zero_or_one a with ha | ha <;> rcases Nat.mod_two_eq_zero_or_one b with hb | hb <;> rcases Nat.mod_two_eq_zero_or_one (a ^^^ b) with hc | hc <;> simp [ha, hb, hc] at h ⊢

theorem xlc (a b c : Nat) : a ^^^ (b ^^^ c) = b ^^^ (a ^^^ c) := by rw [← Nat.xor_assoc, Nat.xor_comm a b, Nat.xor_assoc]
theorem xx (a b : Nat) : a ^^^ (a ^^^ b) = b := by rw [← Nat.xor_assoc, Nat.xor_self, Nat.zero_xor]
theorem xor_zero_iff {a b : Nat} (h : a ^^^ b = 0) : a = b := by
  have := xx a b
  rw [h, Nat.xor_zero] at this; exact this

theorem xor_div2 (a b : Nat) : (a ^^^ b) / 2 = a / 2 ^^^ b / 2 := Nat.xor_div_two

theorem L_xor (a b : Nat) : L (a ^^^ b) = L a ^^^ L b := by
  unfold L
  rw [xor_div2, xor_mod2]
  rcases Nat.mod_two_eq_zero_or_one a with ha | ha <;> rcases Nat.mod_two_eq_zero_or_one b with hb | hb <;> simp [ha, hb] <;> grind

theorem L_two (a : Nat) : L (2 * a) = a := by
  unfold L
  have h : 2 * a % 2 = 0 := by omega
  have h2 : 2 * a / 2 = a := by omega
  rw [h, h2]; simp

theorem poly_lt : poly < 2 ^ 32 := by decide

theorem L_lt {a : Nat} (h : a < 2 ^ 32) : L a < 2 ^ 32 := by
  unfold L
  apply Nat.xor_lt_two_pow
  · omega
  · split
    · exact poly_lt
    · decide

theorem L_eq_zero {a : Nat} (h : a < 2 ^ 32) (h0 : L a = 0) : a = 0 := by
  unfold L at h0
  by_cases ha : a % 2 = 1
  · rw [if_pos ha] at h0
    have h1 : a / 2 = poly := xor_zero_iff h0
    unfold poly at h1; omega
  · rw [if_neg ha] at h0
    simp at h0; omega

theorem Ln_add (m n x : Nat) : Ln (m + n) x = Ln n (Ln m x) := by
  induction m generalizing x with
  | zero => simp [Ln]
  | succ m ih => rw [Nat.succ_add]; simp only [Ln]; exact ih _

theorem Ln_xor (n a b : Nat) : Ln n (a ^^^ b) = Ln n a ^^^ Ln n b := by
  induction n generalizing a b with
  | zero => rfl
  | succ n ih => simp only [Ln]; rw [L_xor, ih]

theorem Ln_pow (n a : Nat) : Ln n (2 ^ n * a) = a := by
  induction n generalizing a with
  | zero => simp [Ln]
  | succ n ih =>
    simp only [Ln]
    rw [show 2 ^ (n + 1) * a = 2 * (2 ^ n * a) by rw [Nat.pow_succ]; grind, L_two, ih]

theorem Ln_lt (n : Nat) {a : Nat} (h : a < 2 ^ 32) : Ln n a < 2 ^ 32 := by
  induction n generalizing a with
  | zero => exact h
  | succ n ih => exact ih (L_lt h)

theorem Ln_eq_zero (n : Nat) {a : Nat} (h : a < 2 ^ 32) (h0 : Ln n a = 0) : a = 0 := by
  induction n generalizing a with
  | zero => exact h0
  | succ n ih => exact L_eq_zero h (ih (L_lt h) h0)

theorem Ln_inj (n : Nat) {a b : Nat} (ha : a < 2 ^ 32) (hb : b < 2 ^ 32) (h : Ln n a = Ln n b) : a = b := by
  have h1 : Ln n (a ^^^ b) = 0 := by rw [Ln_xor, h, Nat.xor_self]
  exact xor_zero_iff (Ln_eq_zero n (Nat.xor_lt_two_pow ha hb) h1)

theorem add_eq_xor (n : Nat) {r : Nat} (q : Nat) (h : r < 2 ^ n) : r + 2 ^ n * q = r ^^^ 2 ^ n * q := by
  rw [Nat.add_comm]
  apply Nat.eq_of_testBit_eq
  intro i
  rw [Nat.testBit_two_pow_mul_add _ h, Nat.testBit_xor, Nat.testBit_two_pow_mul]
  by_cases hi : i < n
  · simp [hi, Nat.not_le.mpr hi]
  · simp [hi, Nat.le_of_not_lt hi, Nat.testBit_lt_two_pow (Nat.lt_of_lt_of_le h (Nat.pow_le_pow_right (by decide) (Nat.le_of_not_lt hi)))]

theorem byte_lt (b : UInt8) : b.toNat < 2 ^ 8 := b.toNat_lt

theorem fold_eq (x : Nat) (l : List UInt8) : fold x l = Ln (8 * l.length) (x ^^^ bval l) := by
  induction l generalizing x with
  | nil => simp [fold, Ln, bval]
  | cons b l ih =>
    show fold (Ln 8 (x ^^^ b.toNat)) l = _
    rw [ih, List.length_cons, show 8 * (l.length + 1) = 8 + 8 * l.length by omega, Ln_add]
    congr 1
    rw [show bval (b :: l) = b.toNat + 2 ^ 8 * bval l by rfl, add_eq_xor 8 _ (byte_lt b), ← Nat.xor_assoc, Ln_xor 8 _ (2 ^ 8 * bval l), Ln_pow]

/-- the step by a table. -/
theorem step_table (x : Nat) (b : Nat) : Ln 8 (x ^^^ b) = x / 256 ^^^ Ln 8 (x % 256 ^^^ b) := by
  have h : x = x % 256 ^^^ 2 ^ 8 * (x / 256) := by
    rw [← add_eq_xor 8 _ (Nat.mod_lt _ (by decide))]
    have := Nat.mod_add_div x 256; omega
  have h2 : x ^^^ b = (x % 256 ^^^ b) ^^^ 2 ^ 8 * (x / 256) := by
    conv => lhs; rw [h]
    grind
  rw [h2, Ln_xor 8, Ln_pow, Nat.xor_comm]

theorem bval_lt (l : List UInt8) : bval l < 2 ^ (8 * l.length) := by
  induction l with
  | nil => simp [bval]
  | cons b l ih =>
    have := byte_lt b
    rw [List.length_cons, show 8 * (l.length + 1) = 8 + 8 * l.length by omega, Nat.pow_add]
    simp only [bval]; omega

theorem bval_append (a b : List UInt8) : bval (a ++ b) = bval a + 2 ^ (8 * a.length) * bval b := by
  induction a with
  | nil => simp [bval]
  | cons x a ih =>
    rw [List.cons_append]
    simp only [bval, List.length_cons]
    rw [ih, show 8 * (a.length + 1) = 8 + 8 * a.length by omega, Nat.pow_add, Nat.mul_add, Nat.mul_assoc]
    omega

theorem bval_inj {a b : List UInt8} (hl : a.length = b.length) (h : bval a = bval b) : a = b := by
  induction a generalizing b with
  | nil => cases b with
    | nil => rfl
    | cons => simp at hl
  | cons x a ih => cases b with
    | nil => simp at hl
    | cons y b =>
      simp only [bval] at h
      have hx := byte_lt x
      have hy := byte_lt y
      have h1 : x.toNat = y.toNat := by omega
      have h2 : bval a = bval b := by omega
      rw [UInt8.toNat_inj.mp h1, ih (by simpa using hl) h2]

theorem fold_lt {x : Nat} (h : x < 2 ^ 32) (l : List UInt8) : fold x l < 2 ^ 32 := by
  induction l generalizing x with
  | nil => exact h
  | cons b l ih => exact ih (Ln_lt 8 (Nat.xor_lt_two_pow h (Nat.lt_trans (byte_lt b) (by decide))))

theorem M_lt : M < 2 ^ 32 := by decide
theorem ext_lt {s : Nat} (h : s < 2 ^ 32) (l : List UInt8) : ext s l < 2 ^ 32 :=
  Nat.xor_lt_two_pow (fold_lt (Nat.xor_lt_two_pow h M_lt) l) M_lt

theorem xor_cancel (a b : Nat) : a ^^^ b ^^^ b = a := by rw [Nat.xor_assoc, Nat.xor_self, Nat.xor_zero]
theorem xor_right_inj {a b c : Nat} (h : a ^^^ c = b ^^^ c) : a = b := by
  have := congrArg (· ^^^ c) h
  simpa [xor_cancel] using this

/-- bytes may be summed in parts. -/
theorem ext_append (s : Nat) (a b : List UInt8) : ext (ext s a) b = ext s (a ++ b) := by
  unfold ext
  rw [xor_cancel]
  simp [fold, List.foldl_append]

theorem fold_inj {x y : Nat} (hx : x < 2 ^ 32) (hy : y < 2 ^ 32) (l : List UInt8) (h : fold x l = fold y l) : x = y := by
  rw [fold_eq, fold_eq, Ln_xor, Ln_xor _ y] at h
  exact Ln_inj _ hx hy (xor_right_inj h)

theorem ext_inj {x y : Nat} (hx : x < 2 ^ 32) (hy : y < 2 ^ 32) (l : List UInt8) (h : ext x l = ext y l) : x = y := by
  unfold ext at h
  exact xor_right_inj (fold_inj (Nat.xor_lt_two_pow hx M_lt) (Nat.xor_lt_two_pow hy M_lt) l (xor_right_inj h))

/-- put together bit by bit. -/
theorem ext_three {a b c d : List UInt8} (hb : b.length = a.length) (hc : c.length = a.length) (hd : d.length = a.length) (h : bval d = bval a ^^^ bval b ^^^ bval c) :
    ext 0 d = ext 0 a ^^^ ext 0 b ^^^ ext 0 c := by
  unfold ext
  rw [fold_eq, fold_eq, fold_eq, fold_eq, hb, hc, hd, h]
  simp only [Ln_xor, Nat.zero_xor]
  generalize Ln (8 * a.length) M = m
  simp only [Nat.xor_assoc, Nat.xor_comm, xlc, xx, Nat.xor_self, Nat.xor_zero, Nat.zero_xor]

/-- what a burst turns. -/
theorem fold_burst {b c : List UInt8} (x : Nat) (hl : b.length = c.length) (at' m : Nat) (hm : m < 2 ^ 32) (hd : bval b ^^^ bval c = 2 ^ at' * m) (ha : at' ≤ 8 * b.length)
    (h : fold x b = fold x c) : b = c := by
  rw [fold_eq, fold_eq, ← hl] at h
  have h1 : Ln (8 * b.length) (bval b ^^^ bval c) = 0 := by
    have e : bval b ^^^ bval c = (x ^^^ bval b) ^^^ (x ^^^ bval c) := by grind
    rw [e, Ln_xor, h, Nat.xor_self]
  rw [hd, show 8 * b.length = at' + (8 * b.length - at') by omega, Ln_add, Ln_pow] at h1
  have h2 := Ln_eq_zero _ hm h1
  rw [h2, Nat.mul_zero] at hd
  exact bval_inj hl (xor_zero_iff hd)


theorem mul_xor (n a b : Nat) : 2 ^ n * (a ^^^ b) = 2 ^ n * a ^^^ 2 ^ n * b := by
  apply Nat.eq_of_testBit_eq
  intro i
  simp only [Nat.testBit_xor, Nat.testBit_two_pow_mul]
  by_cases h : n ≤ i <;> simp [h]

/-- a text's number, and that of what stands behind it. -/
theorem bval_append_xor (a b : List UInt8) : bval (a ++ b) = bval a ^^^ 2 ^ (8 * a.length) * bval b := by
  rw [bval_append, add_eq_xor _ _ (bval_lt a)]

/-- a burst in a text with its sum behind it. -/
theorem ext_burst {b c s t : List UInt8} (hl : b.length = c.length) (hs : s.length = 4) (ht : t.length = 4) (at' m : Nat) (hm : m < 2 ^ 32)
    (hd : bval (b ++ s) ^^^ bval (c ++ t) = 2 ^ at' * m) (h0 : bval s = ext 0 b) (h1 : bval t = ext 0 c) : b = c ∧ s = t := by
  have hD : bval (b ++ s) ^^^ bval (c ++ t) = (bval b ^^^ bval c) ^^^ 2 ^ (8 * b.length) * (bval s ^^^ bval t) := by
    rw [bval_append_xor, bval_append_xor, ← hl, mul_xor]
    simp only [Nat.xor_assoc, Nat.xor_comm, xlc]
  have hz : Ln (8 * b.length) (2 ^ at' * m) = 0 := by
    rw [← hd, hD, Ln_xor, Ln_pow, h0, h1]
    unfold ext
    rw [fold_eq, fold_eq, ← hl, Nat.zero_xor]
    simp only [Ln_xor, Nat.xor_assoc, Nat.xor_comm, xlc, xx, Nat.xor_self, Nat.xor_zero, Nat.zero_xor]
  have hm0 : m = 0 := by
    by_cases ha : at' ≤ 8 * b.length
    · rw [show 8 * b.length = at' + (8 * b.length - at') by omega, Ln_add, Ln_pow] at hz
      exact Ln_eq_zero _ hm hz
    · rw [show at' = 8 * b.length + (at' - 8 * b.length) by omega, Nat.pow_add, Nat.mul_assoc, Ln_pow] at hz
      have h2 : 0 < 2 ^ (at' - 8 * b.length) := Nat.two_pow_pos _
      rcases Nat.mul_eq_zero.mp hz with h3 | h3
      · omega
      · exact h3
  rw [hm0, Nat.mul_zero] at hd
  have he := bval_inj (by simp [hl, hs, ht]) (xor_zero_iff hd)
  exact List.append_inj he hl

/-- a text with its sum behind it has one sum. -/
theorem ext_rest (b s : List UInt8) (hs : s.length = 4) (h : bval s = ext 0 b) : ext 0 (b ++ s) = 1214729159 := by
  rw [← ext_append]
  have hx : ext 0 b < 2 ^ 32 := ext_lt (by decide) b
  generalize hy : ext 0 b = y at h hx
  unfold ext
  rw [fold_eq, hs, h]
  have : y ^^^ M ^^^ y = M := by
    simp only [Nat.xor_assoc, Nat.xor_comm, xlc, xx]
  rw [this]; decide +kernel
/-- one bit turned. -/
theorem bval_flip : ∀ (l : List UInt8) (k : Nat) (h : k / 8 < l.length) (y : UInt8), y.toNat = (l[k / 8]).toNat ^^^ 2 ^ (k % 8) → bval (l.set (k / 8) y) = bval l ^^^ 2 ^ k
  | [], k, h, _, _ => by simp at h
  | x :: l, k, h, y, hy => by
    by_cases hk : k < 8
    · have h0 : k / 8 = 0 := by omega
      have h1 : k % 8 = k := by omega
      simp only [h0, List.getElem_cons_zero, h1] at hy
      simp only [h0, List.set_cons_zero, bval]
      rw [show 256 = 2 ^ 8 by rfl, add_eq_xor 8 _ (byte_lt y), add_eq_xor 8 _ (byte_lt x), hy]
      simp only [Nat.xor_assoc, Nat.xor_comm, xlc]
    · obtain ⟨j, rfl⟩ : ∃ j, k = j + 8 := ⟨k - 8, by omega⟩
      have h0 : (j + 8) / 8 = j / 8 + 1 := by omega
      have h1 : (j + 8) % 8 = j % 8 := by omega
      have hj : j / 8 < l.length := by simp [h0] at h; exact h
      simp only [h0, h1, List.getElem_cons_succ] at hy
      simp only [h0, List.set_cons_succ, bval]
      rw [bval_flip l j hj y hy, show 256 = 2 ^ 8 by rfl, mul_xor, add_eq_xor 8 _ (byte_lt x), ← mul_xor, add_eq_xor 8 _ (byte_lt x), mul_xor, Nat.xor_assoc, ← Nat.pow_add, Nat.add_comm 8 j]

/-- a burst of bits from one on: what has been turned so far. -/
def Burst (l t : List UInt8) (at' i : Nat) : Prop := t.length = l.length ∧ ∃ m, m < 2 ^ i ∧ bval l ^^^ bval t = 2 ^ at' * m
theorem Burst.zero (l : List UInt8) (at' : Nat) : Burst l l at' 0 := ⟨rfl, 0, by simp, by simp⟩
theorem Burst.skip {l t : List UInt8} {at' i : Nat} (h : Burst l t at' i) : Burst l t at' (i + 1) := by
  obtain ⟨h1, m, h2, h3⟩ := h
  exact ⟨h1, m, by rw [Nat.pow_succ]; omega, h3⟩
theorem Burst.flip {l t : List UInt8} {at' i : Nat} (h : Burst l t at' i) (hk : (at' + i) / 8 < t.length) (y : UInt8) (hy : y.toNat = (t[(at' + i) / 8]).toNat ^^^ 2 ^ ((at' + i) % 8)) : Burst l (t.set ((at' + i) / 8) y) at' (i + 1) := by
  obtain ⟨h1, m, h2, h3⟩ := h
  refine ⟨by simp [h1], m ^^^ 2 ^ i, Nat.xor_lt_two_pow (Nat.lt_trans h2 (Nat.pow_lt_pow_right (by decide) (by omega))) (Nat.pow_lt_pow_right (by decide) (by omega)), ?_⟩
  rw [bval_flip t _ hk y hy, ← Nat.xor_assoc, h3, mul_xor, Nat.pow_add]

/-- two texts put together bit by bit. -/
theorem bval_zip : ∀ (a b : List UInt8), a.length = b.length → bval (List.zipWith (· ^^^ ·) a b) = bval a ^^^ bval b
  | [], [], _ => rfl
  | [], _ :: _, h => by simp at h
  | _ :: _, [], h => by simp at h
  | x :: a, y :: b, h => by
    have ih := bval_zip a b (by simpa using h)
    simp only [List.zipWith_cons_cons, bval]
    rw [ih, show 256 = 2 ^ 8 by rfl, add_eq_xor 8 _ (byte_lt _), add_eq_xor 8 _ (byte_lt x), add_eq_xor 8 _ (byte_lt y), mul_xor, UInt8.toNat_xor]
    simp only [Nat.xor_assoc, Nat.xor_comm, xlc]

/-- so many bytes of a number, the lowest first. -/
def le : Nat → Nat → List UInt8
  | 0, _ => []
  | n + 1, x => UInt8.ofNat x :: le n (x / 256)

theorem le_length (n x : Nat) : (le n x).length = n := by
  induction n generalizing x with
  | zero => rfl
  | succ n ih => simp [le, ih]

theorem bval_le (n x : Nat) : bval (le n x) = x % 2 ^ (8 * n) := by
  induction n generalizing x with
  | zero => simp [le, bval, Nat.mod_one]
  | succ n ih =>
    simp only [le, bval, ih]
    rw [show 8 * (n + 1) = 8 + 8 * n by omega, Nat.pow_add, Nat.mod_mul]
    simp

theorem bval_le_lt {n x : Nat} (h : x < 2 ^ (8 * n)) : bval (le n x) = x := by rw [bval_le, Nat.mod_eq_of_lt h]

theorem le_bval (l : List UInt8) : le l.length (bval l) = l := by
  induction l with
  | nil => rfl
  | cons b l ih =>
    have hb := b.toNat_lt
    simp only [List.length_cons, le, bval]
    have h1 : (b.toNat + 256 * bval l) / 256 = bval l := by omega
    have h2 : UInt8.ofNat (b.toNat + 256 * bval l) = b := by
      apply UInt8.toNat_inj.mp
      simp
    rw [h1, h2, ih]

theorem le_snoc (n x : Nat) : le (n + 1) x = le n x ++ [UInt8.ofNat (x / 2 ^ (8 * n))] := by
  induction n generalizing x with
  | zero => simp [le]
  | succ n ih =>
    rw [le, ih]
    simp only [le, List.cons_append]
    rw [Nat.div_div_eq_div_mul, show 256 * 2 ^ (8 * n) = 2 ^ (8 * (n + 1)) by rw [show 8 * (n + 1) = 8 + 8 * n by omega, Nat.pow_add]]

theorem le_mod (n x : Nat) : le n (x % 2 ^ (8 * n)) = le n x := by
  have h := le_bval (le n x)
  rw [le_length, bval_le] at h; exact h

/-- a burst turns the sum. -/
theorem burst_sum {l t : List UInt8} {at' : Nat} (h : Burst l t at' 32) (hne : l ≠ t) : ext 0 l ≠ ext 0 t := by
  obtain ⟨h1, m, h2, h3⟩ := h
  intro he
  by_cases ha : at' ≤ 8 * l.length
  · refine hne (fold_burst (0 ^^^ M) h1.symm at' m h2 h3 ha ?_)
    exact xor_right_inj he
  · have hlt : bval l ^^^ bval t < 2 ^ (8 * l.length) := Nat.xor_lt_two_pow (bval_lt l) (by rw [← h1]; exact bval_lt t)
    have hm : m = 0 := by
      rcases Nat.eq_zero_or_pos m with h0 | h0
      · exact h0
      · have hle : 2 ^ (8 * l.length) ≤ 2 ^ at' := Nat.pow_le_pow_right (by decide) (by omega)
        have : 2 ^ at' * 1 ≤ 2 ^ at' * m := Nat.mul_le_mul_left _ h0
        omega
    rw [hm, Nat.mul_zero] at h3
    exact hne (bval_inj h1.symm (xor_zero_iff h3))
/-- a burst in a text with its sum behind it is told. -/
theorem burst_told {l t : List UInt8} {at' : Nat} (h : Burst (l ++ le 4 (ext 0 l)) t at' 32) (hne : l ++ le 4 (ext 0 l) ≠ t) : ext 0 (t.take l.length) ≠ bval (t.drop l.length) := by
  obtain ⟨h1, m, h2, h3⟩ := h
  intro he
  have hlen : t.length = l.length + 4 := by rw [h1, List.length_append, le_length]
  rw [← List.take_append_drop l.length t] at h3
  have := ext_burst (b := l) (c := t.take l.length) (s := le 4 (ext 0 l)) (t := t.drop l.length) (by simp; omega) (le_length _ _) (by simp; omega) at' m h2 h3 (bval_le_lt (ext_lt (by decide) l)) he.symm
  refine hne ?_
  rw [this.2, ← List.take_append_drop l.length t, ← this.1]
  simp
theorem bval_snoc (l : List UInt8) (b : UInt8) : bval (l ++ [b]) = bval l + 2 ^ (8 * l.length) * b.toNat := by
  rw [bval_append]; simp [bval]

theorem or_add {r n : Nat} (q : Nat) (h : r < 2 ^ n) : r ||| 2 ^ n * q = r + 2 ^ n * q := by
  rw [Nat.add_comm r]
  apply Nat.eq_of_testBit_eq
  intro i
  rw [Nat.testBit_two_pow_mul_add _ h, Nat.testBit_or, Nat.testBit_two_pow_mul]
  by_cases hi : i < n
  · simp [hi, Nat.not_le.mpr hi]
  · simp [hi, Nat.le_of_not_lt hi, Nat.testBit_lt_two_pow (Nat.lt_of_lt_of_le h (Nat.pow_le_pow_right (by decide) (Nat.le_of_not_lt hi)))]

/-- the number at a place. -/
def num (l : List UInt8) (at' size : Nat) : Nat := bval ((l.drop at').take size)
theorem num_lt (l : List UInt8) (at' size : Nat) : num l at' size < 2 ^ (8 * size) := by
  refine Nat.lt_of_lt_of_le (bval_lt _) (Nat.pow_le_pow_right (by decide) ?_)
  simp; omega
end Go.Proofs.Ytjiiabekjiilbaa.Mp
