/- Lists that stand apart: what is held of them while they are grown and spoilt, step by step. -/
import Derived.Test.YtjiiabekjiilbaaLonger
set_option linter.unusedSimpArgs false
set_option linter.unusedVariables false
namespace Go.Proofs.Ytjiiabekjiilbaa
open Go.RowKit Mp

def It.blk (x : It) : Option Nat := Mp.blk x.a x.c
def Own (w : World) (lo : Nat) (x : It) : Prop := OwnB w lo 5 x.a x.l.length x.c x.l
/-- no two of them in one block. -/
def Parted (xs : List It) : Prop := ∀ i j (hi : i < xs.length) (hj : j < xs.length), i ≠ j → xs[i].blk = none ∨ xs[i].blk ≠ xs[j].blk

/-- a block of cells of a type. -/
def Kind (w : World) (g : Nat) (t : TypeId) : Prop := ∃ cur z, w.heap[g]? = some (.cells cur t z)
theorem Kind.ne {w : World} {g g' : Nat} {t t' : TypeId} (h : Kind w g t) (h' : Kind w g' t') (hne : t ≠ t') : g ≠ g' := by
  rintro rfl
  obtain ⟨c, z, h⟩ := h
  obtain ⟨c', z', h'⟩ := h'
  rw [h] at h'
  injection h' with h'
  injection h' with _ h' _
  exact hne h'
theorem own_kind {w : World} {lo : Nat} {e : TypeId} {A : Option Addr} {n c : Nat} {l : List UInt8} (h : OwnB w lo e A n c l) {g : Nat} (hg : Mp.blk A c = some g) : Kind w g e := by
  obtain ⟨h1, h2, h3, h4⟩ := h
  rcases h4 with h4 | ⟨g', cur, z, hA, _, hh, _⟩
  · simp [Mp.blk, h4] at hg
  · unfold Mp.blk at hg
    split at hg
    · cases hg
    · subst hA
      simp at hg
      subst hg
      exact ⟨cur, z, hh⟩
theorem row_kind {w : World} {base : Nat} {e : TypeId} {size n : Nat} {v : Value} {xs : List Value} (h : w.ownsRow base e size v n xs) {g : Nat} (hg : v.ownBlock = some g) : Kind w g e := by
  obtain ⟨_, ⟨rfl, _⟩ | ⟨g', cap, cur, rfl, _, hh, _⟩⟩ := h
  · cases hg
  · have : g' = g := by simpa [Value.ownBlock] using hg
    subst this
    exact ⟨cur, _, hh⟩
/-- an owned row is kept where another kind of block is written. -/
theorem row_keep {w w' : World} {base : Nat} {e u : TypeId} {size n : Nat} {v : Value} {xs : List Value} {row : Option Nat} (h : w.ownsRow base e size v n xs) (hg : w.grownBy w' row) (hu : ∀ g, row = some g → Kind w g u) (hne : e ≠ u) : w'.ownsRow base e size v n xs := by
  refine h.kept hg ?_
  rcases hb : v.ownBlock with _ | g
  · exact .inl rfl
  · exact .inr fun e1 => (row_kind h hb).ne (hu g e1.symm) hne rfl
theorem own_keep {w w' : World} {lo : Nat} {x : It} {u : TypeId} {row : Option Nat} (h : Own w lo x) (hg : w.grownBy w' row) (hu : ∀ g, row = some g → Kind w g u) (hne : 5 ≠ u) : Own w' lo x := by
  refine OwnB.grown h hg ?_
  rcases hb : Mp.blk x.a x.c with _ | g
  · exact .inl rfl
  · exact .inr fun e1 => (own_kind h hb).ne (hu g e1.symm) hne rfl
theorem none_kind {w : World} {u : TypeId} : ∀ g, (none : Option Nat) = some g → Kind w g u := fun _ h => by cases h

/-- a slice whose block is known, below block B. -/
def Lst (w : World) (B : Nat) (A : Option Addr) (t : TypeId) (vs : List Value) : Prop :=
  vs = [] ∨ ∃ b off cur z, A = some ⟨b, off, none⟩ ∧ b < B ∧ w.heap[b]? = some (.cells cur t z) ∧ ∀ i (h : i < vs.length), cur[off + i]? = some vs[i]
theorem Lst.cells {w : World} {B : Nat} {A : Option Addr} {t : TypeId} {vs : List Value} (h : Lst w B A t vs) : Cells w B A vs := by
  rcases h with h | ⟨b, off, cur, z, h1, h2, h3, h4⟩
  · exact .inl h
  · exact .inr ⟨b, off, h1, h2, fun i hi => by rw [cell_of_row w b (off + i) cur t z h3]; exact h4 i hi⟩
theorem Lst.keep {w w' : World} {B : Nat} {A : Option Addr} {t : TypeId} {vs : List Value} {row : Option Nat} (h : Lst w B A t vs) (hg : w.grownBy w' row) (hne : ∀ g, row = some g → B ≤ g ∨ ∃ u, Kind w g u ∧ u ≠ t) : Lst w' B A t vs := by
  rcases h with h | ⟨b, off, cur, z, h1, h2, h3, h4⟩
  · exact .inl h
  · refine .inr ⟨b, off, cur, z, h1, h2, (hg.block b (lt_of_block h3) fun e => ?_).trans h3, h4⟩
    rcases hne b e.symm with h | ⟨u, ⟨c', z', hk⟩, hu⟩
    · omega
    · exact Kind.ne ⟨c', z', hk⟩ ⟨cur, z, h3⟩ hu rfl
/-- behind the first ones. -/
theorem Cells.cut {w : World} {B : Nat} {A : Option Addr} {vs : List Value} (h : Cells w B A vs) (k cap : Nat) (hc : vs.length ≤ cap) : Cells w B (if cap = k then A else A.map (·.add (k * 1))) (vs.drop k) := by
  rcases h with h | ⟨b, off, h1, h2, h3⟩
  · subst h; left; simp
  · by_cases hk : vs.length ≤ k
    · left; exact List.drop_eq_nil_of_le hk
    · right
      refine ⟨b, off + k, ?_, h2, fun i hi => ?_⟩
      · rw [if_neg (by omega), h1]
        by_cases h0 : k = 0
        · subst h0; simp [Addr.add]
        · simp [Addr.add, h0]
      · have hi2 : k + i < vs.length := by simp at hi; omega
        have := h3 (k + i) hi2
        rw [Nat.add_assoc, this]; simp
theorem Items.cut {w : World} {A : Option Addr} {xs : List It} (h : Items w A xs) (k cap : Nat) (hc : xs.length ≤ cap) : Items w (if cap = k then A else A.map (·.add (k * 1))) (xs.drop k) := by
  refine ⟨?_, fun x hx => h.2 x (List.mem_of_mem_drop hx)⟩
  rw [List.map_drop]
  exact h.1.cut k cap (by simpa using hc)

/-- what is held in the first part of Apart: k of the longer ones are in the list 'long', k2 of their texts in the list 'want'. -/
structure Grow (w0 w : World) (lo B1 : Nat) (A : Option Addr) (t : TypeId) (xs ys : List It) (said long want : Value) (k k2 : Nat) : Prop where
  parted : Parted xs
  old : ∀ x ∈ xs, ∀ g, x.blk = some g → g < w0.heap.size
  los : lo ≤ w0.heap.size
  b1 : w0.heap.size ≤ B1
  saidlt : ∀ g, said.ownBlock = some g → g < B1
  len : ys.length ≤ xs.length
  say : ∀ i (h : i < ys.length) (h' : i < xs.length), ys[i].l = xs[i].l ++ farL (UInt8.ofNat (i + 1)) ∧ (ys[i].blk = xs[i].blk ∨ ∀ g, ys[i].blk = some g → w0.heap.size ≤ g)
  blw : Below lo w0 w
  size : B1 ≤ w.heap.size
  lst : Lst w w0.heap.size A t (xs.map It.val)
  own : ∀ x ∈ xs, Own w lo x
  made : ∀ y ∈ ys, Own w lo y
  said : w.ownsRow w0.heap.size 9 1 said xs.length (xs.map It.str)
  long : w.ownsRow w0.heap.size 22 1 long k ((ys.take k).map It.val)
  want : w.ownsRow B1 9 1 want k2 ((ys.take k2).map It.str)

section
variable {w0 w w' : World} {lo B1 : Nat} {A : Option Addr} {t : TypeId} {xs ys : List It} {said long want : Value} {k k2 : Nat}
theorem below_of_grown {lo : Nat} {row : Option Nat} {w0 w w' : World} (h : Below lo w0 w) (hg : w.grownBy w' row) (hlo : lo ≤ w0.heap.size) (hr : ∀ g, row = some g → lo ≤ g) : Below lo w0 w' :=
  h.grown hg (Nat.le_trans hlo h.size) hr
/-- nothing that was there is touched. -/
theorem Grow.none_ (h : Grow w0 w lo B1 A t xs ys said long want k k2) (hg : w.grownBy w' none) : Grow w0 w' lo B1 A t xs ys said long want k k2 :=
  ⟨h.parted, h.old, h.los, h.b1, h.saidlt, h.len, h.say, below_of_grown h.blw hg h.los (fun _ e => by cases e), Nat.le_trans h.size hg.size, h.lst.keep hg (fun _ e => by cases e),
    fun x hx => OwnB.grown (h.own x hx) hg (by rcases hb : Mp.blk x.a x.c with _ | g; exact .inl rfl; exact .inr (by simp)), fun y hy => OwnB.grown (h.made y hy) hg (by rcases hb : Mp.blk y.a y.c with _ | g; exact .inl rfl; exact .inr (by simp)),
    row_keep (u := 5) h.said hg none_kind (by decide), row_keep (u := 5) h.long hg none_kind (by decide), row_keep (u := 5) h.want hg none_kind (by decide)⟩
theorem Grow.alloc (h : Grow w0 w lo B1 A t xs ys said long want k k2) (o : Obj) : Grow w0 (w.alloc o) lo B1 A t xs ys said long want k k2 := h.none_ (World.grownBy_alloc w o none)
theorem Grow.drew (h : Grow w0 w lo B1 A t xs ys said long want k k2) : Grow w0 w.drew lo B1 A t xs ys said long want k k2 := h.none_ ⟨rfl, rfl, rfl, Nat.le_refl _, fun _ _ _ => rfl⟩
theorem grown_of_below {row : Option Nat} {w w' : World} (h : Below w.heap.size w w') : w.grownBy w' row := ⟨h.os, h.tape, h.output, h.size, fun k hk _ => h.block k hk⟩
theorem Grow.below (h : Grow w0 w lo B1 A t xs ys said long want k k2) (hb : Below w.heap.size w w') : Grow w0 w' lo B1 A t xs ys said long want k k2 := h.none_ (grown_of_below hb)

/-- one more is made longer. -/
theorem Grow.longer (h : Grow w0 w lo B1 A t xs ys said long want k k2) (ht : t ≠ 5) (hk : k ≤ ys.length) (hk2 : k2 ≤ ys.length) {i : Nat} (hy : ys.length = i) (hi : i < xs.length) {A' : Option Addr} {c' : Nat} (hO : OwnB w' lo 5 A' ((xs[i]).l.length + 40) c' ((xs[i]).l ++ farL (UInt8.ofNat (i + 1))))
    (hE : Elder w w' lo (xs[i]).a (xs[i]).l.length (xs[i]).c (xs[i]).l A' c') : Grow w0 w' lo B1 A t xs (ys ++ [⟨A', c', (xs[i]).l ++ farL (UInt8.ofNat (i + 1))⟩]) said long want k k2 := by
  obtain ⟨hE1, hE2, hE3⟩ := hE
  subst hy
  have hox := h.own _ (List.getElem_mem hi)
  have hkind : ∀ g, Mp.blk (xs[ys.length]).a (xs[ys.length]).c = some g → Kind w g 5 := fun g hg => own_kind hox hg
  have hlt : ∀ g, Mp.blk (xs[ys.length]).a (xs[ys.length]).c = some g → g < w0.heap.size := h.old _ (List.getElem_mem hi)
  refine ⟨h.parted, h.old, h.los, h.b1, h.saidlt, by simp; omega, ?_, below_of_grown h.blw hE2 h.los (fun g hg => (OwnB.blk_lt hox hg).1), Nat.le_trans h.size hE2.size, h.lst.keep hE2 (fun g hg => .inr ⟨_, hkind g hg, ht.symm⟩), ?_, ?_,
    row_keep h.said hE2 hkind (by decide), ?_, ?_⟩
  · intro j hj hj'
    by_cases hjl : j < ys.length
    · rw [List.getElem_append_left hjl]
      exact h.say j hjl hj'
    · obtain rfl : j = ys.length := by simp at hj; omega
      rw [List.getElem_append_right (Nat.le_refl _)]
      simp only [Nat.sub_self, List.getElem_cons_zero]
      refine ⟨trivial, ?_⟩
      rcases hE3 with ⟨rfl, rfl⟩ | hn
      · exact .inl rfl
      · exact .inr fun g hg => Nat.le_trans (Nat.le_trans h.b1 h.size) (hn g hg)
  · intro x hx
    obtain ⟨j, hj, rfl⟩ := List.getElem_of_mem hx
    by_cases hji : j = ys.length
    · subst hji; exact hE1
    · exact OwnB.grown (h.own _ hx) hE2 (h.parted j ys.length hj hi hji)
  · intro y hy
    rcases List.mem_append.1 hy with hy | hy
    · obtain ⟨j, hj, rfl⟩ := List.getElem_of_mem hy
      refine OwnB.grown (h.made _ hy) hE2 ?_
      rcases (h.say j hj (by omega)).2 with he | hfar
      · have := h.parted j ys.length (by omega) hi (by omega)
        unfold It.blk at he this
        rw [he]; exact this
      · rcases hb : Mp.blk (ys[j]).a (ys[j]).c with _ | g
        · exact .inl rfl
        · refine .inr fun e1 => ?_
          have := hfar g hb
          have := hlt g e1.symm
          omega
    · obtain rfl := List.mem_singleton.1 hy
      unfold Own
      simp only [List.length_append, farL, List.length_replicate]
      exact hO
  · rw [List.take_append_of_le_length hk]
    exact row_keep h.long hE2 hkind (by decide)
  · rw [List.take_append_of_le_length hk2]
    exact row_keep h.want hE2 hkind (by decide)
/-- it is put behind the list of the longer ones. -/
theorem Grow.put (h : Grow w0 w lo B1 A t xs ys said long want k k2) (hk : k < ys.length) {long' : Value} (hO : w'.ownsRow w0.heap.size 22 1 long' (k + 1) ((ys.take k).map It.val ++ [(ys[k]).val])) (hg : w.grownBy w' long.ownBlock) :
    Grow w0 w' lo B1 A t xs ys said long' want (k + 1) k2 := by
  have hkind : ∀ g, long.ownBlock = some g → Kind w g 22 := fun g hg => row_kind h.long hg
  have hlt := fun g hg => (h.long.lt g hg).1
  refine ⟨h.parted, h.old, h.los, h.b1, h.saidlt, h.len, h.say, below_of_grown h.blw hg h.los (fun g e => Nat.le_trans h.los (hlt g e)), Nat.le_trans h.size hg.size, h.lst.keep hg (fun g e => .inl (hlt g e)),
    fun x hx => own_keep (h.own x hx) hg hkind (by decide), fun y hy => own_keep (h.made y hy) hg hkind (by decide), row_keep h.said hg hkind (by decide), ?_, row_keep h.want hg hkind (by decide)⟩
  rw [List.take_succ_eq_append_getElem hk, List.map_append]
  exact hO
theorem Grow.say_ (h : Grow w0 w lo B1 A t xs ys said long want k k2) (hk : k2 < ys.length) {want' : Value} (hO : w'.ownsRow B1 9 1 want' (k2 + 1) ((ys.take k2).map It.str ++ [(ys[k2]).str])) (hg : w.grownBy w' want.ownBlock) :
    Grow w0 w' lo B1 A t xs ys said long want' k (k2 + 1) := by
  have hkind : ∀ g, want.ownBlock = some g → Kind w g 9 := fun g hg => row_kind h.want hg
  have hlt := fun g hg => (h.want.lt g hg).1
  refine ⟨h.parted, h.old, h.los, h.b1, h.saidlt, h.len, h.say, below_of_grown h.blw hg h.los (fun g e => Nat.le_trans h.los (Nat.le_trans h.b1 (hlt g e))), Nat.le_trans h.size hg.size, h.lst.keep hg (fun g e => .inl (Nat.le_trans h.b1 (hlt g e))),
    fun x hx => own_keep (h.own x hx) hg hkind (by decide), fun y hy => own_keep (h.made y hy) hg hkind (by decide), h.said.kept hg ?_, row_keep h.long hg hkind (by decide), ?_⟩
  · rcases hb : said.ownBlock with _ | g
    · exact .inl rfl
    · refine .inr fun e1 => ?_
      have := h.saidlt g hb
      have := hlt g e1.symm
      omega
  · rw [List.take_succ_eq_append_getElem hk, List.map_append]
    exact hO
theorem Grow.items (h : Grow w0 w lo B1 A t xs ys said long want k k2) : Items w A xs :=
  ⟨h.lst.cells.more h.blw.size, fun x hx => (h.own x hx).bytes⟩
end

/-- what is held in the second part: those from the i-th on are as they were. -/
structure Spoil (w0 w : World) (lo : Nat) (A : Option Addr) (t : TypeId) (xs : List It) (said : Value) (i : Nat) : Prop where
  parted : Parted xs
  los : lo ≤ w0.heap.size
  blw : Below lo w0 w
  lst : Lst w w0.heap.size A t (xs.map It.val)
  own : ∀ j (h : j < xs.length), i ≤ j → Own w lo xs[j]
  said : w.ownsRow w0.heap.size 9 1 said xs.length (xs.map It.str)
theorem Grow.spoil {w0 w : World} {lo B1 : Nat} {A : Option Addr} {t : TypeId} {xs ys : List It} {said long want : Value} {k k2 : Nat} (h : Grow w0 w lo B1 A t xs ys said long want k k2) : Spoil w0 w lo A t xs said 0 :=
  ⟨h.parted, h.los, h.blw, h.lst, fun j hj _ => h.own _ (List.getElem_mem hj), h.said⟩
theorem Spoil.below {w0 w w' : World} {lo : Nat} {A : Option Addr} {t : TypeId} {xs : List It} {said : Value} {i : Nat} (h : Spoil w0 w lo A t xs said i) (hb : Below w.heap.size w w') : Spoil w0 w' lo A t xs said i :=
  have hg : w.grownBy w' none := grown_of_below hb
  ⟨h.parted, h.los, below_of_grown h.blw hg h.los (fun _ e => by cases e), h.lst.keep hg (fun _ e => by cases e), fun j hj hij => OwnB.below (h.own j hj hij) hb, row_keep (u := 5) h.said hg none_kind (by decide)⟩
/-- the i-th is spoilt. -/
theorem Spoil.step {w0 w w' : World} {lo : Nat} {A : Option Addr} {t : TypeId} {xs : List It} {said : Value} {i : Nat} (h : Spoil w0 w lo A t xs said i) (ht : t ≠ 5) (hi : i < xs.length) (hg : w.grownBy w' (Mp.blk (xs[i]).a (xs[i]).c)) : Spoil w0 w' lo A t xs said (i + 1) := by
  have hox := h.own i hi (Nat.le_refl _)
  have hkind : ∀ g, Mp.blk (xs[i]).a (xs[i]).c = some g → Kind w g 5 := fun g hg => own_kind hox hg
  exact ⟨h.parted, h.los, below_of_grown h.blw hg h.los (fun g e => (OwnB.blk_lt hox e).1), h.lst.keep hg (fun g e => .inr ⟨_, hkind g e, ht.symm⟩),
    fun j hj hij => OwnB.grown (h.own j hj (by omega)) hg (h.parted j i hj hi (by omega)), row_keep h.said hg hkind (by decide)⟩
end Go.Proofs.Ytjiiabekjiilbaa
