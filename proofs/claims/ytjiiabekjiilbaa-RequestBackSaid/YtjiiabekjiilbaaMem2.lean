/- Slices of bytes that the program made: who owns them; conversions between texts and bytes; growing by append. No program in sight. -/
import Derived.Test.YtjiiabekjiilbaaMem
import Derived.Laws.IdiomStrings
import Derived.Laws.AppendOwn
import Derived.OwnWalk
import Derived.OneCell
import Derived.RegionTactic
import Derived.Deep.Draws
set_option linter.unusedSimpArgs false
set_option linter.unusedVariables false
namespace Go.Proofs.Ytjiiabekjiilbaa.Mp
open Go Go.RowKit

/-- a text of bytes. -/
def txt (l : List UInt8) : ByteArray := ⟨l.toArray⟩
theorem txt_size (l : List UInt8) : (txt l).size = l.length := rfl
theorem txt_add (a b : List UInt8) : txt a ++ txt b = txt (a ++ b) := ByteArray.mk_append_mk a b
theorem txt_toList (l : List UInt8) : (txt l).toList = l := ByteArray.toList_mk l
theorem txt_inj {a b : List UInt8} (h : txt a = txt b) : a = b := by
  unfold txt at h
  injection h with h
  simpa using h

/-- a slice of bytes that reads as l, n of them, with room for c, whose room nobody else holds unless he holds block g; it lies from block lo on. -/
def OwnB (w : World) (lo : Nat) (e : TypeId) (A : Option Addr) (n c : Nat) (l : List UInt8) : Prop :=
  l.length = n ∧ n ≤ c ∧ c ≤ maxLen ∧ (c = 0 ∨ ∃ g cur z, A = some ⟨g, 0, none⟩ ∧ lo ≤ g ∧ w.heap[g]? = some (.cells cur e z) ∧ cur.size = c ∧ (∀ i, i < c → ¬ (z.1 ≤ i ∧ i < z.2)) ∧
    ∀ i (h : i < l.length), cur[i]? = some (bv l[i]))

/-- the block of a slice that has room. -/
def blk (A : Option Addr) (c : Nat) : Option Nat := if c = 0 then none else A.map (·.block)

section
variable {w w' : World} {lo lo' : Nat} {e : TypeId} {A : Option Addr} {n c : Nat} {l : List UInt8}
theorem OwnB.bytes (h : OwnB w lo e A n c l) : Bytes w w.heap.size A l := by
  obtain ⟨h1, h2, h3, h4⟩ := h
  rcases h4 with h4 | ⟨g, cur, z, hA, hlo, hg, hs, hz, hc⟩
  · left; exact List.eq_nil_of_length_eq_zero (by omega)
  · right
    refine ⟨g, 0, hA, lt_of_block hg, fun i hi => ?_⟩
    rw [Nat.zero_add]
    unfold World.cell?
    simp [hg, hc i hi]
theorem OwnB.blk_lt (h : OwnB w lo e A n c l) {g : Nat} (hg : blk A c = some g) : lo ≤ g ∧ g < w.heap.size := by
  obtain ⟨h1, h2, h3, h4⟩ := h
  unfold blk at hg
  rcases h4 with h4 | ⟨g', cur, z, hA, hlo, hg', hs, hz, hc⟩
  · simp [h4] at hg
  · split at hg
    · cases hg
    · subst hA
      simp at hg
      subst hg
      exact ⟨hlo, lt_of_block hg'⟩
theorem OwnB.mono (h : OwnB w lo e A n c l) (hl : lo' ≤ lo) : OwnB w lo' e A n c l := by
  obtain ⟨h1, h2, h3, h4⟩ := h
  refine ⟨h1, h2, h3, ?_⟩
  rcases h4 with h4 | ⟨g, cur, z, hA, hlo, hr⟩
  · exact .inl h4
  · exact .inr ⟨g, cur, z, hA, by omega, hr⟩
/-- it is kept where its block is. -/
theorem OwnB.keep (h : OwnB w lo e A n c l) (hk : ∀ g, blk A c = some g → w'.heap[g]? = w.heap[g]?) : OwnB w' lo e A n c l := by
  obtain ⟨h1, h2, h3, h4⟩ := h
  refine ⟨h1, h2, h3, ?_⟩
  rcases h4 with h4 | ⟨g, cur, z, hA, hlo, hg, hr⟩
  · exact .inl h4
  · by_cases hc0 : c = 0
    · exact .inl hc0
    · exact .inr ⟨g, cur, z, hA, hlo, (hk g (by unfold blk; rw [if_neg hc0, hA]; rfl)).trans hg, hr⟩
theorem OwnB.grown (h : OwnB w lo e A n c l) {row : Option Nat} (hg : w.grownBy w' row) (hne : blk A c = none ∨ blk A c ≠ row) : OwnB w' lo e A n c l :=
  h.keep fun g hb => hg.block g (h.blk_lt hb).2 (by rcases hne with h0 | h0 <;> (rw [hb] at h0; first | cases h0 | exact h0))
theorem OwnB.below (h : OwnB w lo e A n c l) (hb : Below w.heap.size w w') : OwnB w' lo e A n c l :=
  h.keep fun g hg => hb.block g (h.blk_lt hg).2
theorem OwnB.below' {B : Nat} (h : OwnB w lo e A n c l) (hb : Below B w w') (hB : ∀ g, blk A c = some g → g < B) : OwnB w' lo e A n c l :=
  h.keep fun g hg => hb.block g (hB g hg)
/-- a shorter one, with the same room. -/
theorem OwnB.take (h : OwnB w lo e A n c l) (k : Nat) (hk : k ≤ n) : OwnB w lo e A k c (l.take k) := by
  obtain ⟨h1, h2, h3, h4⟩ := h
  refine ⟨by simp; omega, by omega, h3, ?_⟩
  rcases h4 with h4 | ⟨g, cur, z, hA, hlo, hg, hs, hz, hc⟩
  · exact .inl h4
  · refine .inr ⟨g, cur, z, hA, hlo, hg, hs, hz, fun i hi => ?_⟩
    have hi' : i < l.length := by simp at hi; omega
    rw [hc i hi']; simp
theorem OwnB.nil (w : World) (lo : Nat) (e : TypeId) (A : Option Addr) : OwnB w lo e A 0 0 [] := ⟨rfl, by omega, by simp [maxLen], .inl rfl⟩
end

section
variable {w : World} {lo : Nat} {e : TypeId} {A : Option Addr} {n c : Nat} {l : List UInt8}
/-- where it has elements its block is known. -/
theorem OwnB.open_ (h : OwnB w lo e A n c l) (hc : 0 < c) : ∃ g, A = some ⟨g, 0, none⟩ ∧ blk A c = some g ∧ lo ≤ g ∧ g < w.heap.size ∧ (∀ i (h : i < l.length), w.cell? ⟨g, i, none⟩ = some (bv l[i])) ∧ ∀ i, i < c → w.frozen? ⟨g, i, none⟩ = false := by
  obtain ⟨h1, h2, h3, h4⟩ := h
  rcases h4 with h4 | ⟨g, cur, z, hA, hlo, hg, hs, hz, hcell⟩
  · omega
  · refine ⟨g, hA, by unfold blk; rw [if_neg (by omega), hA]; rfl, hlo, lt_of_block hg, fun i hi => ?_, fun i hi => ?_⟩
    · rw [cell_of_row w g i cur e z hg, hcell i hi]
    · have := hz i hi
      unfold World.frozen?
      simp [hg]
      omega
/-- one byte stored. -/
theorem OwnB.store {g : Nat} (h : OwnB w lo e (some ⟨g, 0, none⟩) n c l) (k : Nat) (hk : k < n) (y : UInt8) : OwnB (w.setCell ⟨g, k, none⟩ (bv y)) lo e (some ⟨g, 0, none⟩) n c (l.set k y) := by
  obtain ⟨h1, h2, h3, h4⟩ := h
  refine ⟨by simp [h1], h2, h3, ?_⟩
  rcases h4 with h4 | ⟨g', cur, z, hA, hlo, hg, hs, hz, hcell⟩
  · exact .inl h4
  · injection hA with hA
    injection hA with hA
    subst hA
    refine .inr ⟨g, cur.setIfInBounds k (bv y), z, rfl, hlo, by simp [World.setCell, Array.getElem?_modify, hg], by simpa using hs, hz, fun i hi => ?_⟩
    rw [Array.getElem?_setIfInBounds, List.getElem_set]
    by_cases hik : k = i
    · subst hik
      rw [if_pos rfl, if_pos (by omega), if_pos rfl]
    · rw [if_neg hik, if_neg hik]
      exact hcell i (by simpa using hi)
end

/-- block g is just the cells cs, none frozen. -/
def Blk (w : World) (g : Nat) (t : TypeId) (cs : Array Value) : Prop := w.heap[g]? = some (.cells cs t (0, 0))
section
variable {w w' : World} {g : Nat} {t : TypeId} {cs : Array Value}
theorem Blk.lt (h : Blk w g t cs) : g < w.heap.size := lt_of_block h
theorem Blk.cell (h : Blk w g t cs) (i : Nat) : w.cell? ⟨g, i, none⟩ = cs[i]? := cell_of_row w g i cs t (0, 0) h
theorem Blk.frozen (h : Blk w g t cs) (i : Nat) : w.frozen? ⟨g, i, none⟩ = false := by
  unfold Blk at h
  simp [World.frozen?, h]
theorem Blk.new (w : World) (t : TypeId) (cs : Array Value) : Blk (w.alloc (.cells cs t)) w.heap.size t cs := heap_alloc_new w _
theorem Blk.drew (h : Blk w g t cs) : Blk w.drew g t cs := h
theorem Blk.alloc (h : Blk w g t cs) (o : Obj) : Blk (w.alloc o) g t cs := (Below.heap_alloc w o g h.lt).trans h
theorem Blk.set_ (h : Blk w g t cs) (i : Nat) (u : Value) : Blk (w.setCell ⟨g, i, none⟩ u) g t (cs.setIfInBounds i u) := by
  unfold Blk at h ⊢
  simp [World.setCell, Array.getElem?_modify, h]
theorem Blk.far (h : Blk w g t cs) {p : Addr} (hp : g ≠ p.block) (u : Value) : Blk (w.setCell p u) g t cs := (Below.heap_setCell w p u g hp).trans h
theorem Blk.below {B : Nat} (h : Blk w g t cs) (hb : Below B w w') (hg : g < B) : Blk w' g t cs := (hb.block g hg).trans h
theorem Blk.bytes {l : List UInt8} (h : Blk w g t cs) (hc : ∀ i (h : i < l.length), cs[i]? = some (bv l[i])) : Bytes w w.heap.size (some ⟨g, 0, none⟩) l :=
  .inr ⟨g, 0, rfl, h.lt, fun i hi => by rw [Nat.zero_add, h.cell i, hc i hi]⟩
end

/-! ### texts to bytes, bytes to texts -/
/-- the room of '[]byte(s)'. -/
def capOf (e : TypeId) (w : World) (s : ByteArray) : Nat := grownCap w s.size 0 e
/-- the world behind '[]byte(s)'. -/
def convW (e : TypeId) (w : World) (s : ByteArray) : World :=
  w.drew.alloc (.cells (bytesRow s (grownCap w s.size 0 e)) e ((bytesRow s (grownCap w s.size 0 e)).size, (bytesRow s (grownCap w s.size 0 e)).size + 1))

theorem run_conv {P : Program} (src dst e : TypeId) (hs : P.underlying src = some .string) (hd : P.underlying dst = some (.slice e)) (he : P.underlying e = some (.int .u8)) (w : World) (s : ByteArray) :
    (convert src dst (.string s)).run P w = .ok (.slice (some ⟨w.heap.size, 0, none⟩) s.size (capOf e w s)) (convW e w s) := run_bytes_of_string w src dst e s hs hd he

theorem convW_below (e : TypeId) (w : World) (s : ByteArray) : Below w.heap.size w (convW e w s) := ((Below.refl _ _).drew).alloc (Nat.le_refl _) _
theorem capOf_ge (e : TypeId) (w : World) (s : ByteArray) : s.size ≤ capOf e w s := grownCap_ge w s.size 0 e
theorem convW_size (e : TypeId) (w : World) (s : ByteArray) : (convW e w s).heap.size = w.heap.size + 1 := by
  unfold convW; rw [World.size_alloc]; rfl
theorem size_bytesRow (s : ByteArray) (c : Nat) (h : s.size ≤ c) : (bytesRow s c).size = c := by
  unfold bytesRow
  have : s.data.size = s.size := rfl
  simp; omega
theorem convW_own (e : TypeId) (w : World) (l : List UInt8) (h : l.length ≤ maxLen) : OwnB (convW e w (txt l)) w.heap.size e (some ⟨w.heap.size, 0, none⟩) l.length (capOf e w (txt l)) l := by
  have hge := capOf_ge e w (txt l)
  rw [txt_size] at hge
  refine ⟨rfl, hge, grownCap_le_maxLen w _ 0 e h, .inr ⟨w.heap.size, _, _, rfl, Nat.le_refl _, heap_alloc_new w.drew _, size_bytesRow _ _ hge, fun i hi => ?_, fun i hi => ?_⟩⟩
  · rw [size_bytesRow _ _ hge]
    unfold capOf at hi
    omega
  · rw [bytesRow_at (txt l) _ i (show i < l.toArray.size by simpa using hi)]
    rfl

/-- a new block of bytes. -/
theorem bytes_new (w : World) (e : TypeId) (z : Nat × Nat) (l : List UInt8) : Bytes (w.alloc (.cells (l.map bv).toArray e z)) (w.alloc (.cells (l.map bv).toArray e z)).heap.size (some ⟨w.heap.size, 0, none⟩) l := by
  right
  refine ⟨w.heap.size, 0, rfl, by simp, fun i hi => ?_⟩
  rw [Nat.zero_add, World.cell?_alloc_mark]
  simp [hi]

theorem run_str {P : Program} (src dst e : TypeId) (hs : P.underlying src = some (.slice e)) (he : P.underlying e = some (.int .u8)) (hd : P.underlying dst = some .string) {w : World} {B : Nat} {A : Option Addr} {n : Nat} (c : Nat) {l : List UInt8}
    (hb : Bytes w B A l) (hl : l.length = n) : (convert src dst (.slice A n c)).run P w = .ok (.string (txt l)) w := by
  subst hl
  rcases A with _ | a
  · rcases hb with h | ⟨b, off, hA, _⟩
    · subst h
      exact run_convert_bytes_nil w src e hs he 0 c dst hd
    · cases hA
  · refine run_convert_bytes_back w src dst e a c l hs he hd fun j hj => ?_
    rcases hb with h | ⟨b, off, hA, hB, hcell⟩
    · subst h; simp at hj
    · injection hA with hA
      subst hA
      have hadd : (⟨b, off, none⟩ : Addr).add j = ⟨b, off + j, none⟩ := by unfold Addr.add; split <;> simp_all
      rw [hadd]; exact hcell j hj
end Go.Proofs.Ytjiiabekjiilbaa.Mp
