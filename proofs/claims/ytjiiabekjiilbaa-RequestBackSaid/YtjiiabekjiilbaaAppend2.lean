/- append of bytes, with more told: where the list moved, nothing that was there is touched. -/
import Derived.Test.YtjiiabekjiilbaaAppend
import Derived.Laws.AppendOwn
import Derived.ArgAppend
set_option linter.unusedSimpArgs false
set_option linter.unusedVariables false
namespace Go.Proofs.Ytjiiabekjiilbaa.Mp
open Go Go.RowKit

section
variable {P : Program} {w : World}
/-- append of bytes. -/
theorem run_append_b2 (t ty e : TypeId) (i : TypeInfo) (ht : P.underlying t = some (.slice e)) (hi : P.info? e = some i) (hz : i.zero = some (.int .u8 0)) (hsize : i.size = 1) (hby : i.bytes = 1)
    {lo n c : Nat} {A : Option Addr} {l : List UInt8} (h : OwnB w lo e A n c l) {B m c2 : Nat} {X : Option Addr} {news : List UInt8} (hx : Bytes w B X news) (hm : news.length = m)
    (hb : n + m ≤ 1099511627776) (hlo : lo ≤ w.heap.size) :
    ∃ A' c' w', (Builtin.append_ #[t, t] ty #[.slice A n c, .slice X m c2]).run P w = .ok (.slice A' (n + m) c') w' ∧ OwnB w' lo e A' (n + m) c' (l ++ news) ∧ w.grownBy w' (blk A c) ∧
      ((blk A' c' = blk A c ∧ c' = c ∧ A' = A ∧ n + m ≤ c) ∨ ((∀ g, blk A' c' = some g → w.heap.size ≤ g) ∧ c < n + m ∧ w.grownBy w' none)) := by
  obtain ⟨h1, h2, h3, h4⟩ := h
  by_cases hm0 : m = 0
  · subst hm0
    have hn0 : news = [] := List.eq_nil_of_length_eq_zero hm
    subst hn0
    refine ⟨A, c, w, ?_, by simpa using (show OwnB w lo e A n c l from ⟨h1, h2, h3, h4⟩), World.grownBy.refl w _, .inl ⟨rfl, rfl, rfl, by omega⟩⟩
    cases A <;> cases X <;> simp [Builtin.append_, run_underlying ht, sizeOf, typeInfo, hi, Builtin.lenOf, Builtin.firstCells, h2, storeCells, loadCells, loadCellsFrom]
  · have hne : news ≠ [] := by intro e0; subst e0; simp at hm; omega
    obtain ⟨b, off, rfl, hbB, _⟩ := hx.open_ hm (by omega)
    have hcells := cells_of_bytes hx
    have h63 : n + m ≤ maxLen := by simp only [maxLen]; omega
    by_cases hroom : n + m ≤ c
    · rcases h4 with h4 | ⟨g, cur, z, rfl, hg, hgg, hs, hfz, hc⟩
      · omega
      · have hisome : ∀ j, j < (news.map bv).length → (w.cell? ⟨g, 0 + n * i.size + j, none⟩).isSome = true := by
          intro j hj
          rw [cell_of_row w g _ cur e z hgg]
          simp [hm] at hj
          simp [hsize]
          omega
        have hfrz : ∀ j, j < (news.map bv).length → w.frozen? ⟨g, 0 + n * i.size + j, none⟩ = false := by
          intro j hj
          unfold World.frozen?
          simp [hm] at hj
          have := hfz (n + j) (by omega)
          simp [hgg, hsize]
          omega
        have hr := run_append_room_cells (P := P) w (ty := ty) t e i ht hi g 0 n c ⟨b, off, none⟩ m c2 (news.map bv) (by simp [hm, hsize]) hcells (one_bytes news) hroom hisome hfrz
        obtain ⟨cur', hh', hs'⟩ := heap_setCells g (news.map bv) (0 + n * i.size) w cur e z hgg
        refine ⟨_, c, _, hr, ⟨by simp [h1, hm], hroom, h3, .inr ⟨g, cur', z, rfl, hg, hh', by omega, hfz, fun j hj => ?_⟩⟩, ?_, .inl ⟨rfl, rfl, rfl, hroom⟩⟩
        · have hcell : cur'[j]? = (w.setCells g (0 + n * i.size) (news.map bv)).cell? ⟨g, j, none⟩ := (cell_of_row _ g j cur' e z hh').symm
          rw [hcell]
          by_cases hjn : j < n
          · rw [World.cell?_setCells_out g _ _ w ⟨g, j, none⟩ (fun _ _ => .inl (by simp [hsize]; omega))]
            rw [cell_of_row w g j cur e z hgg, hc j (by omega)]
            simp [List.getElem_append, show j < l.length by omega]
          · have hjm : j - n < (news.map bv).length := by simp at hj ⊢; omega
            have := World.cell?_setCells_in g (news.map bv) (0 + n * i.size) w hisome (j - n) hjm
            rw [show 0 + n * i.size + (j - n) = j by rw [hsize]; omega] at this
            rw [this]
            have h0 : ¬ j < l.length := by omega
            simp [List.getElem_append, hjn, h1]
        · have : blk (some ⟨g, 0, none⟩) c = some g := by unfold blk; rw [if_neg (by omega)]; rfl
          rw [this]; exact grown_setCells w g _ _
    · have hgrow : ∃ v' w', (Builtin.append_ #[t, t] ty #[.slice A n c, .slice (some ⟨b, off, none⟩) m c2]).run P w = .ok v' w' ∧ w'.ownsRow w.heap.size e 1 v' (n + m) (l.map bv ++ news.map bv) ∧ w.grownBy w' none := by
        rcases A with _ | ad
        · rcases h4 with h4 | ⟨g, cur, z, hA, _⟩
          · have hn : n = 0 := by omega
            subst hn; subst h4
            have hl0 : l = [] := List.eq_nil_of_length_eq_zero h1
            subst hl0
            obtain ⟨v', w', hr, ho, hg, _⟩ := run_append_own (P := P) w (ty := ty) w.heap.size t e i (.int .u8 0) 1 1 ht hi hz hsize hby rfl (by decide) (.slice none 0 0) 0 [] (World.ownsRow_nil _ _ _ _) ⟨b, off, none⟩ m c2 (news.map bv) (by simp [hm]) hcells (one_bytes news) h63 (by omega) (Nat.le_refl _)
            exact ⟨v', w', hr, by simpa using ho, hg⟩
          · cases hA
        · refine run_append_arg_grows (P := P) w (ty := ty) t e i (.int .u8 0) 1 1 ht hi hz hsize hby rfl (by decide) ad n c (l.map bv) (by simp [h1]) ?_ ⟨b, off, none⟩ m c2 (news.map bv) (by simp [hm]) hcells (by omega) h63 (by omega)
          have hB := (show OwnB w lo e (some ad) n c l from ⟨h1, h2, h3, h4⟩).bytes
          rcases hB with hB | ⟨b', off', hA, hb', hc'⟩
          · subst hB; intro j u hu; simp at hu
          · injection hA with hA
            subst hA
            exact cells_of_bytes (w := w) (B := w.heap.size) (.inr ⟨b', off', rfl, hb', hc'⟩)
      obtain ⟨v', w', hr, ho, hg⟩ := hgrow
      rw [← List.map_append] at ho
      obtain ⟨g, c', rfl, hO, hc'⟩ := OwnB.of_row ho (by omega)
      exact ⟨_, c', w', hr, hO.mono hlo, ⟨hg.os, hg.tape, hg.output, hg.size, fun k hk _ => hg.block k hk (by simp)⟩, .inr ⟨fun k hk => (hO.blk_lt hk).1, by omega, hg⟩⟩

theorem wp_append_b2 {o : Oper} {a : Act} {K : Act → World → Prop} {Q : Exit → Act → World → Prop} (s x : Operand) (t : TypeId)
    (ho : o.op = .call { callee := .builtin .append, args := #[s, x], argTypes := #[t, t] })
    (e : TypeId) (i : TypeInfo) (ht : P.underlying t = some (.slice e)) (hi : P.info? e = some i) (hz : i.zero = some (.int .u8 0)) (hsize : i.size = 1) (hby : i.bytes = 1)
    {lo n c : Nat} {A : Option Addr} {l : List UInt8} (hs : a.eval s = .slice A n c) (h : OwnB w lo e A n c l) {B m c2 : Nat} {X : Option Addr} {news : List UInt8} (hxe : a.eval x = .slice X m c2) (hx : Bytes w B X news) (hm : news.length = m)
    (hb : n + m ≤ 1099511627776) (hlo : lo ≤ w.heap.size)
    (hk : ∀ A' c' w', OwnB w' lo e A' (n + m) c' (l ++ news) → w.grownBy w' (blk A c) → ((blk A' c' = blk A c ∧ c' = c ∧ A' = A ∧ n + m ≤ c) ∨ ((∀ g, blk A' c' = some g → w.heap.size ≤ g) ∧ c < n + m ∧ w.grownBy w' none)) → K (a.put o.dst (.slice A' (n + m) c')) w') : o.wp P a w K Q := by
  obtain ⟨A', c', w', hr, h2, h3, h4⟩ := run_append_b2 (P := P) t o.type e i ht hi hz hsize hby h (c2 := c2) hx hm hb hlo
  unfold Oper.wp execOp
  simp only [ho, resolve, invoke, builtin, Sem.run_bind, Sem.run_pure, Result.andThen_ok, List.map_toArray, List.map_cons, List.map_nil, hs, hxe, hr]
  exact hk A' c' w' h2 h3 h4

theorem wpList_append_b2 {ops : Array Oper} {rest : List Oper} {o : Oper} {a : Act} {Q : Exit → Act → World → Prop} (hgd : o.guard = none) (s x : Operand) (t : TypeId)
    (ho : o.op = .call { callee := .builtin .append, args := #[s, x], argTypes := #[t, t] })
    (e : TypeId) (i : TypeInfo) (ht : P.underlying t = some (.slice e)) (hi : P.info? e = some i) (hz : i.zero = some (.int .u8 0)) (hsize : i.size = 1) (hby : i.bytes = 1)
    {lo n c : Nat} {A : Option Addr} {l : List UInt8} (hs : a.eval s = .slice A n c) (h : OwnB w lo e A n c l) {B m c2 : Nat} {X : Option Addr} {news : List UInt8} (hxe : a.eval x = .slice X m c2) (hx : Bytes w B X news) (hm : news.length = m)
    (hb : n + m ≤ 1099511627776) (hlo : lo ≤ w.heap.size)
    (hk : ∀ A' c' w', OwnB w' lo e A' (n + m) c' (l ++ news) → w.grownBy w' (blk A c) → ((blk A' c' = blk A c ∧ c' = c ∧ A' = A ∧ n + m ≤ c) ∨ ((∀ g, blk A' c' = some g → w.heap.size ≤ g) ∧ c < n + m ∧ w.grownBy w' none)) → wpList P ops Q rest (a.put o.dst (.slice A' (n + m) c')) w') :
    wpList P ops Q (o :: rest) a w :=
  wpList_plain hgd fun _ hK => wp_append_b2 s x t ho e i ht hi hz hsize hby hs h hxe hx hm hb hlo fun A' c' w' h2 h3 h4 => hK _ _ (hk A' c' w' h2 h3 h4)
end

end Go.Proofs.Ytjiiabekjiilbaa.Mp
