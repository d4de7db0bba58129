/- append of so many noughts to a slice of the call's own ('append(p, make([]byte, k)...)'): the number stands in the place of the slice. -/
import Derived.Test.YtflgelkpblnkcaaAppend2
import Derived.Lib.AppendZerosOnto
set_option linter.unusedSimpArgs false
set_option linter.unusedVariables false
namespace Go.Proofs.Ytflgelkpblnkcaa.Mp
open Go Go.RowKit

theorem noughts (k : Nat) : Builtin.zeroCells (Value.int .u8 0).cells k = ((List.replicate k (0 : UInt8)).map bv).toArray := by
  apply Array.ext
  · simp [Builtin.zeroCells, Value.cells]
  · intro j h1 h2
    simp [Builtin.zeroCells, Value.cells, Nat.mod_one]

section
variable {P : Program} {w : World}
theorem run_append_zeros_b (t tn ty e : TypeId) (i : TypeInfo) (kn : IntKind) (ht : P.underlying t = some (.slice e)) (htn : P.underlying tn = some (.int kn)) (hi : P.info? e = some i) (hz : i.zero = some (.int .u8 0)) (hsize : i.size = 1) (hby : i.bytes = 1)
    {lo n c : Nat} {A : Option Addr} {l : List UInt8} (h : OwnB w lo e A n c l) {k : Nat} (hb : n + k ≤ 1099511627776) (hlo : lo ≤ w.heap.size) :
    ∃ A' c' w', (Builtin.append_ #[t, tn] ty #[.slice A n c, .int .i64 (k : Int)]).run P w = .ok (.slice A' (n + k) c') w' ∧ OwnB w' lo e A' (n + k) c' (l ++ List.replicate k 0) ∧ w.grownBy w' (blk A c) := by
  obtain ⟨h1, h2, h3, h4⟩ := h
  have hw : IntKind.i64.wrap (k : Int) = k := by rw [IntKind.wrap_i64]; omega
  have hneg : ¬ ((k : Int) < 0) := by omega
  have h48i : ¬ (281474976710656 < (k : Int)) := by omega
  by_cases hk0 : k = 0
  · subst hk0
    refine ⟨A, c, w, ?_, by simpa using (show OwnB w lo e A n c l from ⟨h1, h2, h3, h4⟩), World.grownBy.refl w _⟩
    have hw0 : IntKind.i64.wrap 0 = 0 := by simpa using hw
    cases A <;> simp [Builtin.append_, run_underlying ht, run_underlying htn, sizeOf, typeInfo, zeroValue, hi, hz, hsize, hby, asInt, asIntOf, hw0, h2, storeCells]
  · by_cases hroom : n + k ≤ c
    · rcases h4 with h4 | ⟨g, cur, z, rfl, hg, hgg, hs, hfz, hc⟩
      · omega
      · obtain ⟨news, hnews⟩ : ∃ news, news = (List.replicate k (0 : UInt8)).map bv := ⟨_, rfl⟩
        have hnl : news.length = k := by rw [hnews]; simp
        have hone : ∀ u ∈ news, u.oneCell' = true := by rw [hnews]; exact one_bytes _
        have hisome : ∀ j, j < news.length → (w.cell? ⟨g, 0 + n * i.size + j, none⟩).isSome = true := by
          intro j hj
          rw [cell_of_row w g _ cur e z hgg]
          simp [hsize]
          omega
        have hfrz : ∀ j, j < news.length → w.frozen? ⟨g, 0 + n * i.size + j, none⟩ = false := by
          intro j hj
          unfold World.frozen?
          have := hfz (n + j) (by omega)
          simp [hgg, hsize]
          omega
        have hst := run_storeCells_cells (P := P) g (0 + n * i.size) news 0 w (by simpa using hisome) (by simpa using hfrz) hone
        simp only [Nat.add_zero] at hst
        have hzc : Builtin.zeroCells (Value.int .u8 0).cells k = news.toArray := by rw [hnews]; exact noughts k
        have hr : (Builtin.append_ #[t, tn] ty #[.slice (some ⟨g, 0, none⟩) n c, .int .i64 (k : Int)]).run P w = .ok (.slice (some ⟨g, 0, none⟩) (n + k) c) (w.setCells g (0 + n * i.size) news) := by
          rw [hsize] at hst ⊢
          simp [Builtin.append_, run_underlying ht, run_underlying htn, sizeOf, typeInfo, zeroValue, hi, hz, hsize, hby, asInt, asIntOf, hw, hneg, h48i, hk0, hroom, hzc, Addr.add_lit]
          have hst' : (storeCells { block := g, off := n } news).run P w = .ok () (w.setCells g n news) := by simpa using hst
          rw [hst']
          rfl
        obtain ⟨cur', hh', hs'⟩ := heap_setCells g news (0 + n * i.size) w cur e z hgg
        refine ⟨_, c, _, hr, ⟨by simp [h1], hroom, h3, .inr ⟨g, cur', z, rfl, hg, hh', by omega, hfz, fun j hj => ?_⟩⟩, ?_⟩
        · have hcell : cur'[j]? = (w.setCells g (0 + n * i.size) news).cell? ⟨g, j, none⟩ := (cell_of_row _ g j cur' e z hh').symm
          rw [hcell]
          by_cases hjn : j < n
          · rw [World.cell?_setCells_out g _ _ w ⟨g, j, none⟩ (fun _ _ => .inl (by simp [hsize]; omega))]
            rw [cell_of_row w g j cur e z hgg, hc j (by omega)]
            simp [List.getElem_append, show j < l.length by omega]
          · have hjm : j - n < news.length := by simp at hj; omega
            have := World.cell?_setCells_in g news (0 + n * i.size) w hisome (j - n) hjm
            rw [show 0 + n * i.size + (j - n) = j by rw [hsize]; omega] at this
            rw [this]
            have h0 : ¬ j < l.length := by omega
            simp [List.getElem_append, hjn, h1, hnews]
        · have : blk (some ⟨g, 0, none⟩) c = some g := by unfold blk; rw [if_neg (by omega)]; rfl
          rw [this]; exact grown_setCells w g _ _
    · have hhold : (Builtin.firstCells i.size n (.slice A n c)).run P w.drew = .ok (l.map bv).toArray w.drew := by
        rcases A with _ | ad
        · rcases h4 with h4 | ⟨g, cur, z, hA, _⟩
          · have hn : n = 0 := by omega
            subst hn
            have hl0 : l = [] := List.eq_nil_of_length_eq_zero h1
            subst hl0
            simp [Builtin.firstCells]
          · cases hA
        · refine run_firstCells_some (P := P) w.drew i.size n ad n c (l.map bv) (by simp [h1, hsize]) ?_
          have hB := (show OwnB w lo e (some ad) n c l from ⟨h1, h2, h3, h4⟩).bytes
          rcases hB with hB | ⟨b', off', hA, hb', hc'⟩
          · subst hB; intro j u hu; simp at hu
          · injection hA with hA
            subst hA
            exact cells_of_bytes (w := w) (B := w.heap.size) (.inr ⟨b', off', rfl, hb', hc'⟩)
      have hfit : Builtin.nextslicecap (n + k) c * i.bytes ≤ 281474976710656 := growslice_fits (by omega) (by rw [hby]; omega)
      have hr := Lib.run_append_grow_zeros (P := P) w t tn ty e i (.int .u8 0) .i64 kn ht htn hi hz A n c (l.map bv) hhold k (by omega) (by omega) (by omega) (by omega) (by rw [hby]; omega) hfit
      have hge := grownCap_ge w (n + k) c e
      have hcm : grownCap w (n + k) c e ≤ maxLen := grownCap_le_maxLen w (n + k) c e (by simp only [maxLen]; omega)
      refine ⟨_, _, _, hr, ⟨by simp [h1], hge, hcm, .inr ⟨w.heap.size, _, _, rfl, hlo, heap_alloc_new w.drew _, ?_, fun j hj => by simp, fun j hj => ?_⟩⟩, ⟨rfl, rfl, rfl, by simp, fun q hq _ => heap_alloc_old w.drew _ hq⟩⟩
      · simp only [noughts, Array.size_append, List.size_toArray, List.length_map, List.length_replicate, h1]
        omega
      · have hj2 : j < n + k := by simp [h1] at hj; exact hj
        rw [noughts, noughts, List.append_toArray, List.append_toArray, ← List.map_append, ← List.map_append]
        simp only [List.getElem?_toArray, List.getElem?_map]
        rw [List.getElem?_append_left (by simp [h1]; omega), List.getElem?_eq_getElem hj]
        rfl

theorem wpList_append_zeros_b {ops : Array Oper} {rest : List Oper} {o : Oper} {a : Act} {Q : Exit → Act → World → Prop} (hgd : o.guard = none) (s x : Operand) (t tn : TypeId)
    (ho : o.op = .call { callee := .builtin .append, args := #[s, x], argTypes := #[t, tn] })
    (e : TypeId) (i : TypeInfo) (kn : IntKind) (ht : P.underlying t = some (.slice e)) (htn : P.underlying tn = some (.int kn)) (hi : P.info? e = some i) (hz : i.zero = some (.int .u8 0)) (hsize : i.size = 1) (hby : i.bytes = 1)
    {lo n c : Nat} {A : Option Addr} {l : List UInt8} (hs : a.eval s = .slice A n c) (h : OwnB w lo e A n c l) {k m : Nat} (hxe : a.eval x = .int .i64 (k : Int))
    (hm : n + k = m) (hb : m ≤ 1099511627776) (hlo : lo ≤ w.heap.size)
    (hk : ∀ A' c' w', OwnB w' lo e A' m c' (l ++ List.replicate k 0) → w.grownBy w' (blk A c) → wpList P ops Q rest (a.put o.dst (.slice A' m c')) w') :
    wpList P ops Q (o :: rest) a w :=
  wpList_plain hgd fun _ hK => by
    subst hm
    obtain ⟨A', c', w', hr, h2, h3⟩ := run_append_zeros_b (P := P) t tn o.type e i kn ht htn hi hz hsize hby h (k := k) hb hlo
    unfold Oper.wp execOp
    simp only [ho, resolve, invoke, builtin, Sem.run_bind, Sem.run_pure, Result.andThen_ok, List.map_toArray, List.map_cons, List.map_nil, hs, hxe, hr]
    exact hK _ _ (hk A' c' w' h2 h3)
end
end Go.Proofs.Ytflgelkpblnkcaa.Mp
