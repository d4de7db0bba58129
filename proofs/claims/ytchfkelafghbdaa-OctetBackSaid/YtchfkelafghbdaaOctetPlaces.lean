/- OctetPlaces: in an edge's bytes, a vertex's and a label's each number stands at its own place. -/
import Derived.Test.YtchfkelafghbdaaOctWorks
set_option linter.unusedSimpArgs false
set_option linter.unusedVariables false
namespace Go.Proofs.Ytchfkelafghbdaa
open Go.RowKit Mp

theorem num_mid (a b c : List UInt8) (n m : Nat) (ha : a.length = n) (hb : b.length = m) : num (a ++ b ++ c) n m = bval b := by
  subst ha hb
  unfold num
  rw [List.append_assoc, List.drop_left, List.take_left]
theorem num_le_mid (a c : List UInt8) (n m x : Nat) (ha : a.length = n) (hx : x < 2 ^ (8 * m)) : num (a ++ le m x ++ c) n m = x := by
  rw [num_mid _ _ _ n m ha (le_length _ _), bval_le_lt hx]

theorem place_edge0 (t hd wt m : Nat) (h : t ≤ 4294967295) : num (edgeL t hd wt m) 0 4 = t := by
  rw [show edgeL t hd wt m = ([]) ++ le 4 t ++ (le 4 hd ++ le 8 wt ++ le 4 m) by simp [edgeL, List.append_assoc]]
  exact num_le_mid _ _ _ _ _ (by simp [le_length]) (by simp only [Nat.reduceMul, Nat.reducePow]; omega)
theorem place_edge1 (t hd wt m : Nat) (h : hd ≤ 4294967295) : num (edgeL t hd wt m) 4 4 = hd := by
  rw [show edgeL t hd wt m = (le 4 t) ++ le 4 hd ++ (le 8 wt ++ le 4 m) by simp [edgeL, List.append_assoc]]
  exact num_le_mid _ _ _ _ _ (by simp [le_length]) (by simp only [Nat.reduceMul, Nat.reducePow]; omega)
theorem place_edge2 (t hd wt m : Nat) (h : wt ≤ 18446744073709551615) : num (edgeL t hd wt m) 8 8 = wt := by
  rw [show edgeL t hd wt m = (le 4 t ++ le 4 hd) ++ le 8 wt ++ (le 4 m) by simp [edgeL, List.append_assoc]]
  exact num_le_mid _ _ _ _ _ (by simp [le_length]) (by simp only [Nat.reduceMul, Nat.reducePow]; omega)
theorem place_edge3 (t hd wt m : Nat) (h : m ≤ 4294967295) : num (edgeL t hd wt m) 16 4 = m := by
  rw [show edgeL t hd wt m = (le 4 t ++ le 4 hd ++ le 8 wt) ++ le 4 m ++ ([]) by simp [edgeL, List.append_assoc]]
  exact num_le_mid _ _ _ _ _ (by simp [le_length]) (by simp only [Nat.reduceMul, Nat.reducePow]; omega)
theorem place_vert0 (r lv gn : Nat) (h : r ≤ 4294967295) : num (vertL r lv gn) 0 4 = r := by
  rw [show vertL r lv gn = ([]) ++ le 4 r ++ (le 4 lv ++ le 4 gn) by simp [vertL, List.append_assoc]]
  exact num_le_mid _ _ _ _ _ (by simp [le_length]) (by simp only [Nat.reduceMul, Nat.reducePow]; omega)
theorem place_vert1 (r lv gn : Nat) (h : lv ≤ 4294967295) : num (vertL r lv gn) 4 4 = lv := by
  rw [show vertL r lv gn = (le 4 r) ++ le 4 lv ++ (le 4 gn) by simp [vertL, List.append_assoc]]
  exact num_le_mid _ _ _ _ _ (by simp [le_length]) (by simp only [Nat.reduceMul, Nat.reducePow]; omega)
theorem place_vert2 (r lv gn : Nat) (h : gn ≤ 4294967295) : num (vertL r lv gn) 8 4 = gn := by
  rw [show vertL r lv gn = (le 4 r ++ le 4 lv) ++ le 4 gn ++ ([]) by simp [vertL, List.append_assoc]]
  exact num_le_mid _ _ _ _ _ (by simp [le_length]) (by simp only [Nat.reduceMul, Nat.reducePow]; omega)
theorem place_label0 (v hb nx ds : Nat) (h : v ≤ 4294967295) : num (labelL v hb nx ds) 0 4 = v := by
  rw [show labelL v hb nx ds = ([]) ++ le 4 v ++ (le 4 hb ++ le 4 nx ++ le 8 ds) by simp [labelL, List.append_assoc]]
  exact num_le_mid _ _ _ _ _ (by simp [le_length]) (by simp only [Nat.reduceMul, Nat.reducePow]; omega)
theorem place_label1 (v hb nx ds : Nat) (h : hb ≤ 4294967295) : num (labelL v hb nx ds) 4 4 = hb := by
  rw [show labelL v hb nx ds = (le 4 v) ++ le 4 hb ++ (le 4 nx ++ le 8 ds) by simp [labelL, List.append_assoc]]
  exact num_le_mid _ _ _ _ _ (by simp [le_length]) (by simp only [Nat.reduceMul, Nat.reducePow]; omega)
theorem place_label2 (v hb nx ds : Nat) (h : nx ≤ 4294967295) : num (labelL v hb nx ds) 8 4 = nx := by
  rw [show labelL v hb nx ds = (le 4 v ++ le 4 hb) ++ le 4 nx ++ (le 8 ds) by simp [labelL, List.append_assoc]]
  exact num_le_mid _ _ _ _ _ (by simp [le_length]) (by simp only [Nat.reduceMul, Nat.reducePow]; omega)
theorem place_label3 (v hb nx ds : Nat) (h : ds ≤ 18446744073709551615) : num (labelL v hb nx ds) 12 8 = ds := by
  rw [show labelL v hb nx ds = (le 4 v ++ le 4 hb ++ le 4 nx) ++ le 8 ds ++ ([]) by simp [labelL, List.append_assoc]]
  exact num_le_mid _ _ _ _ _ (by simp [le_length]) (by simp only [Nat.reduceMul, Nat.reducePow]; omega)

set_option maxRecDepth 100000 in
set_option maxHeartbeats 4000000 in
theorem law_places (t hd wt m r lv gn hb nx ds v : Nat) (w : World) (ht : t ≤ 4294967295) (hhd : hd ≤ 4294967295) (hwt : wt ≤ 18446744073709551615) (hm : m ≤ 4294967295) (hr : r ≤ 4294967295) (hlv : lv ≤ 4294967295) (hgn : gn ≤ 4294967295) (hhb : hb ≤ 4294967295) (hnx : nx ≤ 4294967295) (hds : ds ≤ 18446744073709551615) (hv : v ≤ 4294967295) :
    Calls Try.prog 7 #[.agg #[.int .u32 t, .int .u32 hd, .int .u64 wt, .int .u32 m, .int .u32 r, .int .u32 lv, .int .u32 gn, .int .u32 hb, .int .u32 nx, .int .u64 ds, .int .u32 v]] w fun e w' => e = .returned (.bool true) ∧ Below w.heap.size w w' := by
  have Z0 : Hid (Below w.heap.size w (w.alloc (.cells #[.int .u32 t, .int .u32 hd, .int .u64 wt, .int .u32 m, .int .u32 r, .int .u32 lv, .int .u32 gn, .int .u32 hb, .int .u32 nx, .int .u64 ds, .int .u32 v] 46))) := by
    have h : Below w.heap.size w (w.alloc (.cells #[.int .u32 t, .int .u32 hd, .int .u64 wt, .int .u32 m, .int .u32 r, .int .u32 lv, .int .u32 gn, .int .u32 hb, .int .u32 nx, .int .u64 ds, .int .u32 v] 46)) := (Below.refl _ _).alloc (Nat.le_refl _) _
    exact h
  have K0 : Hid (Blk (w.alloc (.cells #[.int .u32 t, .int .u32 hd, .int .u64 wt, .int .u32 m, .int .u32 r, .int .u32 lv, .int .u32 gn, .int .u32 hb, .int .u32 nx, .int .u64 ds, .int .u32 v] 46)) w.heap.size 46 #[.int .u32 t, .int .u32 hd, .int .u64 wt, .int .u32 m, .int .u32 r, .int .u32 lv, .int .u32 gn, .int .u32 hb, .int .u32 nx, .int .u64 ds, .int .u32 v]) := Lib.hid (Blk.new _ _ _)
  go_enter Try.func7, Try.ntmps7
  have q0_0 : (w.alloc (.cells #[.int .u32 t, .int .u32 hd, .int .u64 wt, .int .u32 m, .int .u32 r, .int .u32 lv, .int .u32 gn, .int .u32 hb, .int .u32 nx, .int .u64 ds, .int .u32 v] 46)).cell? ⟨w.heap.size, 0, none⟩ = some (.int .u32 t) := (K0.out.cell 0).trans rfl
  have q0_1 : (w.alloc (.cells #[.int .u32 t, .int .u32 hd, .int .u64 wt, .int .u32 m, .int .u32 r, .int .u32 lv, .int .u32 gn, .int .u32 hb, .int .u32 nx, .int .u64 ds, .int .u32 v] 46)).cell? ⟨w.heap.size, 1, none⟩ = some (.int .u32 hd) := (K0.out.cell 1).trans rfl
  have q0_2 : (w.alloc (.cells #[.int .u32 t, .int .u32 hd, .int .u64 wt, .int .u32 m, .int .u32 r, .int .u32 lv, .int .u32 gn, .int .u32 hb, .int .u32 nx, .int .u64 ds, .int .u32 v] 46)).cell? ⟨w.heap.size, 2, none⟩ = some (.int .u64 wt) := (K0.out.cell 2).trans rfl
  have q0_3 : (w.alloc (.cells #[.int .u32 t, .int .u32 hd, .int .u64 wt, .int .u32 m, .int .u32 r, .int .u32 lv, .int .u32 gn, .int .u32 hb, .int .u32 nx, .int .u64 ds, .int .u32 v] 46)).cell? ⟨w.heap.size, 3, none⟩ = some (.int .u32 m) := (K0.out.cell 3).trans rfl
  go_wp2_with fail
  refine (edge_any t hd wt m _ ht hhd hwt hm).mono ?_
  rintro e w1 ⟨A1, c1, rfl, hO, hbl⟩
  have O1_1 : Hid (OwnB w1 w.heap.size 5 A1 20 c1 (edgeL t hd wt m)) := by
    have h := hO.mono Z0.out.size
    exact h
  have K1 : Hid (Blk w1 w.heap.size 46 #[.int .u32 t, .int .u32 hd, .int .u64 wt, .int .u32 m, .int .u32 r, .int .u32 lv, .int .u32 gn, .int .u32 hb, .int .u32 nx, .int .u64 ds, .int .u32 v]) := by
    have h := K0.out.below hbl K0.out.lt
    exact h
  have Z1 : Hid (Below w.heap.size w w1) := by
    have h := Z0.out.trans (hbl.mono Z0.out.size)
    exact h
  clear hO hbl
  have q1_4 : w1.cell? ⟨w.heap.size, 4, none⟩ = some (.int .u32 r) := (K1.out.cell 4).trans rfl
  have q1_5 : w1.cell? ⟨w.heap.size, 5, none⟩ = some (.int .u32 lv) := (K1.out.cell 5).trans rfl
  have q1_6 : w1.cell? ⟨w.heap.size, 6, none⟩ = some (.int .u32 gn) := (K1.out.cell 6).trans rfl
  go_wp2_with fail
  refine (vert_any r lv gn _ hr hlv hgn).mono ?_
  rintro e w2 ⟨A2, c2, rfl, hO, hbl⟩
  have O2_2 : Hid (OwnB w2 w.heap.size 5 A2 12 c2 (vertL r lv gn)) := by
    have h := hO.mono Z1.out.size
    exact h
  have O1_2 : Hid (OwnB w2 w.heap.size 5 A1 20 c1 (edgeL t hd wt m)) := by
    have h := O1_1.out.below hbl
    exact h
  have K2 : Hid (Blk w2 w.heap.size 46 #[.int .u32 t, .int .u32 hd, .int .u64 wt, .int .u32 m, .int .u32 r, .int .u32 lv, .int .u32 gn, .int .u32 hb, .int .u32 nx, .int .u64 ds, .int .u32 v]) := by
    have h := K1.out.below hbl K1.out.lt
    exact h
  have Z2 : Hid (Below w.heap.size w w2) := by
    have h := Z1.out.trans (hbl.mono Z1.out.size)
    exact h
  clear hO hbl
  have q2_7 : w2.cell? ⟨w.heap.size, 7, none⟩ = some (.int .u32 hb) := (K2.out.cell 7).trans rfl
  have q2_8 : w2.cell? ⟨w.heap.size, 8, none⟩ = some (.int .u32 nx) := (K2.out.cell 8).trans rfl
  have q2_9 : w2.cell? ⟨w.heap.size, 9, none⟩ = some (.int .u64 ds) := (K2.out.cell 9).trans rfl
  have q2_10 : w2.cell? ⟨w.heap.size, 10, none⟩ = some (.int .u32 v) := (K2.out.cell 10).trans rfl
  go_wp2_with fail
  refine (label_any v hb nx ds _ hv hhb hnx hds).mono ?_
  rintro e w3 ⟨A3, c3, rfl, hO, hbl⟩
  have O3_3 : Hid (OwnB w3 w.heap.size 5 A3 20 c3 (labelL v hb nx ds)) := by
    have h := hO.mono Z2.out.size
    exact h
  have O1_3 : Hid (OwnB w3 w.heap.size 5 A1 20 c1 (edgeL t hd wt m)) := by
    have h := O1_2.out.below hbl
    exact h
  have O2_3 : Hid (OwnB w3 w.heap.size 5 A2 12 c2 (vertL r lv gn)) := by
    have h := O2_2.out.below hbl
    exact h
  have K3 : Hid (Blk w3 w.heap.size 46 #[.int .u32 t, .int .u32 hd, .int .u64 wt, .int .u32 m, .int .u32 r, .int .u32 lv, .int .u32 gn, .int .u32 hb, .int .u32 nx, .int .u64 ds, .int .u32 v]) := by
    have h := K2.out.below hbl K2.out.lt
    exact h
  have Z3 : Hid (Below w.heap.size w w3) := by
    have h := Z2.out.trans (hbl.mono Z2.out.size)
    exact h
  clear hO hbl
  have q3_0 : w3.cell? ⟨w.heap.size, 0, none⟩ = some (.int .u32 t) := (K3.out.cell 0).trans rfl
  have q3_1 : w3.cell? ⟨w.heap.size, 1, none⟩ = some (.int .u32 hd) := (K3.out.cell 1).trans rfl
  have q3_2 : w3.cell? ⟨w.heap.size, 2, none⟩ = some (.int .u64 wt) := (K3.out.cell 2).trans rfl
  have q3_3 : w3.cell? ⟨w.heap.size, 3, none⟩ = some (.int .u32 m) := (K3.out.cell 3).trans rfl
  have q3_4 : w3.cell? ⟨w.heap.size, 4, none⟩ = some (.int .u32 r) := (K3.out.cell 4).trans rfl
  have q3_5 : w3.cell? ⟨w.heap.size, 5, none⟩ = some (.int .u32 lv) := (K3.out.cell 5).trans rfl
  have q3_6 : w3.cell? ⟨w.heap.size, 6, none⟩ = some (.int .u32 gn) := (K3.out.cell 6).trans rfl
  have q3_7 : w3.cell? ⟨w.heap.size, 7, none⟩ = some (.int .u32 hb) := (K3.out.cell 7).trans rfl
  have q3_8 : w3.cell? ⟨w.heap.size, 8, none⟩ = some (.int .u32 nx) := (K3.out.cell 8).trans rfl
  have q3_9 : w3.cell? ⟨w.heap.size, 9, none⟩ = some (.int .u64 ds) := (K3.out.cell 9).trans rfl
  have q3_10 : w3.cell? ⟨w.heap.size, 10, none⟩ = some (.int .u32 v) := (K3.out.cell 10).trans rfl
  have Zt : Hid (∀ wr, Below (w3.heap.size + 2) ((w3.alloc (.cells #[.int .u64 t, .int .u64 hd, .int .u64 wt, .int .u64 m, .int .u64 r, .int .u64 lv, .int .u64 gn, .int .u64 v, .int .u64 hb, .int .u64 nx, .int .u64 ds] 25)).alloc (.cells #[.int .i64 0, .int .i64 4, .int .i64 8, .int .i64 16, .int .i64 0, .int .i64 4, .int .i64 8, .int .i64 0, .int .i64 4, .int .i64 8, .int .i64 12] 3)) wr → Below w.heap.size w wr) := by
    have h : ∀ wr, Below (w3.heap.size + 2) ((w3.alloc (.cells #[.int .u64 t, .int .u64 hd, .int .u64 wt, .int .u64 m, .int .u64 r, .int .u64 lv, .int .u64 gn, .int .u64 v, .int .u64 hb, .int .u64 nx, .int .u64 ds] 25)).alloc (.cells #[.int .i64 0, .int .i64 4, .int .i64 8, .int .i64 16, .int .i64 0, .int .i64 4, .int .i64 8, .int .i64 0, .int .i64 4, .int .i64 8, .int .i64 12] 3)) wr → Below w.heap.size w wr := fun wr h => ((Z3.out.alloc Z3.out.size _).alloc (Nat.le_trans Z3.out.size (by simp)) _).trans (h.mono (Nat.le_trans Z3.out.size (by omega)))
    exact h
  have Y1 : Hid (∀ wr, Below (w3.heap.size + 2) ((w3.alloc (.cells #[.int .u64 t, .int .u64 hd, .int .u64 wt, .int .u64 m, .int .u64 r, .int .u64 lv, .int .u64 gn, .int .u64 v, .int .u64 hb, .int .u64 nx, .int .u64 ds] 25)).alloc (.cells #[.int .i64 0, .int .i64 4, .int .i64 8, .int .i64 16, .int .i64 0, .int .i64 4, .int .i64 8, .int .i64 0, .int .i64 4, .int .i64 8, .int .i64 12] 3)) wr → Bytes wr wr.heap.size A1 (edgeL t hd wt m)) := by
    have h : ∀ wr, Below (w3.heap.size + 2) ((w3.alloc (.cells #[.int .u64 t, .int .u64 hd, .int .u64 wt, .int .u64 m, .int .u64 r, .int .u64 lv, .int .u64 gn, .int .u64 v, .int .u64 hb, .int .u64 nx, .int .u64 ds] 25)).alloc (.cells #[.int .i64 0, .int .i64 4, .int .i64 8, .int .i64 16, .int .i64 0, .int .i64 4, .int .i64 8, .int .i64 0, .int .i64 4, .int .i64 8, .int .i64 12] 3)) wr → Bytes wr wr.heap.size A1 (edgeL t hd wt m) := fun wr h => by
      have h0 := ((O1_3.out.alloc (.cells #[.int .u64 t, .int .u64 hd, .int .u64 wt, .int .u64 m, .int .u64 r, .int .u64 lv, .int .u64 gn, .int .u64 v, .int .u64 hb, .int .u64 nx, .int .u64 ds] 25)).alloc (.cells #[.int .i64 0, .int .i64 4, .int .i64 8, .int .i64 16, .int .i64 0, .int .i64 4, .int .i64 8, .int .i64 0, .int .i64 4, .int .i64 8, .int .i64 12] 3)).bytes
      exact (h0.below (h.mono (by simp))).more (by have := h.size; simpa using this)
    exact h
  have Y2 : Hid (∀ wr, Below (w3.heap.size + 2) ((w3.alloc (.cells #[.int .u64 t, .int .u64 hd, .int .u64 wt, .int .u64 m, .int .u64 r, .int .u64 lv, .int .u64 gn, .int .u64 v, .int .u64 hb, .int .u64 nx, .int .u64 ds] 25)).alloc (.cells #[.int .i64 0, .int .i64 4, .int .i64 8, .int .i64 16, .int .i64 0, .int .i64 4, .int .i64 8, .int .i64 0, .int .i64 4, .int .i64 8, .int .i64 12] 3)) wr → Bytes wr wr.heap.size A2 (vertL r lv gn)) := by
    have h : ∀ wr, Below (w3.heap.size + 2) ((w3.alloc (.cells #[.int .u64 t, .int .u64 hd, .int .u64 wt, .int .u64 m, .int .u64 r, .int .u64 lv, .int .u64 gn, .int .u64 v, .int .u64 hb, .int .u64 nx, .int .u64 ds] 25)).alloc (.cells #[.int .i64 0, .int .i64 4, .int .i64 8, .int .i64 16, .int .i64 0, .int .i64 4, .int .i64 8, .int .i64 0, .int .i64 4, .int .i64 8, .int .i64 12] 3)) wr → Bytes wr wr.heap.size A2 (vertL r lv gn) := fun wr h => by
      have h0 := ((O2_3.out.alloc (.cells #[.int .u64 t, .int .u64 hd, .int .u64 wt, .int .u64 m, .int .u64 r, .int .u64 lv, .int .u64 gn, .int .u64 v, .int .u64 hb, .int .u64 nx, .int .u64 ds] 25)).alloc (.cells #[.int .i64 0, .int .i64 4, .int .i64 8, .int .i64 16, .int .i64 0, .int .i64 4, .int .i64 8, .int .i64 0, .int .i64 4, .int .i64 8, .int .i64 12] 3)).bytes
      exact (h0.below (h.mono (by simp))).more (by have := h.size; simpa using this)
    exact h
  have Y3 : Hid (∀ wr, Below (w3.heap.size + 2) ((w3.alloc (.cells #[.int .u64 t, .int .u64 hd, .int .u64 wt, .int .u64 m, .int .u64 r, .int .u64 lv, .int .u64 gn, .int .u64 v, .int .u64 hb, .int .u64 nx, .int .u64 ds] 25)).alloc (.cells #[.int .i64 0, .int .i64 4, .int .i64 8, .int .i64 16, .int .i64 0, .int .i64 4, .int .i64 8, .int .i64 0, .int .i64 4, .int .i64 8, .int .i64 12] 3)) wr → Bytes wr wr.heap.size A3 (labelL v hb nx ds)) := by
    have h : ∀ wr, Below (w3.heap.size + 2) ((w3.alloc (.cells #[.int .u64 t, .int .u64 hd, .int .u64 wt, .int .u64 m, .int .u64 r, .int .u64 lv, .int .u64 gn, .int .u64 v, .int .u64 hb, .int .u64 nx, .int .u64 ds] 25)).alloc (.cells #[.int .i64 0, .int .i64 4, .int .i64 8, .int .i64 16, .int .i64 0, .int .i64 4, .int .i64 8, .int .i64 0, .int .i64 4, .int .i64 8, .int .i64 12] 3)) wr → Bytes wr wr.heap.size A3 (labelL v hb nx ds) := fun wr h => by
      have h0 := ((O3_3.out.alloc (.cells #[.int .u64 t, .int .u64 hd, .int .u64 wt, .int .u64 m, .int .u64 r, .int .u64 lv, .int .u64 gn, .int .u64 v, .int .u64 hb, .int .u64 nx, .int .u64 ds] 25)).alloc (.cells #[.int .i64 0, .int .i64 4, .int .i64 8, .int .i64 16, .int .i64 0, .int .i64 4, .int .i64 8, .int .i64 0, .int .i64 4, .int .i64 8, .int .i64 12] 3)).bytes
      exact (h0.below (h.mono (by simp))).more (by have := h.size; simpa using this)
    exact h
  have Kw : Hid (∀ wr, Below (w3.heap.size + 2) ((w3.alloc (.cells #[.int .u64 t, .int .u64 hd, .int .u64 wt, .int .u64 m, .int .u64 r, .int .u64 lv, .int .u64 gn, .int .u64 v, .int .u64 hb, .int .u64 nx, .int .u64 ds] 25)).alloc (.cells #[.int .i64 0, .int .i64 4, .int .i64 8, .int .i64 16, .int .i64 0, .int .i64 4, .int .i64 8, .int .i64 0, .int .i64 4, .int .i64 8, .int .i64 12] 3)) wr → Blk wr w3.heap.size 25 #[.int .u64 t, .int .u64 hd, .int .u64 wt, .int .u64 m, .int .u64 r, .int .u64 lv, .int .u64 gn, .int .u64 v, .int .u64 hb, .int .u64 nx, .int .u64 ds]) := by
    have h : ∀ wr, Below (w3.heap.size + 2) ((w3.alloc (.cells #[.int .u64 t, .int .u64 hd, .int .u64 wt, .int .u64 m, .int .u64 r, .int .u64 lv, .int .u64 gn, .int .u64 v, .int .u64 hb, .int .u64 nx, .int .u64 ds] 25)).alloc (.cells #[.int .i64 0, .int .i64 4, .int .i64 8, .int .i64 16, .int .i64 0, .int .i64 4, .int .i64 8, .int .i64 0, .int .i64 4, .int .i64 8, .int .i64 12] 3)) wr → Blk wr w3.heap.size 25 #[.int .u64 t, .int .u64 hd, .int .u64 wt, .int .u64 m, .int .u64 r, .int .u64 lv, .int .u64 gn, .int .u64 v, .int .u64 hb, .int .u64 nx, .int .u64 ds] := fun wr h => ((Blk.new w3 _ _).alloc _).below h (by omega)
    exact h
  have Ka : Hid (∀ wr, Below (w3.heap.size + 2) ((w3.alloc (.cells #[.int .u64 t, .int .u64 hd, .int .u64 wt, .int .u64 m, .int .u64 r, .int .u64 lv, .int .u64 gn, .int .u64 v, .int .u64 hb, .int .u64 nx, .int .u64 ds] 25)).alloc (.cells #[.int .i64 0, .int .i64 4, .int .i64 8, .int .i64 16, .int .i64 0, .int .i64 4, .int .i64 8, .int .i64 0, .int .i64 4, .int .i64 8, .int .i64 12] 3)) wr → Blk wr (w3.heap.size + 1) 3 #[.int .i64 0, .int .i64 4, .int .i64 8, .int .i64 16, .int .i64 0, .int .i64 4, .int .i64 8, .int .i64 0, .int .i64 4, .int .i64 8, .int .i64 12]) := by
    have h : ∀ wr, Below (w3.heap.size + 2) ((w3.alloc (.cells #[.int .u64 t, .int .u64 hd, .int .u64 wt, .int .u64 m, .int .u64 r, .int .u64 lv, .int .u64 gn, .int .u64 v, .int .u64 hb, .int .u64 nx, .int .u64 ds] 25)).alloc (.cells #[.int .i64 0, .int .i64 4, .int .i64 8, .int .i64 16, .int .i64 0, .int .i64 4, .int .i64 8, .int .i64 0, .int .i64 4, .int .i64 8, .int .i64 12] 3)) wr → Blk wr (w3.heap.size + 1) 3 #[.int .i64 0, .int .i64 4, .int .i64 8, .int .i64 16, .int .i64 0, .int .i64 4, .int .i64 8, .int .i64 0, .int .i64 4, .int .i64 8, .int .i64 12] := fun wr h => by
      have h1 := (Blk.new (w3.alloc (.cells #[.int .u64 t, .int .u64 hd, .int .u64 wt, .int .u64 m, .int .u64 r, .int .u64 lv, .int .u64 gn, .int .u64 v, .int .u64 hb, .int .u64 nx, .int .u64 ds] 25)) 3 #[.int .i64 0, .int .i64 4, .int .i64 8, .int .i64 16, .int .i64 0, .int .i64 4, .int .i64 8, .int .i64 0, .int .i64 4, .int .i64 8, .int .i64 12])
      rw [show (w3.alloc (.cells #[.int .u64 t, .int .u64 hd, .int .u64 wt, .int .u64 m, .int .u64 r, .int .u64 lv, .int .u64 gn, .int .u64 v, .int .u64 hb, .int .u64 nx, .int .u64 ds] 25)).heap.size = w3.heap.size + 1 by simp] at h1
      exact h1.below h (by omega)
    exact h
  have hn1 := Lib.hid O1_3.out.1
  have hn2 := Lib.hid O2_3.out.1
  have hn3 := Lib.hid O3_3.out.1
  have hc1 : 20 ≤ c1 := O1_3.out.2.1
  have hc2 : 12 ≤ c2 := O2_3.out.2.1
  have hc3 : 20 ≤ c3 := O3_3.out.2.1
  go_wp2_with fail
  clear q0_0 q0_1 q0_2 q0_3 q1_4 q1_5 q1_6 q2_7 q2_8 q2_9 q2_10 q3_0 q3_1 q3_2 q3_3 q3_4 q3_5 q3_6 q3_7 q3_8 q3_9 q3_10
  go_loopw [8] (fun i wr => (i = .int .i64 0 ∨ i = .int .i64 1 ∨ i = .int .i64 2 ∨ i = .int .i64 3 ∨ i = .int .i64 4 ∨ i = .int .i64 5 ∨ i = .int .i64 6 ∨ i = .int .i64 7 ∨ i = .int .i64 8 ∨ i = .int .i64 9 ∨ i = .int .i64 10 ∨ i = .int .i64 11) ∧ Below (w3.heap.size + 2) ((w3.alloc (.cells #[.int .u64 t, .int .u64 hd, .int .u64 wt, .int .u64 m, .int .u64 r, .int .u64 lv, .int .u64 gn, .int .u64 v, .int .u64 hb, .int .u64 nx, .int .u64 ds] 25)).alloc (.cells #[.int .i64 0, .int .i64 4, .int .i64 8, .int .i64 16, .int .i64 0, .int .i64 4, .int .i64 8, .int .i64 0, .int .i64 4, .int .i64 8, .int .i64 12] 3)) wr) (fun i _ => 11 - (intOf i).toNat)
  case atStart => exact ⟨by simp, Below.refl _ _⟩
  case round =>
    obtain ⟨hi, hbl⟩ := hrel
    have H0 := Lib.hid hbl
    clear hbl
    rcases hi with rfl | rfl | rfl | rfl | rfl | rfl | rfl | rfl | rfl | rfl | rfl | rfl
    · have qa : wr.cell? ⟨w3.heap.size + 1, 0, none⟩ = some (.int .i64 0) := ((Ka.out _ H0.out).cell 0).trans rfl
      have G := Lib.hid (get_ok A1 20 c1 0 4 (edgeL t hd wt m) wr hn1.out (Y1.out _ H0.out) (by omega) hc1 (by decide) (by omega))
      rw [place_edge0 t hd wt m ht] at G
      go_wp2_with fail
      refine G.out.mono ?_
      rintro e w5 ⟨rfl, hb1⟩
      have H1 : Hid (Below (w3.heap.size + 2) ((w3.alloc (.cells #[.int .u64 t, .int .u64 hd, .int .u64 wt, .int .u64 m, .int .u64 r, .int .u64 lv, .int .u64 gn, .int .u64 v, .int .u64 hb, .int .u64 nx, .int .u64 ds] 25)).alloc (.cells #[.int .i64 0, .int .i64 4, .int .i64 8, .int .i64 16, .int .i64 0, .int .i64 4, .int .i64 8, .int .i64 0, .int .i64 4, .int .i64 8, .int .i64 12] 3)) w5) := by
        have h := H0.out.trans (hb1.mono (by have := H0.out.size; simpa using this))
        exact h
      clear hb1
      have qw : w5.cell? ⟨w3.heap.size, 0, none⟩ = some (.int .u64 t) := ((Kw.out _ H1.out).cell 0).trans rfl
      go_wp2_with fail
      go_roundw
      case rel => exact ⟨by simp, H1.out⟩
      case measure => simp [intOf]
    · have qa : wr.cell? ⟨w3.heap.size + 1, 1, none⟩ = some (.int .i64 4) := ((Ka.out _ H0.out).cell 1).trans rfl
      have G := Lib.hid (get_ok A1 20 c1 4 4 (edgeL t hd wt m) wr hn1.out (Y1.out _ H0.out) (by omega) hc1 (by decide) (by omega))
      rw [place_edge1 t hd wt m hhd] at G
      go_wp2_with fail
      refine G.out.mono ?_
      rintro e w5 ⟨rfl, hb1⟩
      have H1 : Hid (Below (w3.heap.size + 2) ((w3.alloc (.cells #[.int .u64 t, .int .u64 hd, .int .u64 wt, .int .u64 m, .int .u64 r, .int .u64 lv, .int .u64 gn, .int .u64 v, .int .u64 hb, .int .u64 nx, .int .u64 ds] 25)).alloc (.cells #[.int .i64 0, .int .i64 4, .int .i64 8, .int .i64 16, .int .i64 0, .int .i64 4, .int .i64 8, .int .i64 0, .int .i64 4, .int .i64 8, .int .i64 12] 3)) w5) := by
        have h := H0.out.trans (hb1.mono (by have := H0.out.size; simpa using this))
        exact h
      clear hb1
      have qw : w5.cell? ⟨w3.heap.size, 1, none⟩ = some (.int .u64 hd) := ((Kw.out _ H1.out).cell 1).trans rfl
      go_wp2_with fail
      go_roundw
      case rel => exact ⟨by simp, H1.out⟩
      case measure => simp [intOf]
    · have qa : wr.cell? ⟨w3.heap.size + 1, 2, none⟩ = some (.int .i64 8) := ((Ka.out _ H0.out).cell 2).trans rfl
      have G := Lib.hid (get_ok A1 20 c1 8 8 (edgeL t hd wt m) wr hn1.out (Y1.out _ H0.out) (by omega) hc1 (by decide) (by omega))
      rw [place_edge2 t hd wt m hwt] at G
      go_wp2_with fail
      refine G.out.mono ?_
      rintro e w5 ⟨rfl, hb1⟩
      have H1 : Hid (Below (w3.heap.size + 2) ((w3.alloc (.cells #[.int .u64 t, .int .u64 hd, .int .u64 wt, .int .u64 m, .int .u64 r, .int .u64 lv, .int .u64 gn, .int .u64 v, .int .u64 hb, .int .u64 nx, .int .u64 ds] 25)).alloc (.cells #[.int .i64 0, .int .i64 4, .int .i64 8, .int .i64 16, .int .i64 0, .int .i64 4, .int .i64 8, .int .i64 0, .int .i64 4, .int .i64 8, .int .i64 12] 3)) w5) := by
        have h := H0.out.trans (hb1.mono (by have := H0.out.size; simpa using this))
        exact h
      clear hb1
      have qw : w5.cell? ⟨w3.heap.size, 2, none⟩ = some (.int .u64 wt) := ((Kw.out _ H1.out).cell 2).trans rfl
      go_wp2_with fail
      go_roundw
      case rel => exact ⟨by simp, H1.out⟩
      case measure => simp [intOf]
    · have qa : wr.cell? ⟨w3.heap.size + 1, 3, none⟩ = some (.int .i64 16) := ((Ka.out _ H0.out).cell 3).trans rfl
      have G := Lib.hid (get_ok A1 20 c1 16 4 (edgeL t hd wt m) wr hn1.out (Y1.out _ H0.out) (by omega) hc1 (by decide) (by omega))
      rw [place_edge3 t hd wt m hm] at G
      go_wp2_with fail
      refine G.out.mono ?_
      rintro e w5 ⟨rfl, hb1⟩
      have H1 : Hid (Below (w3.heap.size + 2) ((w3.alloc (.cells #[.int .u64 t, .int .u64 hd, .int .u64 wt, .int .u64 m, .int .u64 r, .int .u64 lv, .int .u64 gn, .int .u64 v, .int .u64 hb, .int .u64 nx, .int .u64 ds] 25)).alloc (.cells #[.int .i64 0, .int .i64 4, .int .i64 8, .int .i64 16, .int .i64 0, .int .i64 4, .int .i64 8, .int .i64 0, .int .i64 4, .int .i64 8, .int .i64 12] 3)) w5) := by
        have h := H0.out.trans (hb1.mono (by have := H0.out.size; simpa using this))
        exact h
      clear hb1
      have qw : w5.cell? ⟨w3.heap.size, 3, none⟩ = some (.int .u64 m) := ((Kw.out _ H1.out).cell 3).trans rfl
      go_wp2_with fail
      go_roundw
      case rel => exact ⟨by simp, H1.out⟩
      case measure => simp [intOf]
    · have qa : wr.cell? ⟨w3.heap.size + 1, 4, none⟩ = some (.int .i64 0) := ((Ka.out _ H0.out).cell 4).trans rfl
      have G := Lib.hid (get_ok A2 12 c2 0 4 (vertL r lv gn) wr hn2.out (Y2.out _ H0.out) (by omega) hc2 (by decide) (by omega))
      rw [place_vert0 r lv gn hr] at G
      go_wp2_with fail
      refine G.out.mono ?_
      rintro e w5 ⟨rfl, hb1⟩
      have H1 : Hid (Below (w3.heap.size + 2) ((w3.alloc (.cells #[.int .u64 t, .int .u64 hd, .int .u64 wt, .int .u64 m, .int .u64 r, .int .u64 lv, .int .u64 gn, .int .u64 v, .int .u64 hb, .int .u64 nx, .int .u64 ds] 25)).alloc (.cells #[.int .i64 0, .int .i64 4, .int .i64 8, .int .i64 16, .int .i64 0, .int .i64 4, .int .i64 8, .int .i64 0, .int .i64 4, .int .i64 8, .int .i64 12] 3)) w5) := by
        have h := H0.out.trans (hb1.mono (by have := H0.out.size; simpa using this))
        exact h
      clear hb1
      have qw : w5.cell? ⟨w3.heap.size, 4, none⟩ = some (.int .u64 r) := ((Kw.out _ H1.out).cell 4).trans rfl
      go_wp2_with fail
      go_roundw
      case rel => exact ⟨by simp, H1.out⟩
      case measure => simp [intOf]
    · have qa : wr.cell? ⟨w3.heap.size + 1, 5, none⟩ = some (.int .i64 4) := ((Ka.out _ H0.out).cell 5).trans rfl
      have G := Lib.hid (get_ok A2 12 c2 4 4 (vertL r lv gn) wr hn2.out (Y2.out _ H0.out) (by omega) hc2 (by decide) (by omega))
      rw [place_vert1 r lv gn hlv] at G
      go_wp2_with fail
      refine G.out.mono ?_
      rintro e w5 ⟨rfl, hb1⟩
      have H1 : Hid (Below (w3.heap.size + 2) ((w3.alloc (.cells #[.int .u64 t, .int .u64 hd, .int .u64 wt, .int .u64 m, .int .u64 r, .int .u64 lv, .int .u64 gn, .int .u64 v, .int .u64 hb, .int .u64 nx, .int .u64 ds] 25)).alloc (.cells #[.int .i64 0, .int .i64 4, .int .i64 8, .int .i64 16, .int .i64 0, .int .i64 4, .int .i64 8, .int .i64 0, .int .i64 4, .int .i64 8, .int .i64 12] 3)) w5) := by
        have h := H0.out.trans (hb1.mono (by have := H0.out.size; simpa using this))
        exact h
      clear hb1
      have qw : w5.cell? ⟨w3.heap.size, 5, none⟩ = some (.int .u64 lv) := ((Kw.out _ H1.out).cell 5).trans rfl
      go_wp2_with fail
      go_roundw
      case rel => exact ⟨by simp, H1.out⟩
      case measure => simp [intOf]
    · have qa : wr.cell? ⟨w3.heap.size + 1, 6, none⟩ = some (.int .i64 8) := ((Ka.out _ H0.out).cell 6).trans rfl
      have G := Lib.hid (get_ok A2 12 c2 8 4 (vertL r lv gn) wr hn2.out (Y2.out _ H0.out) (by omega) hc2 (by decide) (by omega))
      rw [place_vert2 r lv gn hgn] at G
      go_wp2_with fail
      refine G.out.mono ?_
      rintro e w5 ⟨rfl, hb1⟩
      have H1 : Hid (Below (w3.heap.size + 2) ((w3.alloc (.cells #[.int .u64 t, .int .u64 hd, .int .u64 wt, .int .u64 m, .int .u64 r, .int .u64 lv, .int .u64 gn, .int .u64 v, .int .u64 hb, .int .u64 nx, .int .u64 ds] 25)).alloc (.cells #[.int .i64 0, .int .i64 4, .int .i64 8, .int .i64 16, .int .i64 0, .int .i64 4, .int .i64 8, .int .i64 0, .int .i64 4, .int .i64 8, .int .i64 12] 3)) w5) := by
        have h := H0.out.trans (hb1.mono (by have := H0.out.size; simpa using this))
        exact h
      clear hb1
      have qw : w5.cell? ⟨w3.heap.size, 6, none⟩ = some (.int .u64 gn) := ((Kw.out _ H1.out).cell 6).trans rfl
      go_wp2_with fail
      go_roundw
      case rel => exact ⟨by simp, H1.out⟩
      case measure => simp [intOf]
    · have qa : wr.cell? ⟨w3.heap.size + 1, 7, none⟩ = some (.int .i64 0) := ((Ka.out _ H0.out).cell 7).trans rfl
      have G := Lib.hid (get_ok A3 20 c3 0 4 (labelL v hb nx ds) wr hn3.out (Y3.out _ H0.out) (by omega) hc3 (by decide) (by omega))
      rw [place_label0 v hb nx ds hv] at G
      go_wp2_with fail
      refine G.out.mono ?_
      rintro e w5 ⟨rfl, hb1⟩
      have H1 : Hid (Below (w3.heap.size + 2) ((w3.alloc (.cells #[.int .u64 t, .int .u64 hd, .int .u64 wt, .int .u64 m, .int .u64 r, .int .u64 lv, .int .u64 gn, .int .u64 v, .int .u64 hb, .int .u64 nx, .int .u64 ds] 25)).alloc (.cells #[.int .i64 0, .int .i64 4, .int .i64 8, .int .i64 16, .int .i64 0, .int .i64 4, .int .i64 8, .int .i64 0, .int .i64 4, .int .i64 8, .int .i64 12] 3)) w5) := by
        have h := H0.out.trans (hb1.mono (by have := H0.out.size; simpa using this))
        exact h
      clear hb1
      have qw : w5.cell? ⟨w3.heap.size, 7, none⟩ = some (.int .u64 v) := ((Kw.out _ H1.out).cell 7).trans rfl
      go_wp2_with fail
      go_roundw
      case rel => exact ⟨by simp, H1.out⟩
      case measure => simp [intOf]
    · have qa : wr.cell? ⟨w3.heap.size + 1, 8, none⟩ = some (.int .i64 4) := ((Ka.out _ H0.out).cell 8).trans rfl
      have G := Lib.hid (get_ok A3 20 c3 4 4 (labelL v hb nx ds) wr hn3.out (Y3.out _ H0.out) (by omega) hc3 (by decide) (by omega))
      rw [place_label1 v hb nx ds hhb] at G
      go_wp2_with fail
      refine G.out.mono ?_
      rintro e w5 ⟨rfl, hb1⟩
      have H1 : Hid (Below (w3.heap.size + 2) ((w3.alloc (.cells #[.int .u64 t, .int .u64 hd, .int .u64 wt, .int .u64 m, .int .u64 r, .int .u64 lv, .int .u64 gn, .int .u64 v, .int .u64 hb, .int .u64 nx, .int .u64 ds] 25)).alloc (.cells #[.int .i64 0, .int .i64 4, .int .i64 8, .int .i64 16, .int .i64 0, .int .i64 4, .int .i64 8, .int .i64 0, .int .i64 4, .int .i64 8, .int .i64 12] 3)) w5) := by
        have h := H0.out.trans (hb1.mono (by have := H0.out.size; simpa using this))
        exact h
      clear hb1
      have qw : w5.cell? ⟨w3.heap.size, 8, none⟩ = some (.int .u64 hb) := ((Kw.out _ H1.out).cell 8).trans rfl
      go_wp2_with fail
      go_roundw
      case rel => exact ⟨by simp, H1.out⟩
      case measure => simp [intOf]
    · have qa : wr.cell? ⟨w3.heap.size + 1, 9, none⟩ = some (.int .i64 8) := ((Ka.out _ H0.out).cell 9).trans rfl
      have G := Lib.hid (get_ok A3 20 c3 8 4 (labelL v hb nx ds) wr hn3.out (Y3.out _ H0.out) (by omega) hc3 (by decide) (by omega))
      rw [place_label2 v hb nx ds hnx] at G
      go_wp2_with fail
      refine G.out.mono ?_
      rintro e w5 ⟨rfl, hb1⟩
      have H1 : Hid (Below (w3.heap.size + 2) ((w3.alloc (.cells #[.int .u64 t, .int .u64 hd, .int .u64 wt, .int .u64 m, .int .u64 r, .int .u64 lv, .int .u64 gn, .int .u64 v, .int .u64 hb, .int .u64 nx, .int .u64 ds] 25)).alloc (.cells #[.int .i64 0, .int .i64 4, .int .i64 8, .int .i64 16, .int .i64 0, .int .i64 4, .int .i64 8, .int .i64 0, .int .i64 4, .int .i64 8, .int .i64 12] 3)) w5) := by
        have h := H0.out.trans (hb1.mono (by have := H0.out.size; simpa using this))
        exact h
      clear hb1
      have qw : w5.cell? ⟨w3.heap.size, 9, none⟩ = some (.int .u64 nx) := ((Kw.out _ H1.out).cell 9).trans rfl
      go_wp2_with fail
      go_roundw
      case rel => exact ⟨by simp, H1.out⟩
      case measure => simp [intOf]
    · have qa : wr.cell? ⟨w3.heap.size + 1, 10, none⟩ = some (.int .i64 12) := ((Ka.out _ H0.out).cell 10).trans rfl
      have G := Lib.hid (get_ok A3 20 c3 12 8 (labelL v hb nx ds) wr hn3.out (Y3.out _ H0.out) (by omega) hc3 (by decide) (by omega))
      rw [place_label3 v hb nx ds hds] at G
      go_wp2_with fail
      refine G.out.mono ?_
      rintro e w5 ⟨rfl, hb1⟩
      have H1 : Hid (Below (w3.heap.size + 2) ((w3.alloc (.cells #[.int .u64 t, .int .u64 hd, .int .u64 wt, .int .u64 m, .int .u64 r, .int .u64 lv, .int .u64 gn, .int .u64 v, .int .u64 hb, .int .u64 nx, .int .u64 ds] 25)).alloc (.cells #[.int .i64 0, .int .i64 4, .int .i64 8, .int .i64 16, .int .i64 0, .int .i64 4, .int .i64 8, .int .i64 0, .int .i64 4, .int .i64 8, .int .i64 12] 3)) w5) := by
        have h := H0.out.trans (hb1.mono (by have := H0.out.size; simpa using this))
        exact h
      clear hb1
      have qw : w5.cell? ⟨w3.heap.size, 10, none⟩ = some (.int .u64 ds) := ((Kw.out _ H1.out).cell 10).trans rfl
      go_wp2_with fail
      go_roundw
      case rel => exact ⟨by simp, H1.out⟩
      case measure => simp [intOf]
    · go_wp2_with fail
      refine (works_any _).mono ?_
      rintro e w6 ⟨rfl, hb6⟩
      go_wp2_with fail
      go_ret
      have h4 := Zt.out _ H0.out
      exact ⟨rfl, h4.trans (hb6.mono h4.size)⟩
end Go.Proofs.Ytchfkelafghbdaa
