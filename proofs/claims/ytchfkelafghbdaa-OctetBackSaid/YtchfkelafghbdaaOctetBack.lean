/- OctetBack: what is read is what was written; any bytes that are read are those that are written; what was put is got. -/
import Derived.Test.YtchfkelafghbdaaOctetPlaces
import Derived.Test.YtchfkelafghbdaaOctRead
import Derived.Deep.RegionHeld3
set_option linter.unusedSimpArgs false
set_option linter.unusedVariables false
namespace Go.Proofs.Ytchfkelafghbdaa
open Go.RowKit Mp

theorem num_put (l : List UInt8) (n s x : Nat) (hl : l.length = n) : num (l ++ le s x) n s = x % 2 ^ (8 * s) := by
  have h := num_mid l (le s x) [] n s hl (le_length _ _)
  rw [List.append_nil] at h
  rw [h, bval_le]
theorem le_num (l : List UInt8) (a s : Nat) (h : a + s ≤ l.length) : le s (num l a s) = (l.drop a).take s := by
  have hlen : ((l.drop a).take s).length = s := by rw [List.length_take, List.length_drop]; omega
  have h2 := le_bval ((l.drop a).take s)
  rw [hlen] at h2
  exact h2
theorem edge_back (l : List UInt8) (h : l.length = 20) : edgeL (num l 0 4) (num l 4 4) (num l 8 8) (num l 16 4) = l := by
  unfold edgeL
  rw [le_num l 0 4 (by omega), le_num l 4 4 (by omega), le_num l 8 8 (by omega), le_num l 16 4 (by omega), List.drop_zero, ← List.take_add, ← List.take_add, ← List.take_add]
  exact List.take_of_length_le (by omega)
theorem vert_back (l : List UInt8) (h : l.length = 12) : vertL (num l 0 4) (num l 4 4) (num l 8 4) = l := by
  unfold vertL
  rw [le_num l 0 4 (by omega), le_num l 4 4 (by omega), le_num l 8 4 (by omega), List.drop_zero, ← List.take_add, ← List.take_add]
  exact List.take_of_length_le (by omega)
theorem label_back (l : List UInt8) (h : l.length = 20) : labelL (num l 0 4) (num l 4 4) (num l 8 4) (num l 12 8) = l := by
  unfold labelL
  rw [le_num l 0 4 (by omega), le_num l 4 4 (by omega), le_num l 8 4 (by omega), le_num l 12 8 (by omega), List.drop_zero, ← List.take_add, ← List.take_add, ← List.take_add]
  exact List.take_of_length_le (by omega)
theorem put_put (A : Option Addr) (n c x k : Nat) (l : List UInt8) (w : World) (hk : Sz (k : Int)) (hl : l.length = n) (hb : Bytes w w.heap.size A l) (hn : n ≤ 536870912) (hnc : n ≤ c) (hx : x ≤ 18446744073709551615) :
    Calls Try.prog 16 #[.slice A n c, .int .u64 x, .int .i64 k] w fun e w' => ∃ A' c', e = .returned (.slice A' (n + k) c') ∧ OwnB w' w.heap.size 5 A' (n + k) c' (l ++ le k x) ∧ Below w.heap.size w w' :=
  (put_any A n c x k l w hl hb hn hnc hx).mono fun e w' ⟨A', m, c', h1, h2, h3⟩ => by
    rw [putL_yes l x hk] at h2
    have hm : m = n + k := by rw [← h2.1, List.length_append, le_length, hl]
    subst hm
    exact ⟨A', c', h1, h2, h3⟩
/-- reading back what was written. -/
theorem readedge_back (A : Option Addr) (c t hd wt m : Nat) (w : World) (ht : t ≤ 4294967295) (hhd : hd ≤ 4294967295) (hwt : wt ≤ 18446744073709551615) (hm : m ≤ 4294967295) (hb : Bytes w w.heap.size A (edgeL t hd wt m)) (hl : (edgeL t hd wt m).length = 20) (hnc : 20 ≤ c) :
    Calls Try.prog 26 #[.slice A 20 c] w fun e w' => e = .returned (.tuple #[.agg #[.int .u32 t, .int .u32 hd, .int .u64 wt, .int .u32 m], .int .i64 0]) ∧ Below w.heap.size w w' := by
  have h := readedge_ok A c _ w hl hb hnc
  rw [place_edge0 t hd wt m ht, place_edge1 t hd wt m hhd, place_edge2 t hd wt m hwt, place_edge3 t hd wt m hm] at h
  exact h
theorem readvert_back (A : Option Addr) (c r lv gn : Nat) (w : World) (hr : r ≤ 4294967295) (hlv : lv ≤ 4294967295) (hgn : gn ≤ 4294967295) (hb : Bytes w w.heap.size A (vertL r lv gn)) (hl : (vertL r lv gn).length = 12) (hnc : 12 ≤ c) :
    Calls Try.prog 28 #[.slice A 12 c] w fun e w' => e = .returned (.tuple #[.agg #[.int .u32 r, .int .u32 lv, .int .u32 gn], .int .i64 0]) ∧ Below w.heap.size w w' := by
  have h := readvert_ok A c _ w hl hb hnc
  rw [place_vert0 r lv gn hr, place_vert1 r lv gn hlv, place_vert2 r lv gn hgn] at h
  exact h
theorem readlabel_back (A : Option Addr) (c v hb nx ds : Nat) (w : World) (hv : v ≤ 4294967295) (hhb : hb ≤ 4294967295) (hnx : nx ≤ 4294967295) (hds : ds ≤ 18446744073709551615) (hb' : Bytes w w.heap.size A (labelL v hb nx ds)) (hl : (labelL v hb nx ds).length = 20) (hnc : 20 ≤ c) :
    Calls Try.prog 30 #[.slice A 20 c] w fun e w' => e = .returned (.tuple #[.int .u32 v, .agg #[.int .u32 hb, .int .u32 nx, .int .u64 ds], .int .i64 0]) ∧ Below w.heap.size w w' := by
  have h := readlabel_ok A c _ w hl hb' hnc
  rw [place_label0 v hb nx ds hv, place_label1 v hb nx ds hhb, place_label2 v hb nx ds hnx, place_label3 v hb nx ds hds] at h
  exact h

set_option maxRecDepth 100000 in
set_option maxHeartbeats 8000000 in
theorem law_back (t hd wt m r lv gn hb nx ds v : Nat) (A : Option Addr) (n c : Nat) (l : List UInt8) (x : Nat) (w : World) (ht : t ≤ 4294967295) (hhd : hd ≤ 4294967295) (hwt : wt ≤ 18446744073709551615) (hm : m ≤ 4294967295) (hr : r ≤ 4294967295) (hlv : lv ≤ 4294967295) (hgn : gn ≤ 4294967295) (hhb : hb ≤ 4294967295) (hnx : nx ≤ 4294967295) (hds : ds ≤ 18446744073709551615) (hv : v ≤ 4294967295) (hl : l.length = n) (hb0 : Bytes w w.heap.size A l) (hcap : n ≤ c ∧ c ≤ maxLen) (hx : x ≤ 18446744073709551615) :
    Calls Try.prog 9 #[.agg #[.int .u32 t, .int .u32 hd, .int .u64 wt, .int .u32 m, .int .u32 r, .int .u32 lv, .int .u32 gn, .int .u32 hb, .int .u32 nx, .int .u64 ds, .int .u32 v], .slice A n c, .int .u64 x] w fun e w' => e = .returned (.bool true) ∧ Below w.heap.size w w' := by
  have HL := Lib.hid hl
  have HB := Lib.hid hb0
  clear hl hb0
  by_cases hbig : 4096 < n
  · go_enter Try.func9, Try.ntmps9
    go_wp2_with fail
    refine (works_any _).mono ?_
    rintro e w1 ⟨rfl, hb1⟩
    go_wp2_with fail
    go_ret
    exact ⟨rfl, ((Below.refl _ _).alloc (Nat.le_refl _) _).trans (hb1.mono (by simp))⟩
  by_cases h20 : 20 ≤ n
  · skip
    have Z0 : Hid (Below w.heap.size w (w.alloc (.cells #[.int .u32 t, .int .u32 hd, .int .u64 wt, .int .u32 m, .int .u32 r, .int .u32 lv, .int .u32 gn, .int .u32 hb, .int .u32 nx, .int .u64 ds, .int .u32 v] 46))) := by
      have h : Below w.heap.size w (w.alloc (.cells #[.int .u32 t, .int .u32 hd, .int .u64 wt, .int .u32 m, .int .u32 r, .int .u32 lv, .int .u32 gn, .int .u32 hb, .int .u32 nx, .int .u64 ds, .int .u32 v] 46)) := (Below.refl _ _).alloc (Nat.le_refl _) _
      exact h
    have K0 : Hid (Blk (w.alloc (.cells #[.int .u32 t, .int .u32 hd, .int .u64 wt, .int .u32 m, .int .u32 r, .int .u32 lv, .int .u32 gn, .int .u32 hb, .int .u32 nx, .int .u64 ds, .int .u32 v] 46)) w.heap.size 46 #[.int .u32 t, .int .u32 hd, .int .u64 wt, .int .u32 m, .int .u32 r, .int .u32 lv, .int .u32 gn, .int .u32 hb, .int .u32 nx, .int .u64 ds, .int .u32 v]) := Lib.hid (Blk.new _ _ _)
    go_enter Try.func9, Try.ntmps9
    have qs0_0_0 : (w.alloc (.cells #[.int .u32 t, .int .u32 hd, .int .u64 wt, .int .u32 m, .int .u32 r, .int .u32 lv, .int .u32 gn, .int .u32 hb, .int .u32 nx, .int .u64 ds, .int .u32 v] 46)).cell? ⟨w.heap.size, 0, none⟩ = some (.int .u32 t) := (K0.out.cell 0).trans rfl
    have qs0_0_1 : (w.alloc (.cells #[.int .u32 t, .int .u32 hd, .int .u64 wt, .int .u32 m, .int .u32 r, .int .u32 lv, .int .u32 gn, .int .u32 hb, .int .u32 nx, .int .u64 ds, .int .u32 v] 46)).cell? ⟨w.heap.size, 1, none⟩ = some (.int .u32 hd) := (K0.out.cell 1).trans rfl
    have qs0_0_2 : (w.alloc (.cells #[.int .u32 t, .int .u32 hd, .int .u64 wt, .int .u32 m, .int .u32 r, .int .u32 lv, .int .u32 gn, .int .u32 hb, .int .u32 nx, .int .u64 ds, .int .u32 v] 46)).cell? ⟨w.heap.size, 2, none⟩ = some (.int .u64 wt) := (K0.out.cell 2).trans rfl
    have qs0_0_3 : (w.alloc (.cells #[.int .u32 t, .int .u32 hd, .int .u64 wt, .int .u32 m, .int .u32 r, .int .u32 lv, .int .u32 gn, .int .u32 hb, .int .u32 nx, .int .u64 ds, .int .u32 v] 46)).cell? ⟨w.heap.size, 3, none⟩ = some (.int .u32 m) := (K0.out.cell 3).trans rfl
    go_wp2_with fail
    refine (edge_any t hd wt m _ ht hhd hwt hm).mono ?_
    rintro e a1 ⟨A1, c1, rfl, hO, hbl⟩
    have O1 := Lib.hid hO
    have X1 := Lib.hid hbl
    clear hO hbl
    go_wp2_with fail
    refine (readedge_back A1 c1 t hd wt m _ ht hhd hwt hm O1.out.bytes O1.out.1 O1.out.2.1).mono ?_
    rintro e b1 ⟨rfl, hbl⟩
    have T1 : Hid (Below w.heap.size w b1) := by
      have h1 := Z0.out.trans (X1.out.mono Z0.out.size)
      have h := h1.trans (hbl.mono h1.size)
      exact h
    have K0s1 : Hid (Blk (b1.alloc (.cells #[.int .u32 t, .int .u32 hd, .int .u64 wt, .int .u32 m] 40)) w.heap.size 46 #[.int .u32 t, .int .u32 hd, .int .u64 wt, .int .u32 m, .int .u32 r, .int .u32 lv, .int .u32 gn, .int .u32 hb, .int .u32 nx, .int .u64 ds, .int .u32 v]) := by
      have h1 := K0.out.below X1.out K0.out.lt
      have h := (h1.below hbl h1.lt).alloc (.cells #[.int .u32 t, .int .u32 hd, .int .u64 wt, .int .u32 m] 40)
      exact h
    have K1s1 : Hid (Blk (b1.alloc (.cells #[.int .u32 t, .int .u32 hd, .int .u64 wt, .int .u32 m] 40)) b1.heap.size 40 #[.int .u32 t, .int .u32 hd, .int .u64 wt, .int .u32 m]) := Lib.hid (Blk.new _ _ _)
    have Z1 : Hid (Below w.heap.size w (b1.alloc (.cells #[.int .u32 t, .int .u32 hd, .int .u64 wt, .int .u32 m] 40))) := by
      have h := T1.out.alloc T1.out.size (.cells #[.int .u32 t, .int .u32 hd, .int .u64 wt, .int .u32 m] 40)
      exact h
    clear hbl
    have qs1_0_4 : (b1.alloc (.cells #[.int .u32 t, .int .u32 hd, .int .u64 wt, .int .u32 m] 40)).cell? ⟨w.heap.size, 4, none⟩ = some (.int .u32 r) := (K0s1.out.cell 4).trans rfl
    have qs1_0_5 : (b1.alloc (.cells #[.int .u32 t, .int .u32 hd, .int .u64 wt, .int .u32 m] 40)).cell? ⟨w.heap.size, 5, none⟩ = some (.int .u32 lv) := (K0s1.out.cell 5).trans rfl
    have qs1_0_6 : (b1.alloc (.cells #[.int .u32 t, .int .u32 hd, .int .u64 wt, .int .u32 m] 40)).cell? ⟨w.heap.size, 6, none⟩ = some (.int .u32 gn) := (K0s1.out.cell 6).trans rfl
    go_wp2_with fail
    refine (vert_any r lv gn _ hr hlv hgn).mono ?_
    rintro e a2 ⟨A2, c2, rfl, hO, hbl⟩
    have O2 := Lib.hid hO
    have X2 := Lib.hid hbl
    clear hO hbl
    go_wp2_with fail
    refine (readvert_back A2 c2 r lv gn _ hr hlv hgn O2.out.bytes O2.out.1 O2.out.2.1).mono ?_
    rintro e b2 ⟨rfl, hbl⟩
    have T2 : Hid (Below w.heap.size w b2) := by
      have h1 := Z1.out.trans (X2.out.mono Z1.out.size)
      have h := h1.trans (hbl.mono h1.size)
      exact h
    have K0s2 : Hid (Blk (b2.alloc (.cells #[.int .u32 r, .int .u32 lv, .int .u32 gn] 42)) w.heap.size 46 #[.int .u32 t, .int .u32 hd, .int .u64 wt, .int .u32 m, .int .u32 r, .int .u32 lv, .int .u32 gn, .int .u32 hb, .int .u32 nx, .int .u64 ds, .int .u32 v]) := by
      have h1 := K0s1.out.below X2.out K0s1.out.lt
      have h := (h1.below hbl h1.lt).alloc (.cells #[.int .u32 r, .int .u32 lv, .int .u32 gn] 42)
      exact h
    have K1s2 : Hid (Blk (b2.alloc (.cells #[.int .u32 r, .int .u32 lv, .int .u32 gn] 42)) b1.heap.size 40 #[.int .u32 t, .int .u32 hd, .int .u64 wt, .int .u32 m]) := by
      have h1 := K1s1.out.below X2.out K1s1.out.lt
      have h := (h1.below hbl h1.lt).alloc (.cells #[.int .u32 r, .int .u32 lv, .int .u32 gn] 42)
      exact h
    have K2s2 : Hid (Blk (b2.alloc (.cells #[.int .u32 r, .int .u32 lv, .int .u32 gn] 42)) b2.heap.size 42 #[.int .u32 r, .int .u32 lv, .int .u32 gn]) := Lib.hid (Blk.new _ _ _)
    have Z2 : Hid (Below w.heap.size w (b2.alloc (.cells #[.int .u32 r, .int .u32 lv, .int .u32 gn] 42))) := by
      have h := T2.out.alloc T2.out.size (.cells #[.int .u32 r, .int .u32 lv, .int .u32 gn] 42)
      exact h
    have V2 : Hid (b1.heap.size < b2.heap.size) := by
      have h1 := K1s1.out.below X2.out K1s1.out.lt
      have h := (h1.below hbl h1.lt).lt
      exact h
    clear hbl
    have qs2_0_7 : (b2.alloc (.cells #[.int .u32 r, .int .u32 lv, .int .u32 gn] 42)).cell? ⟨w.heap.size, 7, none⟩ = some (.int .u32 hb) := (K0s2.out.cell 7).trans rfl
    have qs2_0_8 : (b2.alloc (.cells #[.int .u32 r, .int .u32 lv, .int .u32 gn] 42)).cell? ⟨w.heap.size, 8, none⟩ = some (.int .u32 nx) := (K0s2.out.cell 8).trans rfl
    have qs2_0_9 : (b2.alloc (.cells #[.int .u32 r, .int .u32 lv, .int .u32 gn] 42)).cell? ⟨w.heap.size, 9, none⟩ = some (.int .u64 ds) := (K0s2.out.cell 9).trans rfl
    have qs2_0_10 : (b2.alloc (.cells #[.int .u32 r, .int .u32 lv, .int .u32 gn] 42)).cell? ⟨w.heap.size, 10, none⟩ = some (.int .u32 v) := (K0s2.out.cell 10).trans rfl
    go_wp2_with fail
    refine (label_any v hb nx ds _ hv hhb hnx hds).mono ?_
    rintro e a3 ⟨A3, c3, rfl, hO, hbl⟩
    have O3 := Lib.hid hO
    have X3 := Lib.hid hbl
    clear hO hbl
    go_wp2_with fail
    refine (readlabel_back A3 c3 v hb nx ds _ hv hhb hnx hds O3.out.bytes O3.out.1 O3.out.2.1).mono ?_
    rintro e b3 ⟨rfl, hbl⟩
    have T3 : Hid (Below w.heap.size w b3) := by
      have h1 := Z2.out.trans (X3.out.mono Z2.out.size)
      have h := h1.trans (hbl.mono h1.size)
      exact h
    have K0s3 : Hid (Blk (b3.alloc (.cells #[.int .u32 hb, .int .u32 nx, .int .u64 ds] 44)) w.heap.size 46 #[.int .u32 t, .int .u32 hd, .int .u64 wt, .int .u32 m, .int .u32 r, .int .u32 lv, .int .u32 gn, .int .u32 hb, .int .u32 nx, .int .u64 ds, .int .u32 v]) := by
      have h1 := K0s2.out.below X3.out K0s2.out.lt
      have h := (h1.below hbl h1.lt).alloc (.cells #[.int .u32 hb, .int .u32 nx, .int .u64 ds] 44)
      exact h
    have K1s3 : Hid (Blk (b3.alloc (.cells #[.int .u32 hb, .int .u32 nx, .int .u64 ds] 44)) b1.heap.size 40 #[.int .u32 t, .int .u32 hd, .int .u64 wt, .int .u32 m]) := by
      have h1 := K1s2.out.below X3.out K1s2.out.lt
      have h := (h1.below hbl h1.lt).alloc (.cells #[.int .u32 hb, .int .u32 nx, .int .u64 ds] 44)
      exact h
    have K2s3 : Hid (Blk (b3.alloc (.cells #[.int .u32 hb, .int .u32 nx, .int .u64 ds] 44)) b2.heap.size 42 #[.int .u32 r, .int .u32 lv, .int .u32 gn]) := by
      have h1 := K2s2.out.below X3.out K2s2.out.lt
      have h := (h1.below hbl h1.lt).alloc (.cells #[.int .u32 hb, .int .u32 nx, .int .u64 ds] 44)
      exact h
    have K3s3 : Hid (Blk (b3.alloc (.cells #[.int .u32 hb, .int .u32 nx, .int .u64 ds] 44)) b3.heap.size 44 #[.int .u32 hb, .int .u32 nx, .int .u64 ds]) := Lib.hid (Blk.new _ _ _)
    have Z3 : Hid (Below w.heap.size w (b3.alloc (.cells #[.int .u32 hb, .int .u32 nx, .int .u64 ds] 44))) := by
      have h := T3.out.alloc T3.out.size (.cells #[.int .u32 hb, .int .u32 nx, .int .u64 ds] 44)
      exact h
    have V3 : Hid (b2.heap.size < b3.heap.size) := by
      have h1 := K2s2.out.below X3.out K2s2.out.lt
      have h := (h1.below hbl h1.lt).lt
      exact h
    clear hbl
    have qs3_0_0 : (b3.alloc (.cells #[.int .u32 hb, .int .u32 nx, .int .u64 ds] 44)).cell? ⟨w.heap.size, 0, none⟩ = some (.int .u32 t) := (K0s3.out.cell 0).trans rfl
    have qs3_0_1 : (b3.alloc (.cells #[.int .u32 hb, .int .u32 nx, .int .u64 ds] 44)).cell? ⟨w.heap.size, 1, none⟩ = some (.int .u32 hd) := (K0s3.out.cell 1).trans rfl
    have qs3_0_2 : (b3.alloc (.cells #[.int .u32 hb, .int .u32 nx, .int .u64 ds] 44)).cell? ⟨w.heap.size, 2, none⟩ = some (.int .u64 wt) := (K0s3.out.cell 2).trans rfl
    have qs3_0_3 : (b3.alloc (.cells #[.int .u32 hb, .int .u32 nx, .int .u64 ds] 44)).cell? ⟨w.heap.size, 3, none⟩ = some (.int .u32 m) := (K0s3.out.cell 3).trans rfl
    have qs3_0_4 : (b3.alloc (.cells #[.int .u32 hb, .int .u32 nx, .int .u64 ds] 44)).cell? ⟨w.heap.size, 4, none⟩ = some (.int .u32 r) := (K0s3.out.cell 4).trans rfl
    have qs3_0_5 : (b3.alloc (.cells #[.int .u32 hb, .int .u32 nx, .int .u64 ds] 44)).cell? ⟨w.heap.size, 5, none⟩ = some (.int .u32 lv) := (K0s3.out.cell 5).trans rfl
    have qs3_0_6 : (b3.alloc (.cells #[.int .u32 hb, .int .u32 nx, .int .u64 ds] 44)).cell? ⟨w.heap.size, 6, none⟩ = some (.int .u32 gn) := (K0s3.out.cell 6).trans rfl
    have qs3_0_7 : (b3.alloc (.cells #[.int .u32 hb, .int .u32 nx, .int .u64 ds] 44)).cell? ⟨w.heap.size, 7, none⟩ = some (.int .u32 hb) := (K0s3.out.cell 7).trans rfl
    have qs3_0_8 : (b3.alloc (.cells #[.int .u32 hb, .int .u32 nx, .int .u64 ds] 44)).cell? ⟨w.heap.size, 8, none⟩ = some (.int .u32 nx) := (K0s3.out.cell 8).trans rfl
    have qs3_0_9 : (b3.alloc (.cells #[.int .u32 hb, .int .u32 nx, .int .u64 ds] 44)).cell? ⟨w.heap.size, 9, none⟩ = some (.int .u64 ds) := (K0s3.out.cell 9).trans rfl
    have qs3_0_10 : (b3.alloc (.cells #[.int .u32 hb, .int .u32 nx, .int .u64 ds] 44)).cell? ⟨w.heap.size, 10, none⟩ = some (.int .u32 v) := (K0s3.out.cell 10).trans rfl
    have qs3_1_0 : (b3.alloc (.cells #[.int .u32 hb, .int .u32 nx, .int .u64 ds] 44)).cell? ⟨b1.heap.size, 0, none⟩ = some (.int .u32 t) := (K1s3.out.cell 0).trans rfl
    have qs3_1_1 : (b3.alloc (.cells #[.int .u32 hb, .int .u32 nx, .int .u64 ds] 44)).cell? ⟨b1.heap.size, 1, none⟩ = some (.int .u32 hd) := (K1s3.out.cell 1).trans rfl
    have qs3_1_2 : (b3.alloc (.cells #[.int .u32 hb, .int .u32 nx, .int .u64 ds] 44)).cell? ⟨b1.heap.size, 2, none⟩ = some (.int .u64 wt) := (K1s3.out.cell 2).trans rfl
    have qs3_1_3 : (b3.alloc (.cells #[.int .u32 hb, .int .u32 nx, .int .u64 ds] 44)).cell? ⟨b1.heap.size, 3, none⟩ = some (.int .u32 m) := (K1s3.out.cell 3).trans rfl
    have qs3_2_0 : (b3.alloc (.cells #[.int .u32 hb, .int .u32 nx, .int .u64 ds] 44)).cell? ⟨b2.heap.size, 0, none⟩ = some (.int .u32 r) := (K2s3.out.cell 0).trans rfl
    have qs3_2_1 : (b3.alloc (.cells #[.int .u32 hb, .int .u32 nx, .int .u64 ds] 44)).cell? ⟨b2.heap.size, 1, none⟩ = some (.int .u32 lv) := (K2s3.out.cell 1).trans rfl
    have qs3_2_2 : (b3.alloc (.cells #[.int .u32 hb, .int .u32 nx, .int .u64 ds] 44)).cell? ⟨b2.heap.size, 2, none⟩ = some (.int .u32 gn) := (K2s3.out.cell 2).trans rfl
    have qs3_3_0 : (b3.alloc (.cells #[.int .u32 hb, .int .u32 nx, .int .u64 ds] 44)).cell? ⟨b3.heap.size, 0, none⟩ = some (.int .u32 hb) := (K3s3.out.cell 0).trans rfl
    have qs3_3_1 : (b3.alloc (.cells #[.int .u32 hb, .int .u32 nx, .int .u64 ds] 44)).cell? ⟨b3.heap.size, 1, none⟩ = some (.int .u32 nx) := (K3s3.out.cell 1).trans rfl
    have qs3_3_2 : (b3.alloc (.cells #[.int .u32 hb, .int .u32 nx, .int .u64 ds] 44)).cell? ⟨b3.heap.size, 2, none⟩ = some (.int .u64 ds) := (K3s3.out.cell 2).trans rfl
    have HT : Hid ((l.take 20).length = 20) := by
      have h : (l.take 20).length = 20 := by rw [List.length_take]; have := HL.out; omega
      exact h
    have HV : Hid ((l.take 12).length = 12) := by
      have h : (l.take 12).length = 12 := by rw [List.length_take]; have := HL.out; omega
      exact h
    have hB : Bytes (b3.alloc (.cells #[.int .u32 hb, .int .u32 nx, .int .u64 ds] 44)) (b3.alloc (.cells #[.int .u32 hb, .int .u32 nx, .int .u64 ds] 44)).heap.size A l := (HB.out.below Z3.out).more Z3.out.size
    have HBB := Lib.hid hB
    clear hB
    go_wp2_with fail
    refine (readedge_ok A c (l.take 20) _ HT.out (HBB.out.take 20) (by omega)).mono ?_
    rintro e d1 ⟨rfl, hbl⟩
    have hlt12 := V2.out
    have hlt23 := V3.out
    have hge1 : w.heap.size ≤ b1.heap.size := T1.out.size
    have Y1 := Lib.hid hbl
    clear hbl
    have J11 : Hid (Blk d1 b1.heap.size 40 #[.int .u32 t, .int .u32 hd, .int .u64 wt, .int .u32 m]) := by
      have h := K1s3.out.below Y1.out K1s3.out.lt
      exact h
    have J21 : Hid (Blk d1 b2.heap.size 42 #[.int .u32 r, .int .u32 lv, .int .u32 gn]) := by
      have h := K2s3.out.below Y1.out K2s3.out.lt
      exact h
    have J31 : Hid (Blk d1 b3.heap.size 44 #[.int .u32 hb, .int .u32 nx, .int .u64 ds]) := by
      have h := K3s3.out.below Y1.out K3s3.out.lt
      exact h
    have U1 : Hid (Below w.heap.size w d1) := by
      have h := Z3.out.trans (Y1.out.mono Z3.out.size)
      exact h
    have f10 := J11.out.frozen 0
    have g10 := (J11.out.cell 0).trans rfl
    have f11 := J11.out.frozen 1
    have g11 := (J11.out.cell 1).trans rfl
    have f12 := J11.out.frozen 2
    have g12 := (J11.out.cell 2).trans rfl
    have f13 := J11.out.frozen 3
    have g13 := (J11.out.cell 3).trans rfl
    have I11 : Hid (Blk ((((d1.setCell ⟨b1.heap.size, 0, none⟩ (.int .u32 (num (l.take 20) 0 4))).setCell ⟨b1.heap.size, 1, none⟩ (.int .u32 (num (l.take 20) 4 4))).setCell ⟨b1.heap.size, 2, none⟩ (.int .u64 (num (l.take 20) 8 8))).setCell ⟨b1.heap.size, 3, none⟩ (.int .u32 (num (l.take 20) 16 4))) b1.heap.size 40 #[.int .u32 (num (l.take 20) 0 4), .int .u32 (num (l.take 20) 4 4), .int .u64 (num (l.take 20) 8 8), .int .u32 (num (l.take 20) 16 4)]) := by
      have h := ((((J11.out.set_ 0 (.int .u32 (num (l.take 20) 0 4))).set_ 1 (.int .u32 (num (l.take 20) 4 4))).set_ 2 (.int .u64 (num (l.take 20) 8 8))).set_ 3 (.int .u32 (num (l.take 20) 16 4)))
      exact h
    have I21 : Hid (Blk ((((d1.setCell ⟨b1.heap.size, 0, none⟩ (.int .u32 (num (l.take 20) 0 4))).setCell ⟨b1.heap.size, 1, none⟩ (.int .u32 (num (l.take 20) 4 4))).setCell ⟨b1.heap.size, 2, none⟩ (.int .u64 (num (l.take 20) 8 8))).setCell ⟨b1.heap.size, 3, none⟩ (.int .u32 (num (l.take 20) 16 4))) b2.heap.size 42 #[.int .u32 r, .int .u32 lv, .int .u32 gn]) := by
      have h := ((((J21.out.far (p := ⟨b1.heap.size, 0, none⟩) (by simp only; omega) (.int .u32 (num (l.take 20) 0 4))).far (p := ⟨b1.heap.size, 1, none⟩) (by simp only; omega) (.int .u32 (num (l.take 20) 4 4))).far (p := ⟨b1.heap.size, 2, none⟩) (by simp only; omega) (.int .u64 (num (l.take 20) 8 8))).far (p := ⟨b1.heap.size, 3, none⟩) (by simp only; omega) (.int .u32 (num (l.take 20) 16 4)))
      exact h
    have I31 : Hid (Blk ((((d1.setCell ⟨b1.heap.size, 0, none⟩ (.int .u32 (num (l.take 20) 0 4))).setCell ⟨b1.heap.size, 1, none⟩ (.int .u32 (num (l.take 20) 4 4))).setCell ⟨b1.heap.size, 2, none⟩ (.int .u64 (num (l.take 20) 8 8))).setCell ⟨b1.heap.size, 3, none⟩ (.int .u32 (num (l.take 20) 16 4))) b3.heap.size 44 #[.int .u32 hb, .int .u32 nx, .int .u64 ds]) := by
      have h := ((((J31.out.far (p := ⟨b1.heap.size, 0, none⟩) (by simp only; omega) (.int .u32 (num (l.take 20) 0 4))).far (p := ⟨b1.heap.size, 1, none⟩) (by simp only; omega) (.int .u32 (num (l.take 20) 4 4))).far (p := ⟨b1.heap.size, 2, none⟩) (by simp only; omega) (.int .u64 (num (l.take 20) 8 8))).far (p := ⟨b1.heap.size, 3, none⟩) (by simp only; omega) (.int .u32 (num (l.take 20) 16 4)))
      exact h
    have S1 : Hid (Below w.heap.size w ((((d1.setCell ⟨b1.heap.size, 0, none⟩ (.int .u32 (num (l.take 20) 0 4))).setCell ⟨b1.heap.size, 1, none⟩ (.int .u32 (num (l.take 20) 4 4))).setCell ⟨b1.heap.size, 2, none⟩ (.int .u64 (num (l.take 20) 8 8))).setCell ⟨b1.heap.size, 3, none⟩ (.int .u32 (num (l.take 20) 16 4)))) := by
      have h := ((((U1.out.setCell (p := ⟨b1.heap.size, 0, none⟩) (hge1) (.int .u32 (num (l.take 20) 0 4))).setCell (p := ⟨b1.heap.size, 1, none⟩) (hge1) (.int .u32 (num (l.take 20) 4 4))).setCell (p := ⟨b1.heap.size, 2, none⟩) (hge1) (.int .u64 (num (l.take 20) 8 8))).setCell (p := ⟨b1.heap.size, 3, none⟩) (hge1) (.int .u32 (num (l.take 20) 16 4)))
      exact h
    have N1 : Hid (Bytes ((((d1.setCell ⟨b1.heap.size, 0, none⟩ (.int .u32 (num (l.take 20) 0 4))).setCell ⟨b1.heap.size, 1, none⟩ (.int .u32 (num (l.take 20) 4 4))).setCell ⟨b1.heap.size, 2, none⟩ (.int .u64 (num (l.take 20) 8 8))).setCell ⟨b1.heap.size, 3, none⟩ (.int .u32 (num (l.take 20) 16 4))) ((((d1.setCell ⟨b1.heap.size, 0, none⟩ (.int .u32 (num (l.take 20) 0 4))).setCell ⟨b1.heap.size, 1, none⟩ (.int .u32 (num (l.take 20) 4 4))).setCell ⟨b1.heap.size, 2, none⟩ (.int .u64 (num (l.take 20) 8 8))).setCell ⟨b1.heap.size, 3, none⟩ (.int .u32 (num (l.take 20) 16 4))).heap.size A l) := by
      have h := (HB.out.below S1.out).more S1.out.size
      exact h
    go_wp2_with fail
    refine (readlabel_ok A c (l.take 20) _ HT.out (N1.out.take 20) (by omega)).mono ?_
    rintro e d2 ⟨rfl, hbl⟩
    have Y2 := Lib.hid hbl
    clear hbl
    have J12 : Hid (Blk d2 b1.heap.size 40 #[.int .u32 (num (l.take 20) 0 4), .int .u32 (num (l.take 20) 4 4), .int .u64 (num (l.take 20) 8 8), .int .u32 (num (l.take 20) 16 4)]) := by
      have h := I11.out.below Y2.out I11.out.lt
      exact h
    have J22 : Hid (Blk d2 b2.heap.size 42 #[.int .u32 r, .int .u32 lv, .int .u32 gn]) := by
      have h := I21.out.below Y2.out I21.out.lt
      exact h
    have J32 : Hid (Blk d2 b3.heap.size 44 #[.int .u32 hb, .int .u32 nx, .int .u64 ds]) := by
      have h := I31.out.below Y2.out I31.out.lt
      exact h
    have U2 : Hid (Below w.heap.size w d2) := by
      have h := S1.out.trans (Y2.out.mono S1.out.size)
      exact h
    have f20 := J32.out.frozen 0
    have g20 := (J32.out.cell 0).trans rfl
    have f21 := J32.out.frozen 1
    have g21 := (J32.out.cell 1).trans rfl
    have f22 := J32.out.frozen 2
    have g22 := (J32.out.cell 2).trans rfl
    have I12 : Hid (Blk (((d2.setCell ⟨b3.heap.size, 0, none⟩ (.int .u32 (num (l.take 20) 4 4))).setCell ⟨b3.heap.size, 1, none⟩ (.int .u32 (num (l.take 20) 8 4))).setCell ⟨b3.heap.size, 2, none⟩ (.int .u64 (num (l.take 20) 12 8))) b1.heap.size 40 #[.int .u32 (num (l.take 20) 0 4), .int .u32 (num (l.take 20) 4 4), .int .u64 (num (l.take 20) 8 8), .int .u32 (num (l.take 20) 16 4)]) := by
      have h := (((J12.out.far (p := ⟨b3.heap.size, 0, none⟩) (by simp only; omega) (.int .u32 (num (l.take 20) 4 4))).far (p := ⟨b3.heap.size, 1, none⟩) (by simp only; omega) (.int .u32 (num (l.take 20) 8 4))).far (p := ⟨b3.heap.size, 2, none⟩) (by simp only; omega) (.int .u64 (num (l.take 20) 12 8)))
      exact h
    have I22 : Hid (Blk (((d2.setCell ⟨b3.heap.size, 0, none⟩ (.int .u32 (num (l.take 20) 4 4))).setCell ⟨b3.heap.size, 1, none⟩ (.int .u32 (num (l.take 20) 8 4))).setCell ⟨b3.heap.size, 2, none⟩ (.int .u64 (num (l.take 20) 12 8))) b2.heap.size 42 #[.int .u32 r, .int .u32 lv, .int .u32 gn]) := by
      have h := (((J22.out.far (p := ⟨b3.heap.size, 0, none⟩) (by simp only; omega) (.int .u32 (num (l.take 20) 4 4))).far (p := ⟨b3.heap.size, 1, none⟩) (by simp only; omega) (.int .u32 (num (l.take 20) 8 4))).far (p := ⟨b3.heap.size, 2, none⟩) (by simp only; omega) (.int .u64 (num (l.take 20) 12 8)))
      exact h
    have I32 : Hid (Blk (((d2.setCell ⟨b3.heap.size, 0, none⟩ (.int .u32 (num (l.take 20) 4 4))).setCell ⟨b3.heap.size, 1, none⟩ (.int .u32 (num (l.take 20) 8 4))).setCell ⟨b3.heap.size, 2, none⟩ (.int .u64 (num (l.take 20) 12 8))) b3.heap.size 44 #[.int .u32 (num (l.take 20) 4 4), .int .u32 (num (l.take 20) 8 4), .int .u64 (num (l.take 20) 12 8)]) := by
      have h := (((J32.out.set_ 0 (.int .u32 (num (l.take 20) 4 4))).set_ 1 (.int .u32 (num (l.take 20) 8 4))).set_ 2 (.int .u64 (num (l.take 20) 12 8)))
      exact h
    have S2 : Hid (Below w.heap.size w (((d2.setCell ⟨b3.heap.size, 0, none⟩ (.int .u32 (num (l.take 20) 4 4))).setCell ⟨b3.heap.size, 1, none⟩ (.int .u32 (num (l.take 20) 8 4))).setCell ⟨b3.heap.size, 2, none⟩ (.int .u64 (num (l.take 20) 12 8)))) := by
      have h := (((U2.out.setCell (p := ⟨b3.heap.size, 0, none⟩) (by simp only; omega) (.int .u32 (num (l.take 20) 4 4))).setCell (p := ⟨b3.heap.size, 1, none⟩) (by simp only; omega) (.int .u32 (num (l.take 20) 8 4))).setCell (p := ⟨b3.heap.size, 2, none⟩) (by simp only; omega) (.int .u64 (num (l.take 20) 12 8)))
      exact h
    have N2 : Hid (Bytes (((d2.setCell ⟨b3.heap.size, 0, none⟩ (.int .u32 (num (l.take 20) 4 4))).setCell ⟨b3.heap.size, 1, none⟩ (.int .u32 (num (l.take 20) 8 4))).setCell ⟨b3.heap.size, 2, none⟩ (.int .u64 (num (l.take 20) 12 8))) (((d2.setCell ⟨b3.heap.size, 0, none⟩ (.int .u32 (num (l.take 20) 4 4))).setCell ⟨b3.heap.size, 1, none⟩ (.int .u32 (num (l.take 20) 8 4))).setCell ⟨b3.heap.size, 2, none⟩ (.int .u64 (num (l.take 20) 12 8))).heap.size A l) := by
      have h := (HB.out.below S2.out).more S2.out.size
      exact h
    go_wp2_with fail
    refine (readvert_ok A c (l.take 12) _ HV.out (N2.out.take 12) (by omega)).mono ?_
    rintro e d3 ⟨rfl, hbl⟩
    have Y3 := Lib.hid hbl
    clear hbl
    have J13 : Hid (Blk d3 b1.heap.size 40 #[.int .u32 (num (l.take 20) 0 4), .int .u32 (num (l.take 20) 4 4), .int .u64 (num (l.take 20) 8 8), .int .u32 (num (l.take 20) 16 4)]) := by
      have h := I12.out.below Y3.out I12.out.lt
      exact h
    have J23 : Hid (Blk d3 b2.heap.size 42 #[.int .u32 r, .int .u32 lv, .int .u32 gn]) := by
      have h := I22.out.below Y3.out I22.out.lt
      exact h
    have J33 : Hid (Blk d3 b3.heap.size 44 #[.int .u32 (num (l.take 20) 4 4), .int .u32 (num (l.take 20) 8 4), .int .u64 (num (l.take 20) 12 8)]) := by
      have h := I32.out.below Y3.out I32.out.lt
      exact h
    have U3 : Hid (Below w.heap.size w d3) := by
      have h := S2.out.trans (Y3.out.mono S2.out.size)
      exact h
    have f30 := J23.out.frozen 0
    have g30 := (J23.out.cell 0).trans rfl
    have f31 := J23.out.frozen 1
    have g31 := (J23.out.cell 1).trans rfl
    have f32 := J23.out.frozen 2
    have g32 := (J23.out.cell 2).trans rfl
    have I13 : Hid (Blk (((d3.setCell ⟨b2.heap.size, 0, none⟩ (.int .u32 (num (l.take 12) 0 4))).setCell ⟨b2.heap.size, 1, none⟩ (.int .u32 (num (l.take 12) 4 4))).setCell ⟨b2.heap.size, 2, none⟩ (.int .u32 (num (l.take 12) 8 4))) b1.heap.size 40 #[.int .u32 (num (l.take 20) 0 4), .int .u32 (num (l.take 20) 4 4), .int .u64 (num (l.take 20) 8 8), .int .u32 (num (l.take 20) 16 4)]) := by
      have h := (((J13.out.far (p := ⟨b2.heap.size, 0, none⟩) (by simp only; omega) (.int .u32 (num (l.take 12) 0 4))).far (p := ⟨b2.heap.size, 1, none⟩) (by simp only; omega) (.int .u32 (num (l.take 12) 4 4))).far (p := ⟨b2.heap.size, 2, none⟩) (by simp only; omega) (.int .u32 (num (l.take 12) 8 4)))
      exact h
    have I23 : Hid (Blk (((d3.setCell ⟨b2.heap.size, 0, none⟩ (.int .u32 (num (l.take 12) 0 4))).setCell ⟨b2.heap.size, 1, none⟩ (.int .u32 (num (l.take 12) 4 4))).setCell ⟨b2.heap.size, 2, none⟩ (.int .u32 (num (l.take 12) 8 4))) b2.heap.size 42 #[.int .u32 (num (l.take 12) 0 4), .int .u32 (num (l.take 12) 4 4), .int .u32 (num (l.take 12) 8 4)]) := by
      have h := (((J23.out.set_ 0 (.int .u32 (num (l.take 12) 0 4))).set_ 1 (.int .u32 (num (l.take 12) 4 4))).set_ 2 (.int .u32 (num (l.take 12) 8 4)))
      exact h
    have I33 : Hid (Blk (((d3.setCell ⟨b2.heap.size, 0, none⟩ (.int .u32 (num (l.take 12) 0 4))).setCell ⟨b2.heap.size, 1, none⟩ (.int .u32 (num (l.take 12) 4 4))).setCell ⟨b2.heap.size, 2, none⟩ (.int .u32 (num (l.take 12) 8 4))) b3.heap.size 44 #[.int .u32 (num (l.take 20) 4 4), .int .u32 (num (l.take 20) 8 4), .int .u64 (num (l.take 20) 12 8)]) := by
      have h := (((J33.out.far (p := ⟨b2.heap.size, 0, none⟩) (by simp only; omega) (.int .u32 (num (l.take 12) 0 4))).far (p := ⟨b2.heap.size, 1, none⟩) (by simp only; omega) (.int .u32 (num (l.take 12) 4 4))).far (p := ⟨b2.heap.size, 2, none⟩) (by simp only; omega) (.int .u32 (num (l.take 12) 8 4)))
      exact h
    have S3 : Hid (Below w.heap.size w (((d3.setCell ⟨b2.heap.size, 0, none⟩ (.int .u32 (num (l.take 12) 0 4))).setCell ⟨b2.heap.size, 1, none⟩ (.int .u32 (num (l.take 12) 4 4))).setCell ⟨b2.heap.size, 2, none⟩ (.int .u32 (num (l.take 12) 8 4)))) := by
      have h := (((U3.out.setCell (p := ⟨b2.heap.size, 0, none⟩) (by simp only; omega) (.int .u32 (num (l.take 12) 0 4))).setCell (p := ⟨b2.heap.size, 1, none⟩) (by simp only; omega) (.int .u32 (num (l.take 12) 4 4))).setCell (p := ⟨b2.heap.size, 2, none⟩) (by simp only; omega) (.int .u32 (num (l.take 12) 8 4)))
      exact h
    have N3 : Hid (Bytes (((d3.setCell ⟨b2.heap.size, 0, none⟩ (.int .u32 (num (l.take 12) 0 4))).setCell ⟨b2.heap.size, 1, none⟩ (.int .u32 (num (l.take 12) 4 4))).setCell ⟨b2.heap.size, 2, none⟩ (.int .u32 (num (l.take 12) 8 4))) (((d3.setCell ⟨b2.heap.size, 0, none⟩ (.int .u32 (num (l.take 12) 0 4))).setCell ⟨b2.heap.size, 1, none⟩ (.int .u32 (num (l.take 12) 4 4))).setCell ⟨b2.heap.size, 2, none⟩ (.int .u32 (num (l.take 12) 8 4))).heap.size A l) := by
      have h := (HB.out.below S3.out).more S3.out.size
      exact h
    have z10 : (((d3.setCell ⟨b2.heap.size, 0, none⟩ (.int .u32 (num (l.take 12) 0 4))).setCell ⟨b2.heap.size, 1, none⟩ (.int .u32 (num (l.take 12) 4 4))).setCell ⟨b2.heap.size, 2, none⟩ (.int .u32 (num (l.take 12) 8 4))).cell? ⟨b1.heap.size, 0, none⟩ = some (.int .u32 (num (l.take 20) 0 4)) := (I13.out.cell 0).trans rfl
    have z11 : (((d3.setCell ⟨b2.heap.size, 0, none⟩ (.int .u32 (num (l.take 12) 0 4))).setCell ⟨b2.heap.size, 1, none⟩ (.int .u32 (num (l.take 12) 4 4))).setCell ⟨b2.heap.size, 2, none⟩ (.int .u32 (num (l.take 12) 8 4))).cell? ⟨b1.heap.size, 1, none⟩ = some (.int .u32 (num (l.take 20) 4 4)) := (I13.out.cell 1).trans rfl
    have z12 : (((d3.setCell ⟨b2.heap.size, 0, none⟩ (.int .u32 (num (l.take 12) 0 4))).setCell ⟨b2.heap.size, 1, none⟩ (.int .u32 (num (l.take 12) 4 4))).setCell ⟨b2.heap.size, 2, none⟩ (.int .u32 (num (l.take 12) 8 4))).cell? ⟨b1.heap.size, 2, none⟩ = some (.int .u64 (num (l.take 20) 8 8)) := (I13.out.cell 2).trans rfl
    have z13 : (((d3.setCell ⟨b2.heap.size, 0, none⟩ (.int .u32 (num (l.take 12) 0 4))).setCell ⟨b2.heap.size, 1, none⟩ (.int .u32 (num (l.take 12) 4 4))).setCell ⟨b2.heap.size, 2, none⟩ (.int .u32 (num (l.take 12) 8 4))).cell? ⟨b1.heap.size, 3, none⟩ = some (.int .u32 (num (l.take 20) 16 4)) := (I13.out.cell 3).trans rfl
    have z20 : (((d3.setCell ⟨b2.heap.size, 0, none⟩ (.int .u32 (num (l.take 12) 0 4))).setCell ⟨b2.heap.size, 1, none⟩ (.int .u32 (num (l.take 12) 4 4))).setCell ⟨b2.heap.size, 2, none⟩ (.int .u32 (num (l.take 12) 8 4))).cell? ⟨b2.heap.size, 0, none⟩ = some (.int .u32 (num (l.take 12) 0 4)) := (I23.out.cell 0).trans rfl
    have z21 : (((d3.setCell ⟨b2.heap.size, 0, none⟩ (.int .u32 (num (l.take 12) 0 4))).setCell ⟨b2.heap.size, 1, none⟩ (.int .u32 (num (l.take 12) 4 4))).setCell ⟨b2.heap.size, 2, none⟩ (.int .u32 (num (l.take 12) 8 4))).cell? ⟨b2.heap.size, 1, none⟩ = some (.int .u32 (num (l.take 12) 4 4)) := (I23.out.cell 1).trans rfl
    have z22 : (((d3.setCell ⟨b2.heap.size, 0, none⟩ (.int .u32 (num (l.take 12) 0 4))).setCell ⟨b2.heap.size, 1, none⟩ (.int .u32 (num (l.take 12) 4 4))).setCell ⟨b2.heap.size, 2, none⟩ (.int .u32 (num (l.take 12) 8 4))).cell? ⟨b2.heap.size, 2, none⟩ = some (.int .u32 (num (l.take 12) 8 4)) := (I23.out.cell 2).trans rfl
    have z30 : (((d3.setCell ⟨b2.heap.size, 0, none⟩ (.int .u32 (num (l.take 12) 0 4))).setCell ⟨b2.heap.size, 1, none⟩ (.int .u32 (num (l.take 12) 4 4))).setCell ⟨b2.heap.size, 2, none⟩ (.int .u32 (num (l.take 12) 8 4))).cell? ⟨b3.heap.size, 0, none⟩ = some (.int .u32 (num (l.take 20) 4 4)) := (I33.out.cell 0).trans rfl
    have z31 : (((d3.setCell ⟨b2.heap.size, 0, none⟩ (.int .u32 (num (l.take 12) 0 4))).setCell ⟨b2.heap.size, 1, none⟩ (.int .u32 (num (l.take 12) 4 4))).setCell ⟨b2.heap.size, 2, none⟩ (.int .u32 (num (l.take 12) 8 4))).cell? ⟨b3.heap.size, 1, none⟩ = some (.int .u32 (num (l.take 20) 8 4)) := (I33.out.cell 1).trans rfl
    have z32 : (((d3.setCell ⟨b2.heap.size, 0, none⟩ (.int .u32 (num (l.take 12) 0 4))).setCell ⟨b2.heap.size, 1, none⟩ (.int .u32 (num (l.take 12) 4 4))).setCell ⟨b2.heap.size, 2, none⟩ (.int .u32 (num (l.take 12) 8 4))).cell? ⟨b3.heap.size, 2, none⟩ = some (.int .u64 (num (l.take 20) 12 8)) := (I33.out.cell 2).trans rfl
    have B1f : Hid (Blk (((d3.setCell ⟨b2.heap.size, 0, none⟩ (.int .u32 (num (l.take 12) 0 4))).setCell ⟨b2.heap.size, 1, none⟩ (.int .u32 (num (l.take 12) 4 4))).setCell ⟨b2.heap.size, 2, none⟩ (.int .u32 (num (l.take 12) 8 4))) b1.heap.size 40 #[.int .u32 (num (l.take 20) 0 4), .int .u32 (num (l.take 20) 4 4), .int .u64 (num (l.take 20) 8 8), .int .u32 (num (l.take 20) 16 4)]) := Lib.hid I13.out
    have B2f : Hid (Blk (((d3.setCell ⟨b2.heap.size, 0, none⟩ (.int .u32 (num (l.take 12) 0 4))).setCell ⟨b2.heap.size, 1, none⟩ (.int .u32 (num (l.take 12) 4 4))).setCell ⟨b2.heap.size, 2, none⟩ (.int .u32 (num (l.take 12) 8 4))) b2.heap.size 42 #[.int .u32 (num (l.take 12) 0 4), .int .u32 (num (l.take 12) 4 4), .int .u32 (num (l.take 12) 8 4)]) := Lib.hid I23.out
    have B3f : Hid (Blk (((d3.setCell ⟨b2.heap.size, 0, none⟩ (.int .u32 (num (l.take 12) 0 4))).setCell ⟨b2.heap.size, 1, none⟩ (.int .u32 (num (l.take 12) 4 4))).setCell ⟨b2.heap.size, 2, none⟩ (.int .u32 (num (l.take 12) 8 4))) b3.heap.size 44 #[.int .u32 (num (l.take 20) 4 4), .int .u32 (num (l.take 20) 8 4), .int .u64 (num (l.take 20) 12 8)]) := Lib.hid I33.out
    go_wp2_with fail
    clear qs0_0_0 qs0_0_1 qs0_0_2 qs0_0_3 qs1_0_4 qs1_0_5 qs1_0_6 qs2_0_7 qs2_0_8 qs2_0_9 qs2_0_10 qs3_0_0 qs3_0_1 qs3_0_2 qs3_0_3 qs3_0_4 qs3_0_5 qs3_0_6 qs3_0_7 qs3_0_8 qs3_0_9 qs3_0_10 qs3_1_0 qs3_1_1 qs3_1_2 qs3_1_3 qs3_2_0 qs3_2_1 qs3_2_2 qs3_3_0 qs3_3_1 qs3_3_2 f10 f11 f12 f13 g10 g11 g12 g13 f20 f21 f22 f30 f31 f32 g20 g21 g22 g30 g31 g32
    clear I13 I23 I33 I12 I22 I32 I11 I21 I31 J11 J21 J31 J12 J22 J32 J13 J23 J33 N1 N2 S1 S2 U1 U2 U3 Y1 Y2 Y3
    have hst := Since.refl (((d3.setCell ⟨b2.heap.size, 0, none⟩ (.int .u32 (num (l.take 12) 0 4))).setCell ⟨b2.heap.size, 1, none⟩ (.int .u32 (num (l.take 12) 4 4))).setCell ⟨b2.heap.size, 2, none⟩ (.int .u32 (num (l.take 12) 8 4)))
    generalize (((d3.setCell ⟨b2.heap.size, 0, none⟩ (.int .u32 (num (l.take 12) 0 4))).setCell ⟨b2.heap.size, 1, none⟩ (.int .u32 (num (l.take 12) 4 4))).setCell ⟨b2.heap.size, 2, none⟩ (.int .u32 (num (l.take 12) 8 4))) = wd at *
    have hst1 := Since.drew hst
    have hcA : (20 : Int) ≤ (c : Int) := by omega
    have hcB : (12 : Int) ≤ (c : Int) := by omega
    have hcC : 20 ≤ c := by omega
    have hcD : 12 ≤ c := by omega
    have Hk : Hid (∀ w', Since wd w' → (w'.cell? ⟨b1.heap.size, 0, none⟩ = some (.int .u32 (num (l.take 20) 0 4)) ∧ w'.cell? ⟨b1.heap.size, 1, none⟩ = some (.int .u32 (num (l.take 20) 4 4)) ∧ w'.cell? ⟨b1.heap.size, 2, none⟩ = some (.int .u64 (num (l.take 20) 8 8)) ∧ w'.cell? ⟨b1.heap.size, 3, none⟩ = some (.int .u32 (num (l.take 20) 16 4)) ∧ w'.cell? ⟨b2.heap.size, 0, none⟩ = some (.int .u32 (num (l.take 12) 0 4)) ∧ w'.cell? ⟨b2.heap.size, 1, none⟩ = some (.int .u32 (num (l.take 12) 4 4)) ∧ w'.cell? ⟨b2.heap.size, 2, none⟩ = some (.int .u32 (num (l.take 12) 8 4)) ∧ w'.cell? ⟨b3.heap.size, 0, none⟩ = some (.int .u32 (num (l.take 20) 4 4)) ∧ w'.cell? ⟨b3.heap.size, 1, none⟩ = some (.int .u32 (num (l.take 20) 8 4)) ∧ w'.cell? ⟨b3.heap.size, 2, none⟩ = some (.int .u64 (num (l.take 20) 12 8)) ∧ Since wd w')) := by
      have h : ∀ w', Since wd w' → (w'.cell? ⟨b1.heap.size, 0, none⟩ = some (.int .u32 (num (l.take 20) 0 4)) ∧ w'.cell? ⟨b1.heap.size, 1, none⟩ = some (.int .u32 (num (l.take 20) 4 4)) ∧ w'.cell? ⟨b1.heap.size, 2, none⟩ = some (.int .u64 (num (l.take 20) 8 8)) ∧ w'.cell? ⟨b1.heap.size, 3, none⟩ = some (.int .u32 (num (l.take 20) 16 4)) ∧ w'.cell? ⟨b2.heap.size, 0, none⟩ = some (.int .u32 (num (l.take 12) 0 4)) ∧ w'.cell? ⟨b2.heap.size, 1, none⟩ = some (.int .u32 (num (l.take 12) 4 4)) ∧ w'.cell? ⟨b2.heap.size, 2, none⟩ = some (.int .u32 (num (l.take 12) 8 4)) ∧ w'.cell? ⟨b3.heap.size, 0, none⟩ = some (.int .u32 (num (l.take 20) 4 4)) ∧ w'.cell? ⟨b3.heap.size, 1, none⟩ = some (.int .u32 (num (l.take 20) 8 4)) ∧ w'.cell? ⟨b3.heap.size, 2, none⟩ = some (.int .u64 (num (l.take 20) 12 8)) ∧ Since wd w') := fun w' hq => by
        have k1 := B1f.out.below hq B1f.out.lt
        have k2 := B2f.out.below hq B2f.out.lt
        have k3 := B3f.out.below hq B3f.out.lt
        exact ⟨(k1.cell 0).trans rfl, (k1.cell 1).trans rfl, (k1.cell 2).trans rfl, (k1.cell 3).trans rfl, (k2.cell 0).trans rfl, (k2.cell 1).trans rfl, (k2.cell 2).trans rfl, (k3.cell 0).trans rfl, (k3.cell 1).trans rfl, (k3.cell 2).trans rfl, hq⟩
      exact h
    have PEdge : Hid (∀ W, Since wd W → Calls Try.prog 20 #[.agg #[.int .u32 (num (l.take 20) 0 4), .int .u32 (num (l.take 20) 4 4), .int .u64 (num (l.take 20) 8 8), .int .u32 (num (l.take 20) 16 4)]] W fun e w' => ∃ A' c', e = .returned (.slice A' 20 c') ∧ OwnB w' wd.heap.size 5 A' 20 c' (l.take 20) ∧ Since wd w') := by
      have h : ∀ W, Since wd W → Calls Try.prog 20 #[.agg #[.int .u32 (num (l.take 20) 0 4), .int .u32 (num (l.take 20) 4 4), .int .u64 (num (l.take 20) 8 8), .int .u32 (num (l.take 20) 16 4)]] W fun e w' => ∃ A' c', e = .returned (.slice A' 20 c') ∧ OwnB w' wd.heap.size 5 A' 20 c' (l.take 20) ∧ Since wd w' := fun W hS =>
        (edge_any (num (l.take 20) 0 4) (num (l.take 20) 4 4) (num (l.take 20) 8 8) (num (l.take 20) 16 4) W (by have := num_lt (l.take 20) 0 4; simp only [Nat.reduceMul, Nat.reducePow] at this; omega) (by have := num_lt (l.take 20) 4 4; simp only [Nat.reduceMul, Nat.reducePow] at this; omega) (by have := num_lt (l.take 20) 8 8; simp only [Nat.reduceMul, Nat.reducePow] at this; omega) (by have := num_lt (l.take 20) 16 4; simp only [Nat.reduceMul, Nat.reducePow] at this; omega)).mono fun e w' ⟨A', c', h1, h2, h3⟩ => ⟨A', c', h1, by rw [edge_back (l.take 20) HT.out] at h2; exact h2.mono (Below.size hS), hS.step h3⟩
      exact h
    have PVert : Hid (∀ W, Since wd W → Calls Try.prog 22 #[.agg #[.int .u32 (num (l.take 12) 0 4), .int .u32 (num (l.take 12) 4 4), .int .u32 (num (l.take 12) 8 4)]] W fun e w' => ∃ A' c', e = .returned (.slice A' 12 c') ∧ OwnB w' wd.heap.size 5 A' 12 c' (l.take 12) ∧ Since wd w') := by
      have h : ∀ W, Since wd W → Calls Try.prog 22 #[.agg #[.int .u32 (num (l.take 12) 0 4), .int .u32 (num (l.take 12) 4 4), .int .u32 (num (l.take 12) 8 4)]] W fun e w' => ∃ A' c', e = .returned (.slice A' 12 c') ∧ OwnB w' wd.heap.size 5 A' 12 c' (l.take 12) ∧ Since wd w' := fun W hS =>
        (vert_any (num (l.take 12) 0 4) (num (l.take 12) 4 4) (num (l.take 12) 8 4) W (by have := num_lt (l.take 12) 0 4; simp only [Nat.reduceMul, Nat.reducePow] at this; omega) (by have := num_lt (l.take 12) 4 4; simp only [Nat.reduceMul, Nat.reducePow] at this; omega) (by have := num_lt (l.take 12) 8 4; simp only [Nat.reduceMul, Nat.reducePow] at this; omega)).mono fun e w' ⟨A', c', h1, h2, h3⟩ => ⟨A', c', h1, by rw [vert_back (l.take 12) HV.out] at h2; exact h2.mono (Below.size hS), hS.step h3⟩
      exact h
    have PLabel : Hid (∀ W, Since wd W → Calls Try.prog 24 #[.int .u32 (num (l.take 20) 0 4), .agg #[.int .u32 (num (l.take 20) 4 4), .int .u32 (num (l.take 20) 8 4), .int .u64 (num (l.take 20) 12 8)]] W fun e w' => ∃ A' c', e = .returned (.slice A' 20 c') ∧ OwnB w' wd.heap.size 5 A' 20 c' (l.take 20) ∧ Since wd w') := by
      have h : ∀ W, Since wd W → Calls Try.prog 24 #[.int .u32 (num (l.take 20) 0 4), .agg #[.int .u32 (num (l.take 20) 4 4), .int .u32 (num (l.take 20) 8 4), .int .u64 (num (l.take 20) 12 8)]] W fun e w' => ∃ A' c', e = .returned (.slice A' 20 c') ∧ OwnB w' wd.heap.size 5 A' 20 c' (l.take 20) ∧ Since wd w' := fun W hS =>
        (label_any (num (l.take 20) 0 4) (num (l.take 20) 4 4) (num (l.take 20) 8 4) (num (l.take 20) 12 8) W (by have := num_lt (l.take 20) 0 4; simp only [Nat.reduceMul, Nat.reducePow] at this; omega) (by have := num_lt (l.take 20) 4 4; simp only [Nat.reduceMul, Nat.reducePow] at this; omega) (by have := num_lt (l.take 20) 8 4; simp only [Nat.reduceMul, Nat.reducePow] at this; omega) (by have := num_lt (l.take 20) 12 8; simp only [Nat.reduceMul, Nat.reducePow] at this; omega)).mono fun e w' ⟨A', c', h1, h2, h3⟩ => ⟨A', c', h1, by rw [label_back (l.take 20) HT.out] at h2; exact h2.mono (Below.size hS), hS.step h3⟩
      exact h
    have Q20 : Hid (∀ W A' c', OwnB W wd.heap.size 5 A' 20 c' (l.take 20) → Since wd W → Calls Try.prog 17 #[.slice A' 20 c', .slice A 20 c] W fun e w' => e = .returned (.bool true) ∧ Since wd w') := by
      have h : ∀ W A' c', OwnB W wd.heap.size 5 A' 20 c' (l.take 20) → Since wd W → Calls Try.prog 17 #[.slice A' 20 c', .slice A 20 c] W fun e w' => e = .returned (.bool true) ∧ Since wd w' := fun W A' c' hO hS =>
        (eq_any A' 20 c' A 20 c (l.take 20) (l.take 20) W HT.out hO.bytes HT.out (((N3.out.take 20).below hS).more (Below.size hS))).mono fun e w' h => ⟨by have := h.1; simpa using this, by obtain ⟨_, rfl⟩ := h; exact hS⟩
      exact h
    have Q12 : Hid (∀ W A' c', OwnB W wd.heap.size 5 A' 12 c' (l.take 12) → Since wd W → Calls Try.prog 17 #[.slice A' 12 c', .slice A 12 c] W fun e w' => e = .returned (.bool true) ∧ Since wd w') := by
      have h : ∀ W A' c', OwnB W wd.heap.size 5 A' 12 c' (l.take 12) → Since wd W → Calls Try.prog 17 #[.slice A' 12 c', .slice A 12 c] W fun e w' => e = .returned (.bool true) ∧ Since wd w' := fun W A' c' hO hS =>
        (eq_any A' 12 c' A 12 c (l.take 12) (l.take 12) W HV.out hO.bytes HV.out (((N3.out.take 12).below hS).more (Below.size hS))).mono fun e w' h => ⟨by have := h.1; simpa using this, by obtain ⟨_, rfl⟩ := h; exact hS⟩
      exact h
    go_region_held3 (fun w' => (w'.cell? ⟨b1.heap.size, 0, none⟩ = some (.int .u32 (num (l.take 20) 0 4)) ∧ w'.cell? ⟨b1.heap.size, 1, none⟩ = some (.int .u32 (num (l.take 20) 4 4)) ∧ w'.cell? ⟨b1.heap.size, 2, none⟩ = some (.int .u64 (num (l.take 20) 8 8)) ∧ w'.cell? ⟨b1.heap.size, 3, none⟩ = some (.int .u32 (num (l.take 20) 16 4)) ∧ w'.cell? ⟨b2.heap.size, 0, none⟩ = some (.int .u32 (num (l.take 12) 0 4)) ∧ w'.cell? ⟨b2.heap.size, 1, none⟩ = some (.int .u32 (num (l.take 12) 4 4)) ∧ w'.cell? ⟨b2.heap.size, 2, none⟩ = some (.int .u32 (num (l.take 12) 8 4)) ∧ w'.cell? ⟨b3.heap.size, 0, none⟩ = some (.int .u32 (num (l.take 20) 4 4)) ∧ w'.cell? ⟨b3.heap.size, 1, none⟩ = some (.int .u32 (num (l.take 20) 8 4)) ∧ w'.cell? ⟨b3.heap.size, 2, none⟩ = some (.int .u64 (num (l.take 20) 12 8)) ∧ Since wd w')) (first | ((with_reducible refine Hk.out _ ?_); (with_reducible assumption)) | ((with_reducible refine Hk.out _ (Since.drew ?_)); (with_reducible assumption))) (first | (go_at_call 20; (with_reducible refine Calls.mono (PEdge.out _ ?_) ?_); (with_reducible assumption); rintro e wEdge ⟨AEdge, cEdge, rfl, hEdge, hsqEdge⟩) | (go_at_call_of 17 AEdge; (with_reducible refine Calls.mono (Q20.out _ _ _ hEdge hsqEdge) ?_); rintro e wEdgez ⟨rfl, hsEdgez⟩) | (go_at_call 24; (with_reducible refine Calls.mono (PLabel.out _ ?_) ?_); (with_reducible assumption); rintro e wLabel ⟨ALabel, cLabel, rfl, hLabel, hsqLabel⟩) | (go_at_call_of 17 ALabel; (with_reducible refine Calls.mono (Q20.out _ _ _ hLabel hsqLabel) ?_); rintro e wLabelz ⟨rfl, hsLabelz⟩) | (go_at_call 22; (with_reducible refine Calls.mono (PVert.out _ ?_) ?_); (with_reducible assumption); rintro e wVert ⟨AVert, cVert, rfl, hVert, hsqVert⟩) | (go_at_call_of 17 AVert; (with_reducible refine Calls.mono (Q12.out _ _ _ hVert hsqVert) ?_); rintro e wVz ⟨rfl, hsVz⟩))
    have Z9 : Hid (Below w.heap.size w wVz) := by
      have h := S3.out.trans (Below.mono (show Below _ _ _ from hsVz) S3.out.size)
      exact h
    clear hEdge hLabel hVert hsqEdge hsqLabel hsqVert hsEdgez hsLabelz hsVz hst hst1 Hk PEdge PLabel PVert Q20 Q12
    have Zt : Hid (∀ wr, Below (wVz.heap.size + 1) (wVz.alloc (.cells #[.int .i64 1, .int .i64 2, .int .i64 4, .int .i64 8] 3)) wr → Below w.heap.size w wr) := by
      have h : ∀ wr, Below (wVz.heap.size + 1) (wVz.alloc (.cells #[.int .i64 1, .int .i64 2, .int .i64 4, .int .i64 8] 3)) wr → Below w.heap.size w wr := fun wr h => (Z9.out.alloc Z9.out.size _).trans (h.mono (Nat.le_trans Z9.out.size (by simp)))
      exact h
    have Ym : Hid (∀ wr, Below w.heap.size w wr → Bytes wr wr.heap.size A l) := by
      have h : ∀ wr, Below w.heap.size w wr → Bytes wr wr.heap.size A l := fun wr h => (HB.out.below h).more h.size
      exact h
    have Kw : Hid (∀ wr, Below (wVz.heap.size + 1) (wVz.alloc (.cells #[.int .i64 1, .int .i64 2, .int .i64 4, .int .i64 8] 3)) wr → Blk wr wVz.heap.size 3 #[.int .i64 1, .int .i64 2, .int .i64 4, .int .i64 8]) := by
      have h : ∀ wr, Below (wVz.heap.size + 1) (wVz.alloc (.cells #[.int .i64 1, .int .i64 2, .int .i64 4, .int .i64 8] 3)) wr → Blk wr wVz.heap.size 3 #[.int .i64 1, .int .i64 2, .int .i64 4, .int .i64 8] := fun wr h => by
        have h1 := Blk.new wVz 3 #[.int .i64 1, .int .i64 2, .int .i64 4, .int .i64 8]
        exact h1.below h (by omega)
      exact h
    go_wp2_with fail
    go_loopw [15] (fun i wr => (i = .int .i64 0 ∨ i = .int .i64 1 ∨ i = .int .i64 2 ∨ i = .int .i64 3 ∨ i = .int .i64 4) ∧ Below (wVz.heap.size + 1) (wVz.alloc (.cells #[.int .i64 1, .int .i64 2, .int .i64 4, .int .i64 8] 3)) wr) (fun i _ => 4 - (intOf i).toNat)
    case atStart => exact ⟨by simp, Below.refl _ _⟩
    case round =>
      obtain ⟨hi, hbl⟩ := hrel
      have H0 := Lib.hid hbl
      clear hbl
      rcases hi with rfl | rfl | rfl | rfl | rfl
      · skip
        have qa : wr.cell? ⟨wVz.heap.size, 0, none⟩ = some (.int .i64 1) := ((Kw.out _ H0.out).cell 0).trans rfl
        have PC := Lib.hid (put_put A n c x 1 l wr (by decide) HL.out (Ym.out _ (Zt.out _ H0.out)) (by omega) (by omega) hx)
        go_wp2_with fail
        refine PC.out.mono ?_
        rintro e w5 ⟨A5, c5, rfl, hO5, hb5⟩
        have O5 := Lib.hid hO5
        have H5 : Hid (Below (wVz.heap.size + 1) (wVz.alloc (.cells #[.int .i64 1, .int .i64 2, .int .i64 4, .int .i64 8] 3)) w5) := by
          have h := H0.out.trans (hb5.mono (by have := H0.out.size; simpa using this))
          exact h
        clear hO5 hb5
        have qb : w5.cell? ⟨wVz.heap.size, 0, none⟩ = some (.int .i64 1) := ((Kw.out _ H5.out).cell 0).trans rfl
        have G := Lib.hid (get_ok A5 (n + 1) c5 n 1 (l ++ le 1 x) w5 O5.out.1 O5.out.bytes (by omega) O5.out.2.1 (by decide) (by omega))
        rw [num_put l n 1 x HL.out, show ((x % 2 ^ (8 * 1) : Nat) : Int) = ((x : Int) % 256) by simp only [Nat.reduceMul, Nat.reducePow]; omega] at G
        go_wp2_with fail
        refine G.out.mono ?_
        rintro e w6 ⟨rfl, hb6⟩
        have H6 : Hid (Below (wVz.heap.size + 1) (wVz.alloc (.cells #[.int .i64 1, .int .i64 2, .int .i64 4, .int .i64 8] 3)) w6) := by
          have h := H5.out.trans (hb6.mono (by have := H5.out.size; simpa using this))
          exact h
        have BY : Hid (Bytes w6 w6.heap.size A5 l) := by
          have h := (((O5.out.below hb6).take n (by omega))).bytes
          rw [List.take_append_of_le_length (by have := HL.out; omega), List.take_of_length_le (by have := HL.out; omega)] at h
          exact h
        clear hb6
        have hc5 : n + 1 ≤ c5 := O5.out.2.1
        have qc : w6.cell? ⟨wVz.heap.size, 0, none⟩ = some (.int .i64 1) := ((Kw.out _ H6.out).cell 0).trans rfl
        go_wp2_with fail
        refine (eq_any A5 n c5 A n c l l _ HL.out BY.out HL.out (Ym.out _ (Zt.out _ H6.out))).mono ?_
        rintro e w7 ⟨rfl, rfl⟩
        rw [show (l == l) = true by simp]
        go_wp2_with fail
        go_roundw
        case rel => exact ⟨by simp, H6.out⟩
        case measure => simp [intOf]
      · skip
        have qa : wr.cell? ⟨wVz.heap.size, 1, none⟩ = some (.int .i64 2) := ((Kw.out _ H0.out).cell 1).trans rfl
        have PC := Lib.hid (put_put A n c x 2 l wr (by decide) HL.out (Ym.out _ (Zt.out _ H0.out)) (by omega) (by omega) hx)
        go_wp2_with fail
        refine PC.out.mono ?_
        rintro e w5 ⟨A5, c5, rfl, hO5, hb5⟩
        have O5 := Lib.hid hO5
        have H5 : Hid (Below (wVz.heap.size + 1) (wVz.alloc (.cells #[.int .i64 1, .int .i64 2, .int .i64 4, .int .i64 8] 3)) w5) := by
          have h := H0.out.trans (hb5.mono (by have := H0.out.size; simpa using this))
          exact h
        clear hO5 hb5
        have qb : w5.cell? ⟨wVz.heap.size, 1, none⟩ = some (.int .i64 2) := ((Kw.out _ H5.out).cell 1).trans rfl
        have G := Lib.hid (get_ok A5 (n + 2) c5 n 2 (l ++ le 2 x) w5 O5.out.1 O5.out.bytes (by omega) O5.out.2.1 (by decide) (by omega))
        rw [num_put l n 2 x HL.out, show ((x % 2 ^ (8 * 2) : Nat) : Int) = ((x : Int) % 65536) by simp only [Nat.reduceMul, Nat.reducePow]; omega] at G
        go_wp2_with fail
        refine G.out.mono ?_
        rintro e w6 ⟨rfl, hb6⟩
        have H6 : Hid (Below (wVz.heap.size + 1) (wVz.alloc (.cells #[.int .i64 1, .int .i64 2, .int .i64 4, .int .i64 8] 3)) w6) := by
          have h := H5.out.trans (hb6.mono (by have := H5.out.size; simpa using this))
          exact h
        have BY : Hid (Bytes w6 w6.heap.size A5 l) := by
          have h := (((O5.out.below hb6).take n (by omega))).bytes
          rw [List.take_append_of_le_length (by have := HL.out; omega), List.take_of_length_le (by have := HL.out; omega)] at h
          exact h
        clear hb6
        have hc5 : n + 2 ≤ c5 := O5.out.2.1
        have qc : w6.cell? ⟨wVz.heap.size, 1, none⟩ = some (.int .i64 2) := ((Kw.out _ H6.out).cell 1).trans rfl
        go_wp2_with fail
        refine (eq_any A5 n c5 A n c l l _ HL.out BY.out HL.out (Ym.out _ (Zt.out _ H6.out))).mono ?_
        rintro e w7 ⟨rfl, rfl⟩
        rw [show (l == l) = true by simp]
        go_wp2_with fail
        go_roundw
        case rel => exact ⟨by simp, H6.out⟩
        case measure => simp [intOf]
      · skip
        have qa : wr.cell? ⟨wVz.heap.size, 2, none⟩ = some (.int .i64 4) := ((Kw.out _ H0.out).cell 2).trans rfl
        have PC := Lib.hid (put_put A n c x 4 l wr (by decide) HL.out (Ym.out _ (Zt.out _ H0.out)) (by omega) (by omega) hx)
        go_wp2_with fail
        refine PC.out.mono ?_
        rintro e w5 ⟨A5, c5, rfl, hO5, hb5⟩
        have O5 := Lib.hid hO5
        have H5 : Hid (Below (wVz.heap.size + 1) (wVz.alloc (.cells #[.int .i64 1, .int .i64 2, .int .i64 4, .int .i64 8] 3)) w5) := by
          have h := H0.out.trans (hb5.mono (by have := H0.out.size; simpa using this))
          exact h
        clear hO5 hb5
        have qb : w5.cell? ⟨wVz.heap.size, 2, none⟩ = some (.int .i64 4) := ((Kw.out _ H5.out).cell 2).trans rfl
        have G := Lib.hid (get_ok A5 (n + 4) c5 n 4 (l ++ le 4 x) w5 O5.out.1 O5.out.bytes (by omega) O5.out.2.1 (by decide) (by omega))
        rw [num_put l n 4 x HL.out, show ((x % 2 ^ (8 * 4) : Nat) : Int) = ((x : Int) % 4294967296) by simp only [Nat.reduceMul, Nat.reducePow]; omega] at G
        go_wp2_with fail
        refine G.out.mono ?_
        rintro e w6 ⟨rfl, hb6⟩
        have H6 : Hid (Below (wVz.heap.size + 1) (wVz.alloc (.cells #[.int .i64 1, .int .i64 2, .int .i64 4, .int .i64 8] 3)) w6) := by
          have h := H5.out.trans (hb6.mono (by have := H5.out.size; simpa using this))
          exact h
        have BY : Hid (Bytes w6 w6.heap.size A5 l) := by
          have h := (((O5.out.below hb6).take n (by omega))).bytes
          rw [List.take_append_of_le_length (by have := HL.out; omega), List.take_of_length_le (by have := HL.out; omega)] at h
          exact h
        clear hb6
        have hc5 : n + 4 ≤ c5 := O5.out.2.1
        have qc : w6.cell? ⟨wVz.heap.size, 2, none⟩ = some (.int .i64 4) := ((Kw.out _ H6.out).cell 2).trans rfl
        go_wp2_with fail
        refine (eq_any A5 n c5 A n c l l _ HL.out BY.out HL.out (Ym.out _ (Zt.out _ H6.out))).mono ?_
        rintro e w7 ⟨rfl, rfl⟩
        rw [show (l == l) = true by simp]
        go_wp2_with fail
        go_roundw
        case rel => exact ⟨by simp, H6.out⟩
        case measure => simp [intOf]
      · skip
        have qa : wr.cell? ⟨wVz.heap.size, 3, none⟩ = some (.int .i64 8) := ((Kw.out _ H0.out).cell 3).trans rfl
        have PC := Lib.hid (put_put A n c x 8 l wr (by decide) HL.out (Ym.out _ (Zt.out _ H0.out)) (by omega) (by omega) hx)
        go_wp2_with fail
        refine PC.out.mono ?_
        rintro e w5 ⟨A5, c5, rfl, hO5, hb5⟩
        have O5 := Lib.hid hO5
        have H5 : Hid (Below (wVz.heap.size + 1) (wVz.alloc (.cells #[.int .i64 1, .int .i64 2, .int .i64 4, .int .i64 8] 3)) w5) := by
          have h := H0.out.trans (hb5.mono (by have := H0.out.size; simpa using this))
          exact h
        clear hO5 hb5
        have qb : w5.cell? ⟨wVz.heap.size, 3, none⟩ = some (.int .i64 8) := ((Kw.out _ H5.out).cell 3).trans rfl
        have G := Lib.hid (get_ok A5 (n + 8) c5 n 8 (l ++ le 8 x) w5 O5.out.1 O5.out.bytes (by omega) O5.out.2.1 (by decide) (by omega))
        rw [num_put l n 8 x HL.out, show ((x % 2 ^ (8 * 8) : Nat) : Int) = (x : Int) by simp only [Nat.reduceMul, Nat.reducePow]; omega] at G
        go_wp2_with fail
        refine G.out.mono ?_
        rintro e w6 ⟨rfl, hb6⟩
        have H6 : Hid (Below (wVz.heap.size + 1) (wVz.alloc (.cells #[.int .i64 1, .int .i64 2, .int .i64 4, .int .i64 8] 3)) w6) := by
          have h := H5.out.trans (hb6.mono (by have := H5.out.size; simpa using this))
          exact h
        have BY : Hid (Bytes w6 w6.heap.size A5 l) := by
          have h := (((O5.out.below hb6).take n (by omega))).bytes
          rw [List.take_append_of_le_length (by have := HL.out; omega), List.take_of_length_le (by have := HL.out; omega)] at h
          exact h
        clear hb6
        have hc5 : n + 8 ≤ c5 := O5.out.2.1
        have qc : w6.cell? ⟨wVz.heap.size, 3, none⟩ = some (.int .i64 8) := ((Kw.out _ H6.out).cell 3).trans rfl
        go_wp2_with fail
        refine (eq_any A5 n c5 A n c l l _ HL.out BY.out HL.out (Ym.out _ (Zt.out _ H6.out))).mono ?_
        rintro e w7 ⟨rfl, rfl⟩
        rw [show (l == l) = true by simp]
        go_wp2_with fail
        go_roundw
        case rel => exact ⟨by simp, H6.out⟩
        case measure => simp [intOf]
      · skip
        go_wp2_with fail
        refine (works_any _).mono ?_
        rintro e w6 ⟨rfl, hb6⟩
        go_wp2_with fail
        go_ret
        have h4 := Zt.out _ H0.out
        exact ⟨rfl, h4.trans (hb6.mono h4.size)⟩
  · skip
    have Z0 : Hid (Below w.heap.size w (w.alloc (.cells #[.int .u32 t, .int .u32 hd, .int .u64 wt, .int .u32 m, .int .u32 r, .int .u32 lv, .int .u32 gn, .int .u32 hb, .int .u32 nx, .int .u64 ds, .int .u32 v] 46))) := by
      have h : Below w.heap.size w (w.alloc (.cells #[.int .u32 t, .int .u32 hd, .int .u64 wt, .int .u32 m, .int .u32 r, .int .u32 lv, .int .u32 gn, .int .u32 hb, .int .u32 nx, .int .u64 ds, .int .u32 v] 46)) := (Below.refl _ _).alloc (Nat.le_refl _) _
      exact h
    have K0 : Hid (Blk (w.alloc (.cells #[.int .u32 t, .int .u32 hd, .int .u64 wt, .int .u32 m, .int .u32 r, .int .u32 lv, .int .u32 gn, .int .u32 hb, .int .u32 nx, .int .u64 ds, .int .u32 v] 46)) w.heap.size 46 #[.int .u32 t, .int .u32 hd, .int .u64 wt, .int .u32 m, .int .u32 r, .int .u32 lv, .int .u32 gn, .int .u32 hb, .int .u32 nx, .int .u64 ds, .int .u32 v]) := Lib.hid (Blk.new _ _ _)
    go_enter Try.func9, Try.ntmps9
    have qs0_0_0 : (w.alloc (.cells #[.int .u32 t, .int .u32 hd, .int .u64 wt, .int .u32 m, .int .u32 r, .int .u32 lv, .int .u32 gn, .int .u32 hb, .int .u32 nx, .int .u64 ds, .int .u32 v] 46)).cell? ⟨w.heap.size, 0, none⟩ = some (.int .u32 t) := (K0.out.cell 0).trans rfl
    have qs0_0_1 : (w.alloc (.cells #[.int .u32 t, .int .u32 hd, .int .u64 wt, .int .u32 m, .int .u32 r, .int .u32 lv, .int .u32 gn, .int .u32 hb, .int .u32 nx, .int .u64 ds, .int .u32 v] 46)).cell? ⟨w.heap.size, 1, none⟩ = some (.int .u32 hd) := (K0.out.cell 1).trans rfl
    have qs0_0_2 : (w.alloc (.cells #[.int .u32 t, .int .u32 hd, .int .u64 wt, .int .u32 m, .int .u32 r, .int .u32 lv, .int .u32 gn, .int .u32 hb, .int .u32 nx, .int .u64 ds, .int .u32 v] 46)).cell? ⟨w.heap.size, 2, none⟩ = some (.int .u64 wt) := (K0.out.cell 2).trans rfl
    have qs0_0_3 : (w.alloc (.cells #[.int .u32 t, .int .u32 hd, .int .u64 wt, .int .u32 m, .int .u32 r, .int .u32 lv, .int .u32 gn, .int .u32 hb, .int .u32 nx, .int .u64 ds, .int .u32 v] 46)).cell? ⟨w.heap.size, 3, none⟩ = some (.int .u32 m) := (K0.out.cell 3).trans rfl
    go_wp2_with fail
    refine (edge_any t hd wt m _ ht hhd hwt hm).mono ?_
    rintro e a1 ⟨A1, c1, rfl, hO, hbl⟩
    have O1 := Lib.hid hO
    have X1 := Lib.hid hbl
    clear hO hbl
    go_wp2_with fail
    refine (readedge_back A1 c1 t hd wt m _ ht hhd hwt hm O1.out.bytes O1.out.1 O1.out.2.1).mono ?_
    rintro e b1 ⟨rfl, hbl⟩
    have T1 : Hid (Below w.heap.size w b1) := by
      have h1 := Z0.out.trans (X1.out.mono Z0.out.size)
      have h := h1.trans (hbl.mono h1.size)
      exact h
    have K0s1 : Hid (Blk (b1.alloc (.cells #[.int .u32 t, .int .u32 hd, .int .u64 wt, .int .u32 m] 40)) w.heap.size 46 #[.int .u32 t, .int .u32 hd, .int .u64 wt, .int .u32 m, .int .u32 r, .int .u32 lv, .int .u32 gn, .int .u32 hb, .int .u32 nx, .int .u64 ds, .int .u32 v]) := by
      have h1 := K0.out.below X1.out K0.out.lt
      have h := (h1.below hbl h1.lt).alloc (.cells #[.int .u32 t, .int .u32 hd, .int .u64 wt, .int .u32 m] 40)
      exact h
    have K1s1 : Hid (Blk (b1.alloc (.cells #[.int .u32 t, .int .u32 hd, .int .u64 wt, .int .u32 m] 40)) b1.heap.size 40 #[.int .u32 t, .int .u32 hd, .int .u64 wt, .int .u32 m]) := Lib.hid (Blk.new _ _ _)
    have Z1 : Hid (Below w.heap.size w (b1.alloc (.cells #[.int .u32 t, .int .u32 hd, .int .u64 wt, .int .u32 m] 40))) := by
      have h := T1.out.alloc T1.out.size (.cells #[.int .u32 t, .int .u32 hd, .int .u64 wt, .int .u32 m] 40)
      exact h
    clear hbl
    have qs1_0_4 : (b1.alloc (.cells #[.int .u32 t, .int .u32 hd, .int .u64 wt, .int .u32 m] 40)).cell? ⟨w.heap.size, 4, none⟩ = some (.int .u32 r) := (K0s1.out.cell 4).trans rfl
    have qs1_0_5 : (b1.alloc (.cells #[.int .u32 t, .int .u32 hd, .int .u64 wt, .int .u32 m] 40)).cell? ⟨w.heap.size, 5, none⟩ = some (.int .u32 lv) := (K0s1.out.cell 5).trans rfl
    have qs1_0_6 : (b1.alloc (.cells #[.int .u32 t, .int .u32 hd, .int .u64 wt, .int .u32 m] 40)).cell? ⟨w.heap.size, 6, none⟩ = some (.int .u32 gn) := (K0s1.out.cell 6).trans rfl
    go_wp2_with fail
    refine (vert_any r lv gn _ hr hlv hgn).mono ?_
    rintro e a2 ⟨A2, c2, rfl, hO, hbl⟩
    have O2 := Lib.hid hO
    have X2 := Lib.hid hbl
    clear hO hbl
    go_wp2_with fail
    refine (readvert_back A2 c2 r lv gn _ hr hlv hgn O2.out.bytes O2.out.1 O2.out.2.1).mono ?_
    rintro e b2 ⟨rfl, hbl⟩
    have T2 : Hid (Below w.heap.size w b2) := by
      have h1 := Z1.out.trans (X2.out.mono Z1.out.size)
      have h := h1.trans (hbl.mono h1.size)
      exact h
    have K0s2 : Hid (Blk (b2.alloc (.cells #[.int .u32 r, .int .u32 lv, .int .u32 gn] 42)) w.heap.size 46 #[.int .u32 t, .int .u32 hd, .int .u64 wt, .int .u32 m, .int .u32 r, .int .u32 lv, .int .u32 gn, .int .u32 hb, .int .u32 nx, .int .u64 ds, .int .u32 v]) := by
      have h1 := K0s1.out.below X2.out K0s1.out.lt
      have h := (h1.below hbl h1.lt).alloc (.cells #[.int .u32 r, .int .u32 lv, .int .u32 gn] 42)
      exact h
    have K1s2 : Hid (Blk (b2.alloc (.cells #[.int .u32 r, .int .u32 lv, .int .u32 gn] 42)) b1.heap.size 40 #[.int .u32 t, .int .u32 hd, .int .u64 wt, .int .u32 m]) := by
      have h1 := K1s1.out.below X2.out K1s1.out.lt
      have h := (h1.below hbl h1.lt).alloc (.cells #[.int .u32 r, .int .u32 lv, .int .u32 gn] 42)
      exact h
    have K2s2 : Hid (Blk (b2.alloc (.cells #[.int .u32 r, .int .u32 lv, .int .u32 gn] 42)) b2.heap.size 42 #[.int .u32 r, .int .u32 lv, .int .u32 gn]) := Lib.hid (Blk.new _ _ _)
    have Z2 : Hid (Below w.heap.size w (b2.alloc (.cells #[.int .u32 r, .int .u32 lv, .int .u32 gn] 42))) := by
      have h := T2.out.alloc T2.out.size (.cells #[.int .u32 r, .int .u32 lv, .int .u32 gn] 42)
      exact h
    have V2 : Hid (b1.heap.size < b2.heap.size) := by
      have h1 := K1s1.out.below X2.out K1s1.out.lt
      have h := (h1.below hbl h1.lt).lt
      exact h
    clear hbl
    have qs2_0_7 : (b2.alloc (.cells #[.int .u32 r, .int .u32 lv, .int .u32 gn] 42)).cell? ⟨w.heap.size, 7, none⟩ = some (.int .u32 hb) := (K0s2.out.cell 7).trans rfl
    have qs2_0_8 : (b2.alloc (.cells #[.int .u32 r, .int .u32 lv, .int .u32 gn] 42)).cell? ⟨w.heap.size, 8, none⟩ = some (.int .u32 nx) := (K0s2.out.cell 8).trans rfl
    have qs2_0_9 : (b2.alloc (.cells #[.int .u32 r, .int .u32 lv, .int .u32 gn] 42)).cell? ⟨w.heap.size, 9, none⟩ = some (.int .u64 ds) := (K0s2.out.cell 9).trans rfl
    have qs2_0_10 : (b2.alloc (.cells #[.int .u32 r, .int .u32 lv, .int .u32 gn] 42)).cell? ⟨w.heap.size, 10, none⟩ = some (.int .u32 v) := (K0s2.out.cell 10).trans rfl
    go_wp2_with fail
    refine (label_any v hb nx ds _ hv hhb hnx hds).mono ?_
    rintro e a3 ⟨A3, c3, rfl, hO, hbl⟩
    have O3 := Lib.hid hO
    have X3 := Lib.hid hbl
    clear hO hbl
    go_wp2_with fail
    refine (readlabel_back A3 c3 v hb nx ds _ hv hhb hnx hds O3.out.bytes O3.out.1 O3.out.2.1).mono ?_
    rintro e b3 ⟨rfl, hbl⟩
    have T3 : Hid (Below w.heap.size w b3) := by
      have h1 := Z2.out.trans (X3.out.mono Z2.out.size)
      have h := h1.trans (hbl.mono h1.size)
      exact h
    have K0s3 : Hid (Blk (b3.alloc (.cells #[.int .u32 hb, .int .u32 nx, .int .u64 ds] 44)) w.heap.size 46 #[.int .u32 t, .int .u32 hd, .int .u64 wt, .int .u32 m, .int .u32 r, .int .u32 lv, .int .u32 gn, .int .u32 hb, .int .u32 nx, .int .u64 ds, .int .u32 v]) := by
      have h1 := K0s2.out.below X3.out K0s2.out.lt
      have h := (h1.below hbl h1.lt).alloc (.cells #[.int .u32 hb, .int .u32 nx, .int .u64 ds] 44)
      exact h
    have K1s3 : Hid (Blk (b3.alloc (.cells #[.int .u32 hb, .int .u32 nx, .int .u64 ds] 44)) b1.heap.size 40 #[.int .u32 t, .int .u32 hd, .int .u64 wt, .int .u32 m]) := by
      have h1 := K1s2.out.below X3.out K1s2.out.lt
      have h := (h1.below hbl h1.lt).alloc (.cells #[.int .u32 hb, .int .u32 nx, .int .u64 ds] 44)
      exact h
    have K2s3 : Hid (Blk (b3.alloc (.cells #[.int .u32 hb, .int .u32 nx, .int .u64 ds] 44)) b2.heap.size 42 #[.int .u32 r, .int .u32 lv, .int .u32 gn]) := by
      have h1 := K2s2.out.below X3.out K2s2.out.lt
      have h := (h1.below hbl h1.lt).alloc (.cells #[.int .u32 hb, .int .u32 nx, .int .u64 ds] 44)
      exact h
    have K3s3 : Hid (Blk (b3.alloc (.cells #[.int .u32 hb, .int .u32 nx, .int .u64 ds] 44)) b3.heap.size 44 #[.int .u32 hb, .int .u32 nx, .int .u64 ds]) := Lib.hid (Blk.new _ _ _)
    have Z3 : Hid (Below w.heap.size w (b3.alloc (.cells #[.int .u32 hb, .int .u32 nx, .int .u64 ds] 44))) := by
      have h := T3.out.alloc T3.out.size (.cells #[.int .u32 hb, .int .u32 nx, .int .u64 ds] 44)
      exact h
    have V3 : Hid (b2.heap.size < b3.heap.size) := by
      have h1 := K2s2.out.below X3.out K2s2.out.lt
      have h := (h1.below hbl h1.lt).lt
      exact h
    clear hbl
    have qs3_0_0 : (b3.alloc (.cells #[.int .u32 hb, .int .u32 nx, .int .u64 ds] 44)).cell? ⟨w.heap.size, 0, none⟩ = some (.int .u32 t) := (K0s3.out.cell 0).trans rfl
    have qs3_0_1 : (b3.alloc (.cells #[.int .u32 hb, .int .u32 nx, .int .u64 ds] 44)).cell? ⟨w.heap.size, 1, none⟩ = some (.int .u32 hd) := (K0s3.out.cell 1).trans rfl
    have qs3_0_2 : (b3.alloc (.cells #[.int .u32 hb, .int .u32 nx, .int .u64 ds] 44)).cell? ⟨w.heap.size, 2, none⟩ = some (.int .u64 wt) := (K0s3.out.cell 2).trans rfl
    have qs3_0_3 : (b3.alloc (.cells #[.int .u32 hb, .int .u32 nx, .int .u64 ds] 44)).cell? ⟨w.heap.size, 3, none⟩ = some (.int .u32 m) := (K0s3.out.cell 3).trans rfl
    have qs3_0_4 : (b3.alloc (.cells #[.int .u32 hb, .int .u32 nx, .int .u64 ds] 44)).cell? ⟨w.heap.size, 4, none⟩ = some (.int .u32 r) := (K0s3.out.cell 4).trans rfl
    have qs3_0_5 : (b3.alloc (.cells #[.int .u32 hb, .int .u32 nx, .int .u64 ds] 44)).cell? ⟨w.heap.size, 5, none⟩ = some (.int .u32 lv) := (K0s3.out.cell 5).trans rfl
    have qs3_0_6 : (b3.alloc (.cells #[.int .u32 hb, .int .u32 nx, .int .u64 ds] 44)).cell? ⟨w.heap.size, 6, none⟩ = some (.int .u32 gn) := (K0s3.out.cell 6).trans rfl
    have qs3_0_7 : (b3.alloc (.cells #[.int .u32 hb, .int .u32 nx, .int .u64 ds] 44)).cell? ⟨w.heap.size, 7, none⟩ = some (.int .u32 hb) := (K0s3.out.cell 7).trans rfl
    have qs3_0_8 : (b3.alloc (.cells #[.int .u32 hb, .int .u32 nx, .int .u64 ds] 44)).cell? ⟨w.heap.size, 8, none⟩ = some (.int .u32 nx) := (K0s3.out.cell 8).trans rfl
    have qs3_0_9 : (b3.alloc (.cells #[.int .u32 hb, .int .u32 nx, .int .u64 ds] 44)).cell? ⟨w.heap.size, 9, none⟩ = some (.int .u64 ds) := (K0s3.out.cell 9).trans rfl
    have qs3_0_10 : (b3.alloc (.cells #[.int .u32 hb, .int .u32 nx, .int .u64 ds] 44)).cell? ⟨w.heap.size, 10, none⟩ = some (.int .u32 v) := (K0s3.out.cell 10).trans rfl
    have qs3_1_0 : (b3.alloc (.cells #[.int .u32 hb, .int .u32 nx, .int .u64 ds] 44)).cell? ⟨b1.heap.size, 0, none⟩ = some (.int .u32 t) := (K1s3.out.cell 0).trans rfl
    have qs3_1_1 : (b3.alloc (.cells #[.int .u32 hb, .int .u32 nx, .int .u64 ds] 44)).cell? ⟨b1.heap.size, 1, none⟩ = some (.int .u32 hd) := (K1s3.out.cell 1).trans rfl
    have qs3_1_2 : (b3.alloc (.cells #[.int .u32 hb, .int .u32 nx, .int .u64 ds] 44)).cell? ⟨b1.heap.size, 2, none⟩ = some (.int .u64 wt) := (K1s3.out.cell 2).trans rfl
    have qs3_1_3 : (b3.alloc (.cells #[.int .u32 hb, .int .u32 nx, .int .u64 ds] 44)).cell? ⟨b1.heap.size, 3, none⟩ = some (.int .u32 m) := (K1s3.out.cell 3).trans rfl
    have qs3_2_0 : (b3.alloc (.cells #[.int .u32 hb, .int .u32 nx, .int .u64 ds] 44)).cell? ⟨b2.heap.size, 0, none⟩ = some (.int .u32 r) := (K2s3.out.cell 0).trans rfl
    have qs3_2_1 : (b3.alloc (.cells #[.int .u32 hb, .int .u32 nx, .int .u64 ds] 44)).cell? ⟨b2.heap.size, 1, none⟩ = some (.int .u32 lv) := (K2s3.out.cell 1).trans rfl
    have qs3_2_2 : (b3.alloc (.cells #[.int .u32 hb, .int .u32 nx, .int .u64 ds] 44)).cell? ⟨b2.heap.size, 2, none⟩ = some (.int .u32 gn) := (K2s3.out.cell 2).trans rfl
    have qs3_3_0 : (b3.alloc (.cells #[.int .u32 hb, .int .u32 nx, .int .u64 ds] 44)).cell? ⟨b3.heap.size, 0, none⟩ = some (.int .u32 hb) := (K3s3.out.cell 0).trans rfl
    have qs3_3_1 : (b3.alloc (.cells #[.int .u32 hb, .int .u32 nx, .int .u64 ds] 44)).cell? ⟨b3.heap.size, 1, none⟩ = some (.int .u32 nx) := (K3s3.out.cell 1).trans rfl
    have qs3_3_2 : (b3.alloc (.cells #[.int .u32 hb, .int .u32 nx, .int .u64 ds] 44)).cell? ⟨b3.heap.size, 2, none⟩ = some (.int .u64 ds) := (K3s3.out.cell 2).trans rfl
    have Zt : Hid (∀ wr, Below ((b3.heap.size + 1) + 1) ((b3.alloc (.cells #[.int .u32 hb, .int .u32 nx, .int .u64 ds] 44)).alloc (.cells #[.int .i64 1, .int .i64 2, .int .i64 4, .int .i64 8] 3)) wr → Below w.heap.size w wr) := by
      have h : ∀ wr, Below ((b3.heap.size + 1) + 1) ((b3.alloc (.cells #[.int .u32 hb, .int .u32 nx, .int .u64 ds] 44)).alloc (.cells #[.int .i64 1, .int .i64 2, .int .i64 4, .int .i64 8] 3)) wr → Below w.heap.size w wr := fun wr h => (Z3.out.alloc Z3.out.size _).trans (h.mono (Nat.le_trans Z3.out.size (by simp)))
      exact h
    have Ym : Hid (∀ wr, Below w.heap.size w wr → Bytes wr wr.heap.size A l) := by
      have h : ∀ wr, Below w.heap.size w wr → Bytes wr wr.heap.size A l := fun wr h => (HB.out.below h).more h.size
      exact h
    have Kw : Hid (∀ wr, Below ((b3.heap.size + 1) + 1) ((b3.alloc (.cells #[.int .u32 hb, .int .u32 nx, .int .u64 ds] 44)).alloc (.cells #[.int .i64 1, .int .i64 2, .int .i64 4, .int .i64 8] 3)) wr → Blk wr (b3.heap.size + 1) 3 #[.int .i64 1, .int .i64 2, .int .i64 4, .int .i64 8]) := by
      have h : ∀ wr, Below ((b3.heap.size + 1) + 1) ((b3.alloc (.cells #[.int .u32 hb, .int .u32 nx, .int .u64 ds] 44)).alloc (.cells #[.int .i64 1, .int .i64 2, .int .i64 4, .int .i64 8] 3)) wr → Blk wr (b3.heap.size + 1) 3 #[.int .i64 1, .int .i64 2, .int .i64 4, .int .i64 8] := fun wr h => by
        have h1 := Blk.new (b3.alloc (.cells #[.int .u32 hb, .int .u32 nx, .int .u64 ds] 44)) 3 #[.int .i64 1, .int .i64 2, .int .i64 4, .int .i64 8]
        rw [show (b3.alloc (.cells #[.int .u32 hb, .int .u32 nx, .int .u64 ds] 44)).heap.size = (b3.heap.size + 1) by simp] at h1
        exact h1.below h (by omega)
      exact h
    go_wp2_with fail
    go_loopw [15] (fun i wr => (i = .int .i64 0 ∨ i = .int .i64 1 ∨ i = .int .i64 2 ∨ i = .int .i64 3 ∨ i = .int .i64 4) ∧ Below ((b3.heap.size + 1) + 1) ((b3.alloc (.cells #[.int .u32 hb, .int .u32 nx, .int .u64 ds] 44)).alloc (.cells #[.int .i64 1, .int .i64 2, .int .i64 4, .int .i64 8] 3)) wr) (fun i _ => 4 - (intOf i).toNat)
    case atStart => exact ⟨by simp, Below.refl _ _⟩
    case round =>
      obtain ⟨hi, hbl⟩ := hrel
      have H0 := Lib.hid hbl
      clear hbl
      rcases hi with rfl | rfl | rfl | rfl | rfl
      · skip
        have qa : wr.cell? ⟨(b3.heap.size + 1), 0, none⟩ = some (.int .i64 1) := ((Kw.out _ H0.out).cell 0).trans rfl
        have PC := Lib.hid (put_put A n c x 1 l wr (by decide) HL.out (Ym.out _ (Zt.out _ H0.out)) (by omega) (by omega) hx)
        go_wp2_with fail
        refine PC.out.mono ?_
        rintro e w5 ⟨A5, c5, rfl, hO5, hb5⟩
        have O5 := Lib.hid hO5
        have H5 : Hid (Below ((b3.heap.size + 1) + 1) ((b3.alloc (.cells #[.int .u32 hb, .int .u32 nx, .int .u64 ds] 44)).alloc (.cells #[.int .i64 1, .int .i64 2, .int .i64 4, .int .i64 8] 3)) w5) := by
          have h := H0.out.trans (hb5.mono (by have := H0.out.size; simpa using this))
          exact h
        clear hO5 hb5
        have qb : w5.cell? ⟨(b3.heap.size + 1), 0, none⟩ = some (.int .i64 1) := ((Kw.out _ H5.out).cell 0).trans rfl
        have G := Lib.hid (get_ok A5 (n + 1) c5 n 1 (l ++ le 1 x) w5 O5.out.1 O5.out.bytes (by omega) O5.out.2.1 (by decide) (by omega))
        rw [num_put l n 1 x HL.out, show ((x % 2 ^ (8 * 1) : Nat) : Int) = ((x : Int) % 256) by simp only [Nat.reduceMul, Nat.reducePow]; omega] at G
        go_wp2_with fail
        refine G.out.mono ?_
        rintro e w6 ⟨rfl, hb6⟩
        have H6 : Hid (Below ((b3.heap.size + 1) + 1) ((b3.alloc (.cells #[.int .u32 hb, .int .u32 nx, .int .u64 ds] 44)).alloc (.cells #[.int .i64 1, .int .i64 2, .int .i64 4, .int .i64 8] 3)) w6) := by
          have h := H5.out.trans (hb6.mono (by have := H5.out.size; simpa using this))
          exact h
        have BY : Hid (Bytes w6 w6.heap.size A5 l) := by
          have h := (((O5.out.below hb6).take n (by omega))).bytes
          rw [List.take_append_of_le_length (by have := HL.out; omega), List.take_of_length_le (by have := HL.out; omega)] at h
          exact h
        clear hb6
        have hc5 : n + 1 ≤ c5 := O5.out.2.1
        have qc : w6.cell? ⟨(b3.heap.size + 1), 0, none⟩ = some (.int .i64 1) := ((Kw.out _ H6.out).cell 0).trans rfl
        go_wp2_with fail
        refine (eq_any A5 n c5 A n c l l _ HL.out BY.out HL.out (Ym.out _ (Zt.out _ H6.out))).mono ?_
        rintro e w7 ⟨rfl, rfl⟩
        rw [show (l == l) = true by simp]
        go_wp2_with fail
        go_roundw
        case rel => exact ⟨by simp, H6.out⟩
        case measure => simp [intOf]
      · skip
        have qa : wr.cell? ⟨(b3.heap.size + 1), 1, none⟩ = some (.int .i64 2) := ((Kw.out _ H0.out).cell 1).trans rfl
        have PC := Lib.hid (put_put A n c x 2 l wr (by decide) HL.out (Ym.out _ (Zt.out _ H0.out)) (by omega) (by omega) hx)
        go_wp2_with fail
        refine PC.out.mono ?_
        rintro e w5 ⟨A5, c5, rfl, hO5, hb5⟩
        have O5 := Lib.hid hO5
        have H5 : Hid (Below ((b3.heap.size + 1) + 1) ((b3.alloc (.cells #[.int .u32 hb, .int .u32 nx, .int .u64 ds] 44)).alloc (.cells #[.int .i64 1, .int .i64 2, .int .i64 4, .int .i64 8] 3)) w5) := by
          have h := H0.out.trans (hb5.mono (by have := H0.out.size; simpa using this))
          exact h
        clear hO5 hb5
        have qb : w5.cell? ⟨(b3.heap.size + 1), 1, none⟩ = some (.int .i64 2) := ((Kw.out _ H5.out).cell 1).trans rfl
        have G := Lib.hid (get_ok A5 (n + 2) c5 n 2 (l ++ le 2 x) w5 O5.out.1 O5.out.bytes (by omega) O5.out.2.1 (by decide) (by omega))
        rw [num_put l n 2 x HL.out, show ((x % 2 ^ (8 * 2) : Nat) : Int) = ((x : Int) % 65536) by simp only [Nat.reduceMul, Nat.reducePow]; omega] at G
        go_wp2_with fail
        refine G.out.mono ?_
        rintro e w6 ⟨rfl, hb6⟩
        have H6 : Hid (Below ((b3.heap.size + 1) + 1) ((b3.alloc (.cells #[.int .u32 hb, .int .u32 nx, .int .u64 ds] 44)).alloc (.cells #[.int .i64 1, .int .i64 2, .int .i64 4, .int .i64 8] 3)) w6) := by
          have h := H5.out.trans (hb6.mono (by have := H5.out.size; simpa using this))
          exact h
        have BY : Hid (Bytes w6 w6.heap.size A5 l) := by
          have h := (((O5.out.below hb6).take n (by omega))).bytes
          rw [List.take_append_of_le_length (by have := HL.out; omega), List.take_of_length_le (by have := HL.out; omega)] at h
          exact h
        clear hb6
        have hc5 : n + 2 ≤ c5 := O5.out.2.1
        have qc : w6.cell? ⟨(b3.heap.size + 1), 1, none⟩ = some (.int .i64 2) := ((Kw.out _ H6.out).cell 1).trans rfl
        go_wp2_with fail
        refine (eq_any A5 n c5 A n c l l _ HL.out BY.out HL.out (Ym.out _ (Zt.out _ H6.out))).mono ?_
        rintro e w7 ⟨rfl, rfl⟩
        rw [show (l == l) = true by simp]
        go_wp2_with fail
        go_roundw
        case rel => exact ⟨by simp, H6.out⟩
        case measure => simp [intOf]
      · skip
        have qa : wr.cell? ⟨(b3.heap.size + 1), 2, none⟩ = some (.int .i64 4) := ((Kw.out _ H0.out).cell 2).trans rfl
        have PC := Lib.hid (put_put A n c x 4 l wr (by decide) HL.out (Ym.out _ (Zt.out _ H0.out)) (by omega) (by omega) hx)
        go_wp2_with fail
        refine PC.out.mono ?_
        rintro e w5 ⟨A5, c5, rfl, hO5, hb5⟩
        have O5 := Lib.hid hO5
        have H5 : Hid (Below ((b3.heap.size + 1) + 1) ((b3.alloc (.cells #[.int .u32 hb, .int .u32 nx, .int .u64 ds] 44)).alloc (.cells #[.int .i64 1, .int .i64 2, .int .i64 4, .int .i64 8] 3)) w5) := by
          have h := H0.out.trans (hb5.mono (by have := H0.out.size; simpa using this))
          exact h
        clear hO5 hb5
        have qb : w5.cell? ⟨(b3.heap.size + 1), 2, none⟩ = some (.int .i64 4) := ((Kw.out _ H5.out).cell 2).trans rfl
        have G := Lib.hid (get_ok A5 (n + 4) c5 n 4 (l ++ le 4 x) w5 O5.out.1 O5.out.bytes (by omega) O5.out.2.1 (by decide) (by omega))
        rw [num_put l n 4 x HL.out, show ((x % 2 ^ (8 * 4) : Nat) : Int) = ((x : Int) % 4294967296) by simp only [Nat.reduceMul, Nat.reducePow]; omega] at G
        go_wp2_with fail
        refine G.out.mono ?_
        rintro e w6 ⟨rfl, hb6⟩
        have H6 : Hid (Below ((b3.heap.size + 1) + 1) ((b3.alloc (.cells #[.int .u32 hb, .int .u32 nx, .int .u64 ds] 44)).alloc (.cells #[.int .i64 1, .int .i64 2, .int .i64 4, .int .i64 8] 3)) w6) := by
          have h := H5.out.trans (hb6.mono (by have := H5.out.size; simpa using this))
          exact h
        have BY : Hid (Bytes w6 w6.heap.size A5 l) := by
          have h := (((O5.out.below hb6).take n (by omega))).bytes
          rw [List.take_append_of_le_length (by have := HL.out; omega), List.take_of_length_le (by have := HL.out; omega)] at h
          exact h
        clear hb6
        have hc5 : n + 4 ≤ c5 := O5.out.2.1
        have qc : w6.cell? ⟨(b3.heap.size + 1), 2, none⟩ = some (.int .i64 4) := ((Kw.out _ H6.out).cell 2).trans rfl
        go_wp2_with fail
        refine (eq_any A5 n c5 A n c l l _ HL.out BY.out HL.out (Ym.out _ (Zt.out _ H6.out))).mono ?_
        rintro e w7 ⟨rfl, rfl⟩
        rw [show (l == l) = true by simp]
        go_wp2_with fail
        go_roundw
        case rel => exact ⟨by simp, H6.out⟩
        case measure => simp [intOf]
      · skip
        have qa : wr.cell? ⟨(b3.heap.size + 1), 3, none⟩ = some (.int .i64 8) := ((Kw.out _ H0.out).cell 3).trans rfl
        have PC := Lib.hid (put_put A n c x 8 l wr (by decide) HL.out (Ym.out _ (Zt.out _ H0.out)) (by omega) (by omega) hx)
        go_wp2_with fail
        refine PC.out.mono ?_
        rintro e w5 ⟨A5, c5, rfl, hO5, hb5⟩
        have O5 := Lib.hid hO5
        have H5 : Hid (Below ((b3.heap.size + 1) + 1) ((b3.alloc (.cells #[.int .u32 hb, .int .u32 nx, .int .u64 ds] 44)).alloc (.cells #[.int .i64 1, .int .i64 2, .int .i64 4, .int .i64 8] 3)) w5) := by
          have h := H0.out.trans (hb5.mono (by have := H0.out.size; simpa using this))
          exact h
        clear hO5 hb5
        have qb : w5.cell? ⟨(b3.heap.size + 1), 3, none⟩ = some (.int .i64 8) := ((Kw.out _ H5.out).cell 3).trans rfl
        have G := Lib.hid (get_ok A5 (n + 8) c5 n 8 (l ++ le 8 x) w5 O5.out.1 O5.out.bytes (by omega) O5.out.2.1 (by decide) (by omega))
        rw [num_put l n 8 x HL.out, show ((x % 2 ^ (8 * 8) : Nat) : Int) = (x : Int) by simp only [Nat.reduceMul, Nat.reducePow]; omega] at G
        go_wp2_with fail
        refine G.out.mono ?_
        rintro e w6 ⟨rfl, hb6⟩
        have H6 : Hid (Below ((b3.heap.size + 1) + 1) ((b3.alloc (.cells #[.int .u32 hb, .int .u32 nx, .int .u64 ds] 44)).alloc (.cells #[.int .i64 1, .int .i64 2, .int .i64 4, .int .i64 8] 3)) w6) := by
          have h := H5.out.trans (hb6.mono (by have := H5.out.size; simpa using this))
          exact h
        have BY : Hid (Bytes w6 w6.heap.size A5 l) := by
          have h := (((O5.out.below hb6).take n (by omega))).bytes
          rw [List.take_append_of_le_length (by have := HL.out; omega), List.take_of_length_le (by have := HL.out; omega)] at h
          exact h
        clear hb6
        have hc5 : n + 8 ≤ c5 := O5.out.2.1
        have qc : w6.cell? ⟨(b3.heap.size + 1), 3, none⟩ = some (.int .i64 8) := ((Kw.out _ H6.out).cell 3).trans rfl
        go_wp2_with fail
        refine (eq_any A5 n c5 A n c l l _ HL.out BY.out HL.out (Ym.out _ (Zt.out _ H6.out))).mono ?_
        rintro e w7 ⟨rfl, rfl⟩
        rw [show (l == l) = true by simp]
        go_wp2_with fail
        go_roundw
        case rel => exact ⟨by simp, H6.out⟩
        case measure => simp [intOf]
      · skip
        go_wp2_with fail
        refine (works_any _).mono ?_
        rintro e w6 ⟨rfl, hb6⟩
        go_wp2_with fail
        go_ret
        have h4 := Zt.out _ H0.out
        exact ⟨rfl, h4.trans (hb6.mono h4.size)⟩
end Go.Proofs.Ytchfkelafghbdaa
