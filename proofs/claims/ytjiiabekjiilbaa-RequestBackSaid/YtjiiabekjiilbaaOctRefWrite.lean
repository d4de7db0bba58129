/- What the reference's writers answer: the same bytes as those of package octet. -/
import Derived.Test.YtjiiabekjiilbaaOctRefPut
import Derived.Test.YtjiiabekjiilbaaOctWrite
set_option linter.unusedSimpArgs false
set_option linter.unusedVariables false
namespace Go.Proofs.Ytjiiabekjiilbaa
open Go.RowKit Mp

theorem refput_put (A : Option Addr) (n c x k : Nat) (l : List UInt8) (w : World) (hk : Sz (k : Int)) (hl : l.length = n) (hb : Bytes w w.heap.size A l) (hn : n ≤ 536870912) (hx : x ≤ 18446744073709551615) :
    Calls Try.prog 34 #[.slice A n c, .int .u64 x, .int .i64 k] w fun e w' => ∃ A' c', e = .returned (.slice A' (n + k) c') ∧ OwnB w' w.heap.size 5 A' (n + k) c' (l ++ le k x) ∧ Below w.heap.size w w' :=
  (refput_any A n c x k l w hl hb hn hx).mono fun e w' ⟨A', m, c', h1, h2, h3⟩ => by
    rw [putL_yes l x hk] at h2
    have hm : m = n + k := by rw [← h2.1, List.length_append, le_length, hl]
    subst hm
    exact ⟨A', c', h1, h2, h3⟩

set_option maxRecDepth 100000 in
set_option maxHeartbeats 1600000 in
theorem refedge_any (t hd wt m : Nat) (w : World) (ht : t ≤ 4294967295) (hhd : hd ≤ 4294967295) (hwt : wt ≤ 18446744073709551615) (hm : m ≤ 4294967295) :
    Calls Try.prog 36 #[.agg #[.int .u32 t, .int .u32 hd, .int .u64 wt, .int .u32 m]] w fun e w' => ∃ A' c', e = .returned (.slice A' 20 c') ∧ OwnB w' w.heap.size 5 A' 20 c' (edgeL t hd wt m) ∧ Below w.heap.size w w' := by
  have HE : Hid (edgeL t hd wt m = le 4 t ++ le 4 hd ++ le 8 wt ++ le 4 m) := rfl
  generalize edgeL t hd wt m = LL at HE
  have Z0 : Hid (Below w.heap.size w (w.alloc (.cells #[.int .u32 t, .int .u32 hd, .int .u64 wt, .int .u32 m] 71))) := by
    have h : Below w.heap.size w (w.alloc (.cells #[.int .u32 t, .int .u32 hd, .int .u64 wt, .int .u32 m] 71)) := (Below.refl _ _).alloc (Nat.le_refl _) _
    exact h
  have K0 : Hid (Blk (w.alloc (.cells #[.int .u32 t, .int .u32 hd, .int .u64 wt, .int .u32 m] 71)) w.heap.size 71 #[.int .u32 t, .int .u32 hd, .int .u64 wt, .int .u32 m]) := Lib.hid (Blk.new _ _ _)
  go_enter Try.func36, Try.ntmps36
  have q0_0 : (w.alloc (.cells #[.int .u32 t, .int .u32 hd, .int .u64 wt, .int .u32 m] 71)).cell? ⟨w.heap.size, 0, none⟩ = some (.int .u32 t) := (K0.out.cell 0).trans rfl
  have q0_1 : (w.alloc (.cells #[.int .u32 t, .int .u32 hd, .int .u64 wt, .int .u32 m] 71)).cell? ⟨w.heap.size, 1, none⟩ = some (.int .u32 hd) := (K0.out.cell 1).trans rfl
  have q0_2 : (w.alloc (.cells #[.int .u32 t, .int .u32 hd, .int .u64 wt, .int .u32 m] 71)).cell? ⟨w.heap.size, 2, none⟩ = some (.int .u64 wt) := (K0.out.cell 2).trans rfl
  have q0_3 : (w.alloc (.cells #[.int .u32 t, .int .u32 hd, .int .u64 wt, .int .u32 m] 71)).cell? ⟨w.heap.size, 3, none⟩ = some (.int .u32 m) := (K0.out.cell 3).trans rfl
  go_wp2_with fail
  refine (refput_put none 0 0 t 4 [] _ (by decide) rfl (Bytes.nil _ _ _) (by omega) (by omega)).mono ?_
  rintro e w1 ⟨A1, c1, rfl, hO, hbl⟩
  have O1 : Hid (OwnB w1 w.heap.size 5 A1 4 c1 (le 4 t)) := by
    have h := hO.mono Z0.out.size
    exact h
  have K1 : Hid (Blk w1 w.heap.size 71 #[.int .u32 t, .int .u32 hd, .int .u64 wt, .int .u32 m]) := by
    have h := K0.out.below hbl K0.out.lt
    exact h
  have Z1 : Hid (Below w.heap.size w w1) := by
    have h := Z0.out.trans (hbl.mono Z0.out.size)
    exact h
  clear hO hbl
  have q1_0 : w1.cell? ⟨w.heap.size, 0, none⟩ = some (.int .u32 t) := (K1.out.cell 0).trans rfl
  have q1_1 : w1.cell? ⟨w.heap.size, 1, none⟩ = some (.int .u32 hd) := (K1.out.cell 1).trans rfl
  have q1_2 : w1.cell? ⟨w.heap.size, 2, none⟩ = some (.int .u64 wt) := (K1.out.cell 2).trans rfl
  have q1_3 : w1.cell? ⟨w.heap.size, 3, none⟩ = some (.int .u32 m) := (K1.out.cell 3).trans rfl
  go_wp2_with fail
  refine (refput_put A1 4 c1 hd 4 _ _ (by decide) O1.out.1 O1.out.bytes (by omega) (by omega)).mono ?_
  rintro e w2 ⟨A2, c2, rfl, hO, hbl⟩
  have O2 : Hid (OwnB w2 w.heap.size 5 A2 8 c2 (le 4 t ++ le 4 hd)) := by
    have h := hO.mono Z1.out.size
    exact h
  have K2 : Hid (Blk w2 w.heap.size 71 #[.int .u32 t, .int .u32 hd, .int .u64 wt, .int .u32 m]) := by
    have h := K1.out.below hbl K1.out.lt
    exact h
  have Z2 : Hid (Below w.heap.size w w2) := by
    have h := Z1.out.trans (hbl.mono Z1.out.size)
    exact h
  clear hO hbl
  have q2_0 : w2.cell? ⟨w.heap.size, 0, none⟩ = some (.int .u32 t) := (K2.out.cell 0).trans rfl
  have q2_1 : w2.cell? ⟨w.heap.size, 1, none⟩ = some (.int .u32 hd) := (K2.out.cell 1).trans rfl
  have q2_2 : w2.cell? ⟨w.heap.size, 2, none⟩ = some (.int .u64 wt) := (K2.out.cell 2).trans rfl
  have q2_3 : w2.cell? ⟨w.heap.size, 3, none⟩ = some (.int .u32 m) := (K2.out.cell 3).trans rfl
  go_wp2_with fail
  refine (refput_put A2 8 c2 wt 8 _ _ (by decide) O2.out.1 O2.out.bytes (by omega) (by omega)).mono ?_
  rintro e w3 ⟨A3, c3, rfl, hO, hbl⟩
  have O3 : Hid (OwnB w3 w.heap.size 5 A3 16 c3 (le 4 t ++ le 4 hd ++ le 8 wt)) := by
    have h := hO.mono Z2.out.size
    exact h
  have K3 : Hid (Blk w3 w.heap.size 71 #[.int .u32 t, .int .u32 hd, .int .u64 wt, .int .u32 m]) := by
    have h := K2.out.below hbl K2.out.lt
    exact h
  have Z3 : Hid (Below w.heap.size w w3) := by
    have h := Z2.out.trans (hbl.mono Z2.out.size)
    exact h
  clear hO hbl
  have q3_0 : w3.cell? ⟨w.heap.size, 0, none⟩ = some (.int .u32 t) := (K3.out.cell 0).trans rfl
  have q3_1 : w3.cell? ⟨w.heap.size, 1, none⟩ = some (.int .u32 hd) := (K3.out.cell 1).trans rfl
  have q3_2 : w3.cell? ⟨w.heap.size, 2, none⟩ = some (.int .u64 wt) := (K3.out.cell 2).trans rfl
  have q3_3 : w3.cell? ⟨w.heap.size, 3, none⟩ = some (.int .u32 m) := (K3.out.cell 3).trans rfl
  go_wp2_with fail
  refine (refput_put A3 16 c3 m 4 _ _ (by decide) O3.out.1 O3.out.bytes (by omega) (by omega)).mono ?_
  rintro e w4 ⟨A4, c4, rfl, hO, hbl⟩
  have O4 : Hid (OwnB w4 w.heap.size 5 A4 20 c4 (le 4 t ++ le 4 hd ++ le 8 wt ++ le 4 m)) := by
    have h := hO.mono Z3.out.size
    exact h
  have K4 : Hid (Blk w4 w.heap.size 71 #[.int .u32 t, .int .u32 hd, .int .u64 wt, .int .u32 m]) := by
    have h := K3.out.below hbl K3.out.lt
    exact h
  have Z4 : Hid (Below w.heap.size w w4) := by
    have h := Z3.out.trans (hbl.mono Z3.out.size)
    exact h
  clear hO hbl
  have q4_0 : w4.cell? ⟨w.heap.size, 0, none⟩ = some (.int .u32 t) := (K4.out.cell 0).trans rfl
  have q4_1 : w4.cell? ⟨w.heap.size, 1, none⟩ = some (.int .u32 hd) := (K4.out.cell 1).trans rfl
  have q4_2 : w4.cell? ⟨w.heap.size, 2, none⟩ = some (.int .u64 wt) := (K4.out.cell 2).trans rfl
  have q4_3 : w4.cell? ⟨w.heap.size, 3, none⟩ = some (.int .u32 m) := (K4.out.cell 3).trans rfl
  go_wp2_with fail
  go_ret
  exact ⟨A4, c4, rfl, by rw [HE.out]; exact O4.out, Z4.out⟩


end Go.Proofs.Ytjiiabekjiilbaa
