/- What ReadEdge, ReadVert and ReadLabel tell of bytes that are as many as they must be, or that they tell nothing. -/
import Derived.Test.YtchfkelafghbdaaOctTake32
import Derived.Test.YtchfkelafghbdaaOctGet
import Derived.Test.YtchfkelafghbdaaRes
set_option linter.unusedSimpArgs false
set_option linter.unusedVariables false
namespace Go.Proofs.Ytchfkelafghbdaa
open Go.RowKit Mp

/-- the rest of a slice reads as the rest. -/
theorem rest_bytes {w : World} {B : Nat} {A : Option Addr} {n c : Nat} {l : List UInt8} (hb : Bytes w B A l) (hl : l.length = n) (hnc : n ≤ c) (k : Nat) (hk : k ≤ n) : Bytes w B (restA A c k) (l.drop k) := by
  have h := hb.cut k n c hk (by omega) (by omega)
  rw [List.take_of_length_le (by simp; omega), Nat.mul_one] at h
  exact h
theorem drop_drop_add (l : List UInt8) (a b : Nat) : (l.drop a).drop b = l.drop (a + b) := by rw [List.drop_drop]

set_option maxRecDepth 100000 in
set_option maxHeartbeats 1600000 in
theorem readedge_ok (A : Option Addr) (c : Nat) (l : List UInt8) (w : World) (hl : l.length = 20) (hb : Bytes w w.heap.size A l) (hnc : 20 ≤ c) :
    Calls Try.prog 26 #[.slice A 20 c] w fun e w' => e = .returned (.tuple #[.agg #[.int .u32 (num l 0 4 : Nat), .int .u32 (num l 4 4 : Nat), .int .u64 (num l 8 8 : Nat), .int .u32 (num l 16 4 : Nat)], .int .i64 0]) ∧ Below w.heap.size w w' := by
  have HL := Lib.hid hl
  have R0 := Lib.hid hb
  have R1 := Lib.hid (rest_bytes R0.out HL.out (show 20 ≤ c by omega) 4 (by omega))
  have L1 : Hid ((l.drop 4).length = 16) := by
    have h : (l.drop 4).length = 16 := by simp; omega
    exact h
  have R2 := Lib.hid (rest_bytes R1.out L1.out (show 16 ≤ c - 4 by omega) 4 (by omega))
  rw [drop_drop_add l 4 4, show 4 + 4 = 8 by rfl] at R2
  have L2 : Hid ((l.drop 8).length = 12) := by
    have h : (l.drop 8).length = 12 := by simp; omega
    exact h
  have R3 := Lib.hid (rest_bytes R2.out L2.out (show 12 ≤ c - 4 - 4 by omega) 8 (by omega))
  rw [drop_drop_add l 8 8, show 8 + 8 = 16 by rfl] at R3
  have L3 : Hid ((l.drop 16).length = 4) := by
    have h : (l.drop 16).length = 4 := by simp; omega
    exact h
  generalize hv0 : num l 0 4 = v0
  have V0 := Lib.hid hv0
  clear hv0
  have n1 := Lib.hid (num_drop l 4 4)
  generalize hv1 : num l 4 4 = v1 at *
  have V1 := Lib.hid hv1
  clear hv1
  have n2 := Lib.hid (num_drop l 8 8)
  generalize hv2 : num l 8 8 = v2 at *
  have V2 := Lib.hid hv2
  clear hv2
  have n3 := Lib.hid (num_drop l 16 4)
  generalize hv3 : num l 16 4 = v3 at *
  have V3 := Lib.hid hv3
  clear hv3
  clear hl hb
  go_enter Try.func26, Try.ntmps26
  go_wp2_with fail
  have k0 := Blk.new w 40 #[.int .u32 0, .int .u32 0, .int .u64 0, .int .u32 0]
  have b0 : Below w.heap.size w (w.alloc (.cells #[.int .u32 0, .int .u32 0, .int .u64 0, .int .u32 0] 40)) := (Below.refl _ _).alloc (Nat.le_refl _) _
  have K0 := Lib.hid k0
  have B0 := Lib.hid b0
  clear k0 b0
  refine (take32_any A 20 (c) 4 l _ HL.out ((R0.out.below B0.out).more B0.out.size) (by omega) (by omega) (by omega) (by omega)).mono ?_
  rintro e w1 ⟨rfl, hb1⟩
  rw [V0.out]
  have k1 := K0.out.below hb1 K0.out.lt
  have b1 : Below w.heap.size w w1 := B0.out.trans (hb1.mono B0.out.size)
  have KX := Lib.hid k1
  have BX := Lib.hid b1
  clear hb1 k1 b1
  have cc : w1.cell? ⟨w.heap.size, 0, none⟩ = some (.int .u32 0) := (KX.out.cell 0).trans rfl
  have ff := KX.out.frozen 0
  have K1 : Hid (Blk (w1.setCell ⟨w.heap.size, 0, none⟩ (.int .u32 v0)) w.heap.size 40 #[.int .u32 v0, .int .u32 0, .int .u64 0, .int .u32 0]) := by
    have h := KX.out.set_ 0 (.int .u32 v0)
    exact h
  have B1 : Hid (Below w.heap.size w (w1.setCell ⟨w.heap.size, 0, none⟩ (.int .u32 v0))) := by
    have h := BX.out.setCell (p := ⟨w.heap.size, 0, none⟩) (Nat.le_refl _) (.int .u32 v0)
    exact h
  clear KX BX
  go_wp2_with fail
  clear cc ff
  refine (take32_any (restA A (c) 4) 16 (c - 4) 4 (l.drop 4) _ L1.out ((R1.out.below B1.out).more B1.out.size) (by omega) (by omega) (by omega) (by omega)).mono ?_
  rintro e w2 ⟨rfl, hb2⟩
  rw [n1.out]
  have k2 := K1.out.below hb2 K1.out.lt
  have b2 : Below w.heap.size w w2 := B1.out.trans (hb2.mono B1.out.size)
  have KX := Lib.hid k2
  have BX := Lib.hid b2
  clear hb2 k2 b2
  have cc : w2.cell? ⟨w.heap.size, 1, none⟩ = some (.int .u32 0) := (KX.out.cell 1).trans rfl
  have ff := KX.out.frozen 1
  have K2 : Hid (Blk (w2.setCell ⟨w.heap.size, 1, none⟩ (.int .u32 v1)) w.heap.size 40 #[.int .u32 v0, .int .u32 v1, .int .u64 0, .int .u32 0]) := by
    have h := KX.out.set_ 1 (.int .u32 v1)
    exact h
  have B2 : Hid (Below w.heap.size w (w2.setCell ⟨w.heap.size, 1, none⟩ (.int .u32 v1))) := by
    have h := BX.out.setCell (p := ⟨w.heap.size, 1, none⟩) (Nat.le_refl _) (.int .u32 v1)
    exact h
  clear KX BX
  go_wp2_with fail
  clear cc ff
  refine (take64_any (restA (restA A (c) 4) (c - 4) 4) 12 (c - 4 - 4) 8 (l.drop 8) _ L2.out ((R2.out.below B2.out).more B2.out.size) (by omega) (by omega) (by omega) (by omega)).mono ?_
  rintro e w3 ⟨rfl, hb3⟩
  rw [n2.out]
  have k3 := K2.out.below hb3 K2.out.lt
  have b3 : Below w.heap.size w w3 := B2.out.trans (hb3.mono B2.out.size)
  have KX := Lib.hid k3
  have BX := Lib.hid b3
  clear hb3 k3 b3
  have cc : w3.cell? ⟨w.heap.size, 2, none⟩ = some (.int .u64 0) := (KX.out.cell 2).trans rfl
  have ff := KX.out.frozen 2
  have K3 : Hid (Blk (w3.setCell ⟨w.heap.size, 2, none⟩ (.int .u64 v2)) w.heap.size 40 #[.int .u32 v0, .int .u32 v1, .int .u64 v2, .int .u32 0]) := by
    have h := KX.out.set_ 2 (.int .u64 v2)
    exact h
  have B3 : Hid (Below w.heap.size w (w3.setCell ⟨w.heap.size, 2, none⟩ (.int .u64 v2))) := by
    have h := BX.out.setCell (p := ⟨w.heap.size, 2, none⟩) (Nat.le_refl _) (.int .u64 v2)
    exact h
  clear KX BX
  go_wp2_with fail
  clear cc ff
  refine (take32_any (restA (restA (restA A (c) 4) (c - 4) 4) (c - 4 - 4) 8) 4 (c - 4 - 4 - 8) 4 (l.drop 16) _ L3.out ((R3.out.below B3.out).more B3.out.size) (by omega) (by omega) (by omega) (by omega)).mono ?_
  rintro e w4 ⟨rfl, hb4⟩
  rw [n3.out]
  have k4 := K3.out.below hb4 K3.out.lt
  have b4 : Below w.heap.size w w4 := B3.out.trans (hb4.mono B3.out.size)
  have KX := Lib.hid k4
  have BX := Lib.hid b4
  clear hb4 k4 b4
  have cc : w4.cell? ⟨w.heap.size, 3, none⟩ = some (.int .u32 0) := (KX.out.cell 3).trans rfl
  have ff := KX.out.frozen 3
  have K4 : Hid (Blk (w4.setCell ⟨w.heap.size, 3, none⟩ (.int .u32 v3)) w.heap.size 40 #[.int .u32 v0, .int .u32 v1, .int .u64 v2, .int .u32 v3]) := by
    have h := KX.out.set_ 3 (.int .u32 v3)
    exact h
  have B4 : Hid (Below w.heap.size w (w4.setCell ⟨w.heap.size, 3, none⟩ (.int .u32 v3))) := by
    have h := BX.out.setCell (p := ⟨w.heap.size, 3, none⟩) (Nat.le_refl _) (.int .u32 v3)
    exact h
  clear KX BX
  have kk := K4.out
  have q0 : (w4.setCell ⟨w.heap.size, 3, none⟩ (.int .u32 v3)).cell? ⟨w.heap.size, 0, none⟩ = some (.int .u32 v0) := (kk.cell 0).trans rfl
  have g0 := kk.frozen 0
  have q1 : (w4.setCell ⟨w.heap.size, 3, none⟩ (.int .u32 v3)).cell? ⟨w.heap.size, 1, none⟩ = some (.int .u32 v1) := (kk.cell 1).trans rfl
  have g1 := kk.frozen 1
  have q2 : (w4.setCell ⟨w.heap.size, 3, none⟩ (.int .u32 v3)).cell? ⟨w.heap.size, 2, none⟩ = some (.int .u64 v2) := (kk.cell 2).trans rfl
  have g2 := kk.frozen 2
  have q3 : (w4.setCell ⟨w.heap.size, 3, none⟩ (.int .u32 v3)).cell? ⟨w.heap.size, 3, none⟩ = some (.int .u32 v3) := (kk.cell 3).trans rfl
  have g3 := kk.frozen 3
  clear kk
  go_wp2_with fail
  refine bodyPost_ret (resCT rfl _ _ w.heap.size 40 #[.int .u32 v0, .int .u32 v1, .int .u64 v2, .int .u32 v3] _ rfl ?_ Try.underlying40 rfl (by kernel_rfl)) rfl ⟨rfl, ?_⟩
  · exact ((((K4.out.set_ 0 _).set_ 1 _).set_ 2 _).set_ 3 _)
  · exact ((((B4.out.setCell (p := ⟨w.heap.size, 0, none⟩) (Nat.le_refl _) _).setCell (p := ⟨w.heap.size, 1, none⟩) (Nat.le_refl _) _).setCell (p := ⟨w.heap.size, 2, none⟩) (Nat.le_refl _) _).setCell (p := ⟨w.heap.size, 3, none⟩) (Nat.le_refl _) _)

set_option maxRecDepth 100000 in
set_option maxHeartbeats 1600000 in
theorem readedge_no (A : Option Addr) (n c : Nat) (w : World) (hn : n ≤ 1099511627776) (h : n ≠ 20) :
    Calls Try.prog 26 #[.slice A n c] w fun e w' => e = .returned (.tuple #[.agg #[.int .u32 0, .int .u32 0, .int .u64 0, .int .u32 0], .int .i64 8]) ∧ Below w.heap.size w w' := by
  have hne : ((n : Int) != 20) = true := by simp; omega
  clear h
  go_enter Try.func26, Try.ntmps26
  go_wp2_with fail
  refine bodyPost_ret (resCT rfl _ _ w.heap.size 40 #[.int .u32 0, .int .u32 0, .int .u64 0, .int .u32 0] _ rfl ?_ Try.underlying40 rfl (by kernel_rfl)) rfl ⟨rfl, ?_⟩
  · exact Blk.new _ _ _
  · exact (Below.refl _ _).alloc (Nat.le_refl _) _


set_option maxRecDepth 100000 in
set_option maxHeartbeats 1600000 in
theorem readvert_ok (A : Option Addr) (c : Nat) (l : List UInt8) (w : World) (hl : l.length = 12) (hb : Bytes w w.heap.size A l) (hnc : 12 ≤ c) :
    Calls Try.prog 28 #[.slice A 12 c] w fun e w' => e = .returned (.tuple #[.agg #[.int .u32 (num l 0 4 : Nat), .int .u32 (num l 4 4 : Nat), .int .u32 (num l 8 4 : Nat)], .int .i64 0]) ∧ Below w.heap.size w w' := by
  have HL := Lib.hid hl
  have R0 := Lib.hid hb
  have R1 := Lib.hid (rest_bytes R0.out HL.out (show 12 ≤ c by omega) 4 (by omega))
  have L1 : Hid ((l.drop 4).length = 8) := by
    have h : (l.drop 4).length = 8 := by simp; omega
    exact h
  have R2 := Lib.hid (rest_bytes R1.out L1.out (show 8 ≤ c - 4 by omega) 4 (by omega))
  rw [drop_drop_add l 4 4, show 4 + 4 = 8 by rfl] at R2
  have L2 : Hid ((l.drop 8).length = 4) := by
    have h : (l.drop 8).length = 4 := by simp; omega
    exact h
  generalize hv0 : num l 0 4 = v0
  have V0 := Lib.hid hv0
  clear hv0
  have n1 := Lib.hid (num_drop l 4 4)
  generalize hv1 : num l 4 4 = v1 at *
  have V1 := Lib.hid hv1
  clear hv1
  have n2 := Lib.hid (num_drop l 8 4)
  generalize hv2 : num l 8 4 = v2 at *
  have V2 := Lib.hid hv2
  clear hv2
  clear hl hb
  go_enter Try.func28, Try.ntmps28
  go_wp2_with fail
  have k0 := Blk.new w 42 #[.int .u32 0, .int .u32 0, .int .u32 0]
  have b0 : Below w.heap.size w (w.alloc (.cells #[.int .u32 0, .int .u32 0, .int .u32 0] 42)) := (Below.refl _ _).alloc (Nat.le_refl _) _
  have K0 := Lib.hid k0
  have B0 := Lib.hid b0
  clear k0 b0
  refine (take32_any A 12 (c) 4 l _ HL.out ((R0.out.below B0.out).more B0.out.size) (by omega) (by omega) (by omega) (by omega)).mono ?_
  rintro e w1 ⟨rfl, hb1⟩
  rw [V0.out]
  have k1 := K0.out.below hb1 K0.out.lt
  have b1 : Below w.heap.size w w1 := B0.out.trans (hb1.mono B0.out.size)
  have KX := Lib.hid k1
  have BX := Lib.hid b1
  clear hb1 k1 b1
  have cc : w1.cell? ⟨w.heap.size, 0, none⟩ = some (.int .u32 0) := (KX.out.cell 0).trans rfl
  have ff := KX.out.frozen 0
  have K1 : Hid (Blk (w1.setCell ⟨w.heap.size, 0, none⟩ (.int .u32 v0)) w.heap.size 42 #[.int .u32 v0, .int .u32 0, .int .u32 0]) := by
    have h := KX.out.set_ 0 (.int .u32 v0)
    exact h
  have B1 : Hid (Below w.heap.size w (w1.setCell ⟨w.heap.size, 0, none⟩ (.int .u32 v0))) := by
    have h := BX.out.setCell (p := ⟨w.heap.size, 0, none⟩) (Nat.le_refl _) (.int .u32 v0)
    exact h
  clear KX BX
  go_wp2_with fail
  clear cc ff
  refine (take32_any (restA A (c) 4) 8 (c - 4) 4 (l.drop 4) _ L1.out ((R1.out.below B1.out).more B1.out.size) (by omega) (by omega) (by omega) (by omega)).mono ?_
  rintro e w2 ⟨rfl, hb2⟩
  rw [n1.out]
  have k2 := K1.out.below hb2 K1.out.lt
  have b2 : Below w.heap.size w w2 := B1.out.trans (hb2.mono B1.out.size)
  have KX := Lib.hid k2
  have BX := Lib.hid b2
  clear hb2 k2 b2
  have cc : w2.cell? ⟨w.heap.size, 1, none⟩ = some (.int .u32 0) := (KX.out.cell 1).trans rfl
  have ff := KX.out.frozen 1
  have K2 : Hid (Blk (w2.setCell ⟨w.heap.size, 1, none⟩ (.int .u32 v1)) w.heap.size 42 #[.int .u32 v0, .int .u32 v1, .int .u32 0]) := by
    have h := KX.out.set_ 1 (.int .u32 v1)
    exact h
  have B2 : Hid (Below w.heap.size w (w2.setCell ⟨w.heap.size, 1, none⟩ (.int .u32 v1))) := by
    have h := BX.out.setCell (p := ⟨w.heap.size, 1, none⟩) (Nat.le_refl _) (.int .u32 v1)
    exact h
  clear KX BX
  go_wp2_with fail
  clear cc ff
  refine (take32_any (restA (restA A (c) 4) (c - 4) 4) 4 (c - 4 - 4) 4 (l.drop 8) _ L2.out ((R2.out.below B2.out).more B2.out.size) (by omega) (by omega) (by omega) (by omega)).mono ?_
  rintro e w3 ⟨rfl, hb3⟩
  rw [n2.out]
  have k3 := K2.out.below hb3 K2.out.lt
  have b3 : Below w.heap.size w w3 := B2.out.trans (hb3.mono B2.out.size)
  have KX := Lib.hid k3
  have BX := Lib.hid b3
  clear hb3 k3 b3
  have cc : w3.cell? ⟨w.heap.size, 2, none⟩ = some (.int .u32 0) := (KX.out.cell 2).trans rfl
  have ff := KX.out.frozen 2
  have K3 : Hid (Blk (w3.setCell ⟨w.heap.size, 2, none⟩ (.int .u32 v2)) w.heap.size 42 #[.int .u32 v0, .int .u32 v1, .int .u32 v2]) := by
    have h := KX.out.set_ 2 (.int .u32 v2)
    exact h
  have B3 : Hid (Below w.heap.size w (w3.setCell ⟨w.heap.size, 2, none⟩ (.int .u32 v2))) := by
    have h := BX.out.setCell (p := ⟨w.heap.size, 2, none⟩) (Nat.le_refl _) (.int .u32 v2)
    exact h
  clear KX BX
  have kk := K3.out
  have q0 : (w3.setCell ⟨w.heap.size, 2, none⟩ (.int .u32 v2)).cell? ⟨w.heap.size, 0, none⟩ = some (.int .u32 v0) := (kk.cell 0).trans rfl
  have g0 := kk.frozen 0
  have q1 : (w3.setCell ⟨w.heap.size, 2, none⟩ (.int .u32 v2)).cell? ⟨w.heap.size, 1, none⟩ = some (.int .u32 v1) := (kk.cell 1).trans rfl
  have g1 := kk.frozen 1
  have q2 : (w3.setCell ⟨w.heap.size, 2, none⟩ (.int .u32 v2)).cell? ⟨w.heap.size, 2, none⟩ = some (.int .u32 v2) := (kk.cell 2).trans rfl
  have g2 := kk.frozen 2
  clear kk
  go_wp2_with fail
  refine bodyPost_ret (resCT rfl _ _ w.heap.size 42 #[.int .u32 v0, .int .u32 v1, .int .u32 v2] _ rfl ?_ Try.underlying42 rfl (by kernel_rfl)) rfl ⟨rfl, ?_⟩
  · exact (((K3.out.set_ 0 _).set_ 1 _).set_ 2 _)
  · exact (((B3.out.setCell (p := ⟨w.heap.size, 0, none⟩) (Nat.le_refl _) _).setCell (p := ⟨w.heap.size, 1, none⟩) (Nat.le_refl _) _).setCell (p := ⟨w.heap.size, 2, none⟩) (Nat.le_refl _) _)

set_option maxRecDepth 100000 in
set_option maxHeartbeats 1600000 in
theorem readvert_no (A : Option Addr) (n c : Nat) (w : World) (hn : n ≤ 1099511627776) (h : n ≠ 12) :
    Calls Try.prog 28 #[.slice A n c] w fun e w' => e = .returned (.tuple #[.agg #[.int .u32 0, .int .u32 0, .int .u32 0], .int .i64 8]) ∧ Below w.heap.size w w' := by
  have hne : ((n : Int) != 12) = true := by simp; omega
  clear h
  go_enter Try.func28, Try.ntmps28
  go_wp2_with fail
  refine bodyPost_ret (resCT rfl _ _ w.heap.size 42 #[.int .u32 0, .int .u32 0, .int .u32 0] _ rfl ?_ Try.underlying42 rfl (by kernel_rfl)) rfl ⟨rfl, ?_⟩
  · exact Blk.new _ _ _
  · exact (Below.refl _ _).alloc (Nat.le_refl _) _


set_option maxRecDepth 100000 in
set_option maxHeartbeats 1600000 in
theorem readlabel_ok (A : Option Addr) (c : Nat) (l : List UInt8) (w : World) (hl : l.length = 20) (hb : Bytes w w.heap.size A l) (hnc : 20 ≤ c) :
    Calls Try.prog 30 #[.slice A 20 c] w fun e w' => e = .returned (.tuple #[.int .u32 (num l 0 4 : Nat), .agg #[.int .u32 (num l 4 4 : Nat), .int .u32 (num l 8 4 : Nat), .int .u64 (num l 12 8 : Nat)], .int .i64 0]) ∧ Below w.heap.size w w' := by
  have HL := Lib.hid hl
  have R0 := Lib.hid hb
  have R1 := Lib.hid (rest_bytes R0.out HL.out (show 20 ≤ c by omega) 4 (by omega))
  have L1 : Hid ((l.drop 4).length = 16) := by
    have h : (l.drop 4).length = 16 := by simp; omega
    exact h
  have R2 := Lib.hid (rest_bytes R1.out L1.out (show 16 ≤ c - 4 by omega) 4 (by omega))
  rw [drop_drop_add l 4 4, show 4 + 4 = 8 by rfl] at R2
  have L2 : Hid ((l.drop 8).length = 12) := by
    have h : (l.drop 8).length = 12 := by simp; omega
    exact h
  have R3 := Lib.hid (rest_bytes R2.out L2.out (show 12 ≤ c - 4 - 4 by omega) 4 (by omega))
  rw [drop_drop_add l 8 4, show 8 + 4 = 12 by rfl] at R3
  have L3 : Hid ((l.drop 12).length = 8) := by
    have h : (l.drop 12).length = 8 := by simp; omega
    exact h
  generalize hv0 : num l 0 4 = v0
  have V0 := Lib.hid hv0
  clear hv0
  have n1 := Lib.hid (num_drop l 4 4)
  generalize hv1 : num l 4 4 = v1 at *
  have V1 := Lib.hid hv1
  clear hv1
  have n2 := Lib.hid (num_drop l 8 4)
  generalize hv2 : num l 8 4 = v2 at *
  have V2 := Lib.hid hv2
  clear hv2
  have n3 := Lib.hid (num_drop l 12 8)
  generalize hv3 : num l 12 8 = v3 at *
  have V3 := Lib.hid hv3
  clear hv3
  clear hl hb
  go_enter Try.func30, Try.ntmps30
  go_wp2_with fail
  have k0 := Blk.new w 44 #[.int .u32 0, .int .u32 0, .int .u64 0]
  have b0 : Below w.heap.size w (w.alloc (.cells #[.int .u32 0, .int .u32 0, .int .u64 0] 44)) := (Below.refl _ _).alloc (Nat.le_refl _) _
  have K0 := Lib.hid k0
  have B0 := Lib.hid b0
  clear k0 b0
  refine (take32_any A 20 (c) 4 l _ HL.out ((R0.out.below B0.out).more B0.out.size) (by omega) (by omega) (by omega) (by omega)).mono ?_
  rintro e w1 ⟨rfl, hb1⟩
  rw [V0.out]
  have k1 := K0.out.below hb1 K0.out.lt
  have b1 : Below w.heap.size w w1 := B0.out.trans (hb1.mono B0.out.size)
  have KX := Lib.hid k1
  have BX := Lib.hid b1
  clear hb1 k1 b1
  have K1 := KX
  have B1 := BX
  clear KX BX
  go_wp2_with fail
  refine (take32_any (restA A (c) 4) 16 (c - 4) 4 (l.drop 4) _ L1.out ((R1.out.below B1.out).more B1.out.size) (by omega) (by omega) (by omega) (by omega)).mono ?_
  rintro e w2 ⟨rfl, hb2⟩
  rw [n1.out]
  have k2 := K1.out.below hb2 K1.out.lt
  have b2 : Below w.heap.size w w2 := B1.out.trans (hb2.mono B1.out.size)
  have KX := Lib.hid k2
  have BX := Lib.hid b2
  clear hb2 k2 b2
  have cc : w2.cell? ⟨w.heap.size, 0, none⟩ = some (.int .u32 0) := (KX.out.cell 0).trans rfl
  have ff := KX.out.frozen 0
  have K2 : Hid (Blk (w2.setCell ⟨w.heap.size, 0, none⟩ (.int .u32 v1)) w.heap.size 44 #[.int .u32 v1, .int .u32 0, .int .u64 0]) := by
    have h := KX.out.set_ 0 (.int .u32 v1)
    exact h
  have B2 : Hid (Below w.heap.size w (w2.setCell ⟨w.heap.size, 0, none⟩ (.int .u32 v1))) := by
    have h := BX.out.setCell (p := ⟨w.heap.size, 0, none⟩) (Nat.le_refl _) (.int .u32 v1)
    exact h
  clear KX BX
  go_wp2_with fail
  clear cc ff
  refine (take32_any (restA (restA A (c) 4) (c - 4) 4) 12 (c - 4 - 4) 4 (l.drop 8) _ L2.out ((R2.out.below B2.out).more B2.out.size) (by omega) (by omega) (by omega) (by omega)).mono ?_
  rintro e w3 ⟨rfl, hb3⟩
  rw [n2.out]
  have k3 := K2.out.below hb3 K2.out.lt
  have b3 : Below w.heap.size w w3 := B2.out.trans (hb3.mono B2.out.size)
  have KX := Lib.hid k3
  have BX := Lib.hid b3
  clear hb3 k3 b3
  have cc : w3.cell? ⟨w.heap.size, 1, none⟩ = some (.int .u32 0) := (KX.out.cell 1).trans rfl
  have ff := KX.out.frozen 1
  have K3 : Hid (Blk (w3.setCell ⟨w.heap.size, 1, none⟩ (.int .u32 v2)) w.heap.size 44 #[.int .u32 v1, .int .u32 v2, .int .u64 0]) := by
    have h := KX.out.set_ 1 (.int .u32 v2)
    exact h
  have B3 : Hid (Below w.heap.size w (w3.setCell ⟨w.heap.size, 1, none⟩ (.int .u32 v2))) := by
    have h := BX.out.setCell (p := ⟨w.heap.size, 1, none⟩) (Nat.le_refl _) (.int .u32 v2)
    exact h
  clear KX BX
  go_wp2_with fail
  clear cc ff
  refine (take64_any (restA (restA (restA A (c) 4) (c - 4) 4) (c - 4 - 4) 4) 8 (c - 4 - 4 - 4) 8 (l.drop 12) _ L3.out ((R3.out.below B3.out).more B3.out.size) (by omega) (by omega) (by omega) (by omega)).mono ?_
  rintro e w4 ⟨rfl, hb4⟩
  rw [n3.out]
  have k4 := K3.out.below hb4 K3.out.lt
  have b4 : Below w.heap.size w w4 := B3.out.trans (hb4.mono B3.out.size)
  have KX := Lib.hid k4
  have BX := Lib.hid b4
  clear hb4 k4 b4
  have cc : w4.cell? ⟨w.heap.size, 2, none⟩ = some (.int .u64 0) := (KX.out.cell 2).trans rfl
  have ff := KX.out.frozen 2
  have K4 : Hid (Blk (w4.setCell ⟨w.heap.size, 2, none⟩ (.int .u64 v3)) w.heap.size 44 #[.int .u32 v1, .int .u32 v2, .int .u64 v3]) := by
    have h := KX.out.set_ 2 (.int .u64 v3)
    exact h
  have B4 : Hid (Below w.heap.size w (w4.setCell ⟨w.heap.size, 2, none⟩ (.int .u64 v3))) := by
    have h := BX.out.setCell (p := ⟨w.heap.size, 2, none⟩) (Nat.le_refl _) (.int .u64 v3)
    exact h
  clear KX BX
  have kk := K4.out
  have q0 : (w4.setCell ⟨w.heap.size, 2, none⟩ (.int .u64 v3)).cell? ⟨w.heap.size, 0, none⟩ = some (.int .u32 v1) := (kk.cell 0).trans rfl
  have g0 := kk.frozen 0
  have q1 : (w4.setCell ⟨w.heap.size, 2, none⟩ (.int .u64 v3)).cell? ⟨w.heap.size, 1, none⟩ = some (.int .u32 v2) := (kk.cell 1).trans rfl
  have g1 := kk.frozen 1
  have q2 : (w4.setCell ⟨w.heap.size, 2, none⟩ (.int .u64 v3)).cell? ⟨w.heap.size, 2, none⟩ = some (.int .u64 v3) := (kk.cell 2).trans rfl
  have g2 := kk.frozen 2
  clear kk
  go_wp2_with fail
  go_region
  go_wp2_with fail
  refine bodyPost_ret (resTCT rfl _ _ w.heap.size 44 #[.int .u32 v1, .int .u32 v2, .int .u64 v3] _ rfl ?_ Try.underlying44 rfl (by kernel_rfl)) rfl ⟨rfl, ?_⟩
  · exact (((K4.out.set_ 0 _).set_ 1 _).set_ 2 _)
  · exact ((((B4.out.setCell (p := ⟨w.heap.size, 0, none⟩) (Nat.le_refl _) _).setCell (p := ⟨w.heap.size, 1, none⟩) (Nat.le_refl _) _).setCell (p := ⟨w.heap.size, 2, none⟩) (Nat.le_refl _) _)).drew

set_option maxRecDepth 100000 in
set_option maxHeartbeats 1600000 in
theorem readlabel_no (A : Option Addr) (n c : Nat) (w : World) (hn : n ≤ 1099511627776) (h : n ≠ 20) :
    Calls Try.prog 30 #[.slice A n c] w fun e w' => e = .returned (.tuple #[.int .u32 0, .agg #[.int .u32 0, .int .u32 0, .int .u64 0], .int .i64 8]) ∧ Below w.heap.size w w' := by
  have hne : ((n : Int) != 20) = true := by simp; omega
  clear h
  go_enter Try.func30, Try.ntmps30
  go_wp2_with fail
  refine bodyPost_ret (resTCT rfl _ _ w.heap.size 44 #[.int .u32 0, .int .u32 0, .int .u64 0] _ rfl ?_ Try.underlying44 rfl (by kernel_rfl)) rfl ⟨rfl, ?_⟩
  · exact Blk.new _ _ _
  · exact (Below.refl _ _).alloc (Nat.le_refl _) _


end Go.Proofs.Ytchfkelafghbdaa
