/- OctetReads: what any bytes say, or that they say nothing, is what the reference says. -/
import Derived.Test.YtchfkelafghbdaaOctWorks
import Derived.Test.YtchfkelafghbdaaOctRead
import Derived.Test.YtchfkelafghbdaaOctRefRead
set_option linter.unusedSimpArgs false
set_option linter.unusedVariables false
namespace Go.Proofs.Ytchfkelafghbdaa
open Go.RowKit Mp

set_option maxRecDepth 100000 in
set_option maxHeartbeats 1600000 in
/-- the walk, whatever the six readers answer, if they answer alike. -/
theorem reads_walk (A : Option Addr) (n c : Nat) (l : List UInt8) (w : World) (hl : l.length = n) (hb : Bytes w w.heap.size A l) (hcap : n ≤ c ∧ c ≤ maxLen) (hbig : ¬ 131072 < n)
    (e0 e1 e2 e3 ee v0 v1 v2 ve x0 x1 x2 x3 xe : Int)
    (E1' : ∀ (w : World) A c, Bytes w w.heap.size A l → n ≤ c → Calls Try.prog 26 #[.slice A n c] w fun e w' => e = .returned (.tuple #[.agg #[.int .u32 e0, .int .u32 e1, .int .u64 e2, .int .u32 e3], .int .i64 ee]) ∧ Below w.heap.size w w')
    (E2' : ∀ (w : World) A c, Bytes w w.heap.size A l → Calls Try.prog 27 #[.slice A n c] w fun e w' => e = .returned (.tuple #[.agg #[.int .u32 e0, .int .u32 e1, .int .u64 e2, .int .u32 e3], .int .i64 ee]) ∧ Below w.heap.size w w')
    (V1' : ∀ (w : World) A c, Bytes w w.heap.size A l → n ≤ c → Calls Try.prog 28 #[.slice A n c] w fun e w' => e = .returned (.tuple #[.agg #[.int .u32 v0, .int .u32 v1, .int .u32 v2], .int .i64 ve]) ∧ Below w.heap.size w w')
    (V2' : ∀ (w : World) A c, Bytes w w.heap.size A l → Calls Try.prog 29 #[.slice A n c] w fun e w' => e = .returned (.tuple #[.agg #[.int .u32 v0, .int .u32 v1, .int .u32 v2], .int .i64 ve]) ∧ Below w.heap.size w w')
    (L1' : ∀ (w : World) A c, Bytes w w.heap.size A l → n ≤ c → Calls Try.prog 30 #[.slice A n c] w fun e w' => e = .returned (.tuple #[.int .u32 x0, .agg #[.int .u32 x1, .int .u32 x2, .int .u64 x3], .int .i64 xe]) ∧ Below w.heap.size w w')
    (L2' : ∀ (w : World) A c, Bytes w w.heap.size A l → Calls Try.prog 31 #[.slice A n c] w fun e w' => e = .returned (.tuple #[.int .u32 x0, .agg #[.int .u32 x1, .int .u32 x2, .int .u64 x3], .int .i64 xe]) ∧ Below w.heap.size w w') :
    Calls Try.prog 8 #[.slice A n c] w fun e w' => e = .returned (.bool true) ∧ Below w.heap.size w w' := by
  have HL := Lib.hid hl
  have HB := Lib.hid hb
  have E1 := Lib.hid E1'
  clear E1'
  have E2 := Lib.hid E2'
  clear E2'
  have V1 := Lib.hid V1'
  clear V1'
  have V2 := Lib.hid V2'
  clear V2'
  have L1 := Lib.hid L1'
  clear L1'
  have L2 := Lib.hid L2'
  clear L2'
  clear hl hb
  go_enter Try.func8, Try.ntmps8
  go_wp2_with fail
  refine (roomy_any A n c l _ HL.out HB.out (by omega)).mono ?_
  rintro e w1 ⟨A1, c1, rfl, hO1, hc1, hb1⟩
  have HO1 := Lib.hid hO1
  have B1 := Lib.hid hb1
  clear hO1 hb1
  have HIN : Hid (Bytes w1 w1.heap.size A1 l) := by
    have h := (HO1.out.take n (by omega)).bytes
    rw [List.take_append_of_le_length (by have := HL.out; omega), List.take_of_length_le (by have := HL.out; omega)] at h
    exact h
  have Hs : Hid (∀ wr, Below w1.heap.size w1 wr → Bytes wr wr.heap.size A1 l) := by
    have h : ∀ wr, Below w1.heap.size w1 wr → Bytes wr wr.heap.size A1 l := fun wr h => (HIN.out.below h).more h.size
    exact h
  have Ht : Hid (∀ wr, Below w1.heap.size w1 wr → Bytes wr wr.heap.size A l) := by
    have h : ∀ wr, Below w1.heap.size w1 wr → Bytes wr wr.heap.size A l := fun wr h => (((HB.out.below B1.out).more B1.out.size).below h).more h.size
    exact h
  have Z1 := Lib.hid (Below.refl w1.heap.size w1)
  go_wp2_with fail
  refine (E1.out _ _ _ (Hs.out _ Z1.out) (by omega)).mono ?_
  rintro e u1 ⟨rfl, hb2⟩
  have T1 : Hid (Below w1.heap.size w1 u1) := by
    have h := Z1.out.trans (hb2.mono Z1.out.size)
    exact h
  have K1_1 : Hid (Blk (u1.alloc (.cells #[.int .u32 e0, .int .u32 e1, .int .u64 e2, .int .u32 e3] 40)) u1.heap.size 40 #[.int .u32 e0, .int .u32 e1, .int .u64 e2, .int .u32 e3]) := Lib.hid (Blk.new _ _ _)
  have Z2 : Hid (Below w1.heap.size w1 (u1.alloc (.cells #[.int .u32 e0, .int .u32 e1, .int .u64 e2, .int .u32 e3] 40))) := by
    have h := T1.out.alloc T1.out.size (.cells #[.int .u32 e0, .int .u32 e1, .int .u64 e2, .int .u32 e3] 40)
    exact h
  clear hb2
  go_wp2_with fail
  refine (E2.out _ _ _ (Ht.out _ Z2.out)).mono ?_
  rintro e u2 ⟨rfl, hb2⟩
  have T2 : Hid (Below w1.heap.size w1 u2) := by
    have h := Z2.out.trans (hb2.mono Z2.out.size)
    exact h
  have K1_2 : Hid (Blk (u2.alloc (.cells #[.int .u32 e0, .int .u32 e1, .int .u64 e2, .int .u32 e3] 40)) u1.heap.size 40 #[.int .u32 e0, .int .u32 e1, .int .u64 e2, .int .u32 e3]) := by
    have h := K1_1.out.below hb2 K1_1.out.lt
    exact h.alloc _
  have K2_2 : Hid (Blk (u2.alloc (.cells #[.int .u32 e0, .int .u32 e1, .int .u64 e2, .int .u32 e3] 40)) u2.heap.size 40 #[.int .u32 e0, .int .u32 e1, .int .u64 e2, .int .u32 e3]) := Lib.hid (Blk.new _ _ _)
  have Z3 : Hid (Below w1.heap.size w1 (u2.alloc (.cells #[.int .u32 e0, .int .u32 e1, .int .u64 e2, .int .u32 e3] 40))) := by
    have h := T2.out.alloc T2.out.size (.cells #[.int .u32 e0, .int .u32 e1, .int .u64 e2, .int .u32 e3] 40)
    exact h
  clear hb2
  go_wp2_with fail
  refine (V1.out _ _ _ (Hs.out _ Z3.out) (by omega)).mono ?_
  rintro e u3 ⟨rfl, hb2⟩
  have T3 : Hid (Below w1.heap.size w1 u3) := by
    have h := Z3.out.trans (hb2.mono Z3.out.size)
    exact h
  have K1_3 : Hid (Blk (u3.alloc (.cells #[.int .u32 v0, .int .u32 v1, .int .u32 v2] 42)) u1.heap.size 40 #[.int .u32 e0, .int .u32 e1, .int .u64 e2, .int .u32 e3]) := by
    have h := K1_2.out.below hb2 K1_2.out.lt
    exact h.alloc _
  have K2_3 : Hid (Blk (u3.alloc (.cells #[.int .u32 v0, .int .u32 v1, .int .u32 v2] 42)) u2.heap.size 40 #[.int .u32 e0, .int .u32 e1, .int .u64 e2, .int .u32 e3]) := by
    have h := K2_2.out.below hb2 K2_2.out.lt
    exact h.alloc _
  have K3_3 : Hid (Blk (u3.alloc (.cells #[.int .u32 v0, .int .u32 v1, .int .u32 v2] 42)) u3.heap.size 42 #[.int .u32 v0, .int .u32 v1, .int .u32 v2]) := Lib.hid (Blk.new _ _ _)
  have Z4 : Hid (Below w1.heap.size w1 (u3.alloc (.cells #[.int .u32 v0, .int .u32 v1, .int .u32 v2] 42))) := by
    have h := T3.out.alloc T3.out.size (.cells #[.int .u32 v0, .int .u32 v1, .int .u32 v2] 42)
    exact h
  clear hb2
  go_wp2_with fail
  refine (V2.out _ _ _ (Ht.out _ Z4.out)).mono ?_
  rintro e u4 ⟨rfl, hb2⟩
  have T4 : Hid (Below w1.heap.size w1 u4) := by
    have h := Z4.out.trans (hb2.mono Z4.out.size)
    exact h
  have K1_4 : Hid (Blk (u4.alloc (.cells #[.int .u32 v0, .int .u32 v1, .int .u32 v2] 42)) u1.heap.size 40 #[.int .u32 e0, .int .u32 e1, .int .u64 e2, .int .u32 e3]) := by
    have h := K1_3.out.below hb2 K1_3.out.lt
    exact h.alloc _
  have K2_4 : Hid (Blk (u4.alloc (.cells #[.int .u32 v0, .int .u32 v1, .int .u32 v2] 42)) u2.heap.size 40 #[.int .u32 e0, .int .u32 e1, .int .u64 e2, .int .u32 e3]) := by
    have h := K2_3.out.below hb2 K2_3.out.lt
    exact h.alloc _
  have K3_4 : Hid (Blk (u4.alloc (.cells #[.int .u32 v0, .int .u32 v1, .int .u32 v2] 42)) u3.heap.size 42 #[.int .u32 v0, .int .u32 v1, .int .u32 v2]) := by
    have h := K3_3.out.below hb2 K3_3.out.lt
    exact h.alloc _
  have K4_4 : Hid (Blk (u4.alloc (.cells #[.int .u32 v0, .int .u32 v1, .int .u32 v2] 42)) u4.heap.size 42 #[.int .u32 v0, .int .u32 v1, .int .u32 v2]) := Lib.hid (Blk.new _ _ _)
  have Z5 : Hid (Below w1.heap.size w1 (u4.alloc (.cells #[.int .u32 v0, .int .u32 v1, .int .u32 v2] 42))) := by
    have h := T4.out.alloc T4.out.size (.cells #[.int .u32 v0, .int .u32 v1, .int .u32 v2] 42)
    exact h
  clear hb2
  go_wp2_with fail
  refine (L1.out _ _ _ (Hs.out _ Z5.out) (by omega)).mono ?_
  rintro e u5 ⟨rfl, hb2⟩
  have T5 : Hid (Below w1.heap.size w1 u5) := by
    have h := Z5.out.trans (hb2.mono Z5.out.size)
    exact h
  have K1_5 : Hid (Blk (u5.alloc (.cells #[.int .u32 x1, .int .u32 x2, .int .u64 x3] 44)) u1.heap.size 40 #[.int .u32 e0, .int .u32 e1, .int .u64 e2, .int .u32 e3]) := by
    have h := K1_4.out.below hb2 K1_4.out.lt
    exact h.alloc _
  have K2_5 : Hid (Blk (u5.alloc (.cells #[.int .u32 x1, .int .u32 x2, .int .u64 x3] 44)) u2.heap.size 40 #[.int .u32 e0, .int .u32 e1, .int .u64 e2, .int .u32 e3]) := by
    have h := K2_4.out.below hb2 K2_4.out.lt
    exact h.alloc _
  have K3_5 : Hid (Blk (u5.alloc (.cells #[.int .u32 x1, .int .u32 x2, .int .u64 x3] 44)) u3.heap.size 42 #[.int .u32 v0, .int .u32 v1, .int .u32 v2]) := by
    have h := K3_4.out.below hb2 K3_4.out.lt
    exact h.alloc _
  have K4_5 : Hid (Blk (u5.alloc (.cells #[.int .u32 x1, .int .u32 x2, .int .u64 x3] 44)) u4.heap.size 42 #[.int .u32 v0, .int .u32 v1, .int .u32 v2]) := by
    have h := K4_4.out.below hb2 K4_4.out.lt
    exact h.alloc _
  have K5_5 : Hid (Blk (u5.alloc (.cells #[.int .u32 x1, .int .u32 x2, .int .u64 x3] 44)) u5.heap.size 44 #[.int .u32 x1, .int .u32 x2, .int .u64 x3]) := Lib.hid (Blk.new _ _ _)
  have Z6 : Hid (Below w1.heap.size w1 (u5.alloc (.cells #[.int .u32 x1, .int .u32 x2, .int .u64 x3] 44))) := by
    have h := T5.out.alloc T5.out.size (.cells #[.int .u32 x1, .int .u32 x2, .int .u64 x3] 44)
    exact h
  clear hb2
  go_wp2_with fail
  refine (L2.out _ _ _ (Ht.out _ Z6.out)).mono ?_
  rintro e u6 ⟨rfl, hb2⟩
  have T6 : Hid (Below w1.heap.size w1 u6) := by
    have h := Z6.out.trans (hb2.mono Z6.out.size)
    exact h
  have K1_6 : Hid (Blk (u6.alloc (.cells #[.int .u32 x1, .int .u32 x2, .int .u64 x3] 44)) u1.heap.size 40 #[.int .u32 e0, .int .u32 e1, .int .u64 e2, .int .u32 e3]) := by
    have h := K1_5.out.below hb2 K1_5.out.lt
    exact h.alloc _
  have K2_6 : Hid (Blk (u6.alloc (.cells #[.int .u32 x1, .int .u32 x2, .int .u64 x3] 44)) u2.heap.size 40 #[.int .u32 e0, .int .u32 e1, .int .u64 e2, .int .u32 e3]) := by
    have h := K2_5.out.below hb2 K2_5.out.lt
    exact h.alloc _
  have K3_6 : Hid (Blk (u6.alloc (.cells #[.int .u32 x1, .int .u32 x2, .int .u64 x3] 44)) u3.heap.size 42 #[.int .u32 v0, .int .u32 v1, .int .u32 v2]) := by
    have h := K3_5.out.below hb2 K3_5.out.lt
    exact h.alloc _
  have K4_6 : Hid (Blk (u6.alloc (.cells #[.int .u32 x1, .int .u32 x2, .int .u64 x3] 44)) u4.heap.size 42 #[.int .u32 v0, .int .u32 v1, .int .u32 v2]) := by
    have h := K4_5.out.below hb2 K4_5.out.lt
    exact h.alloc _
  have K5_6 : Hid (Blk (u6.alloc (.cells #[.int .u32 x1, .int .u32 x2, .int .u64 x3] 44)) u5.heap.size 44 #[.int .u32 x1, .int .u32 x2, .int .u64 x3]) := by
    have h := K5_5.out.below hb2 K5_5.out.lt
    exact h.alloc _
  have K6_6 : Hid (Blk (u6.alloc (.cells #[.int .u32 x1, .int .u32 x2, .int .u64 x3] 44)) u6.heap.size 44 #[.int .u32 x1, .int .u32 x2, .int .u64 x3]) := Lib.hid (Blk.new _ _ _)
  have Z7 : Hid (Below w1.heap.size w1 (u6.alloc (.cells #[.int .u32 x1, .int .u32 x2, .int .u64 x3] 44))) := by
    have h := T6.out.alloc T6.out.size (.cells #[.int .u32 x1, .int .u32 x2, .int .u64 x3] 44)
    exact h
  clear hb2
  have q1_0 : (u6.alloc (.cells #[.int .u32 x1, .int .u32 x2, .int .u64 x3] 44)).cell? ⟨u1.heap.size, 0, none⟩ = some (.int .u32 e0) := (K1_6.out.cell 0).trans rfl
  have q1_1 : (u6.alloc (.cells #[.int .u32 x1, .int .u32 x2, .int .u64 x3] 44)).cell? ⟨u1.heap.size, 1, none⟩ = some (.int .u32 e1) := (K1_6.out.cell 1).trans rfl
  have q1_2 : (u6.alloc (.cells #[.int .u32 x1, .int .u32 x2, .int .u64 x3] 44)).cell? ⟨u1.heap.size, 2, none⟩ = some (.int .u64 e2) := (K1_6.out.cell 2).trans rfl
  have q1_3 : (u6.alloc (.cells #[.int .u32 x1, .int .u32 x2, .int .u64 x3] 44)).cell? ⟨u1.heap.size, 3, none⟩ = some (.int .u32 e3) := (K1_6.out.cell 3).trans rfl
  have q2_0 : (u6.alloc (.cells #[.int .u32 x1, .int .u32 x2, .int .u64 x3] 44)).cell? ⟨u2.heap.size, 0, none⟩ = some (.int .u32 e0) := (K2_6.out.cell 0).trans rfl
  have q2_1 : (u6.alloc (.cells #[.int .u32 x1, .int .u32 x2, .int .u64 x3] 44)).cell? ⟨u2.heap.size, 1, none⟩ = some (.int .u32 e1) := (K2_6.out.cell 1).trans rfl
  have q2_2 : (u6.alloc (.cells #[.int .u32 x1, .int .u32 x2, .int .u64 x3] 44)).cell? ⟨u2.heap.size, 2, none⟩ = some (.int .u64 e2) := (K2_6.out.cell 2).trans rfl
  have q2_3 : (u6.alloc (.cells #[.int .u32 x1, .int .u32 x2, .int .u64 x3] 44)).cell? ⟨u2.heap.size, 3, none⟩ = some (.int .u32 e3) := (K2_6.out.cell 3).trans rfl
  have q3_0 : (u6.alloc (.cells #[.int .u32 x1, .int .u32 x2, .int .u64 x3] 44)).cell? ⟨u3.heap.size, 0, none⟩ = some (.int .u32 v0) := (K3_6.out.cell 0).trans rfl
  have q3_1 : (u6.alloc (.cells #[.int .u32 x1, .int .u32 x2, .int .u64 x3] 44)).cell? ⟨u3.heap.size, 1, none⟩ = some (.int .u32 v1) := (K3_6.out.cell 1).trans rfl
  have q3_2 : (u6.alloc (.cells #[.int .u32 x1, .int .u32 x2, .int .u64 x3] 44)).cell? ⟨u3.heap.size, 2, none⟩ = some (.int .u32 v2) := (K3_6.out.cell 2).trans rfl
  have q4_0 : (u6.alloc (.cells #[.int .u32 x1, .int .u32 x2, .int .u64 x3] 44)).cell? ⟨u4.heap.size, 0, none⟩ = some (.int .u32 v0) := (K4_6.out.cell 0).trans rfl
  have q4_1 : (u6.alloc (.cells #[.int .u32 x1, .int .u32 x2, .int .u64 x3] 44)).cell? ⟨u4.heap.size, 1, none⟩ = some (.int .u32 v1) := (K4_6.out.cell 1).trans rfl
  have q4_2 : (u6.alloc (.cells #[.int .u32 x1, .int .u32 x2, .int .u64 x3] 44)).cell? ⟨u4.heap.size, 2, none⟩ = some (.int .u32 v2) := (K4_6.out.cell 2).trans rfl
  have q5_0 : (u6.alloc (.cells #[.int .u32 x1, .int .u32 x2, .int .u64 x3] 44)).cell? ⟨u5.heap.size, 0, none⟩ = some (.int .u32 x1) := (K5_6.out.cell 0).trans rfl
  have q5_1 : (u6.alloc (.cells #[.int .u32 x1, .int .u32 x2, .int .u64 x3] 44)).cell? ⟨u5.heap.size, 1, none⟩ = some (.int .u32 x2) := (K5_6.out.cell 1).trans rfl
  have q5_2 : (u6.alloc (.cells #[.int .u32 x1, .int .u32 x2, .int .u64 x3] 44)).cell? ⟨u5.heap.size, 2, none⟩ = some (.int .u64 x3) := (K5_6.out.cell 2).trans rfl
  have q6_0 : (u6.alloc (.cells #[.int .u32 x1, .int .u32 x2, .int .u64 x3] 44)).cell? ⟨u6.heap.size, 0, none⟩ = some (.int .u32 x1) := (K6_6.out.cell 0).trans rfl
  have q6_1 : (u6.alloc (.cells #[.int .u32 x1, .int .u32 x2, .int .u64 x3] 44)).cell? ⟨u6.heap.size, 1, none⟩ = some (.int .u32 x2) := (K6_6.out.cell 1).trans rfl
  have q6_2 : (u6.alloc (.cells #[.int .u32 x1, .int .u32 x2, .int .u64 x3] 44)).cell? ⟨u6.heap.size, 2, none⟩ = some (.int .u64 x3) := (K6_6.out.cell 2).trans rfl
  go_wp2_with fail
  have hR : Hid (Bytes (u6.alloc (.cells #[.int .u32 x1, .int .u32 x2, .int .u64 x3] 44)) (u6.alloc (.cells #[.int .u32 x1, .int .u32 x2, .int .u64 x3] 44)).heap.size A1 (l ++ guardL)) := by
    have h := HO1.out.bytes
    exact (h.below Z7.out).more Z7.out.size
  refine (kept_any A1 n c1 A n c l guardL l _ HL.out hc1 hR.out rfl HL.out (Ht.out _ Z7.out) (by omega) (by omega)).mono ?_
  rintro e w8 ⟨rfl, hb8⟩
  have B8 := Lib.hid hb8
  clear hb8
  have hk : (l ++ guardL == l ++ guardL) = true := by simp
  rw [hk]
  go_wp2_with fail
  refine (works_any _).mono ?_
  rintro e w9 ⟨rfl, hb9⟩
  go_wp2_with fail
  go_ret
  have h7 := B1.out.trans (Z7.out.mono B1.out.size)
  have h8 := h7.trans (B8.out.mono h7.size)
  exact ⟨rfl, h8.trans (hb9.mono h8.size)⟩

set_option maxRecDepth 100000 in
set_option maxHeartbeats 1600000 in
theorem law_reads (A : Option Addr) (n c : Nat) (l : List UInt8) (w : World) (hl : l.length = n) (hb : Bytes w w.heap.size A l) (hcap : n ≤ c ∧ c ≤ maxLen) :
    Calls Try.prog 8 #[.slice A n c] w fun e w' => e = .returned (.bool true) ∧ Below w.heap.size w w' := by
  by_cases hbig : 131072 < n
  · go_enter Try.func8, Try.ntmps8
    go_wp2_with fail
    refine (works_any _).mono ?_
    rintro e w1 ⟨rfl, hb1⟩
    go_wp2_with fail
    go_ret
    exact ⟨rfl, hb1⟩
  by_cases h20 : n = 20
  · subst h20
    exact reads_walk A 20 c l w hl hb hcap hbig _ _ _ _ _ 0 0 0 8 _ _ _ _ _
      (fun w A c h hc => readedge_ok A c l w hl h hc) (fun w A c h => refreadedge_ok A c l w hl h)
      (fun w A c h hc => readvert_no A 20 c w (by omega) (by omega)) (fun w A c h => refreadvert_no A 20 c w (by omega) (by omega))
      (fun w A c h hc => readlabel_ok A c l w hl h hc) (fun w A c h => refreadlabel_ok A c l w hl h)
  by_cases h12 : n = 12
  · subst h12
    exact reads_walk A 12 c l w hl hb hcap hbig 0 0 0 0 8 _ _ _ _ 0 0 0 0 8
      (fun w A c h hc => readedge_no A 12 c w (by omega) (by omega)) (fun w A c h => refreadedge_no A 12 c w (by omega) (by omega))
      (fun w A c h hc => readvert_ok A c l w hl h hc) (fun w A c h => refreadvert_ok A c l w hl h)
      (fun w A c h hc => readlabel_no A 12 c w (by omega) (by omega)) (fun w A c h => refreadlabel_no A 12 c w (by omega) (by omega))
  · exact reads_walk A n c l w hl hb hcap hbig 0 0 0 0 8 0 0 0 8 0 0 0 0 8
      (fun w A c h hc => readedge_no A n c w (by omega) h20) (fun w A c h => refreadedge_no A n c w (by omega) h20)
      (fun w A c h hc => readvert_no A n c w (by omega) h12) (fun w A c h => refreadvert_no A n c w (by omega) h12)
      (fun w A c h hc => readlabel_no A n c w (by omega) h20) (fun w A c h => refreadlabel_no A n c w (by omega) h20)
end Go.Proofs.Ytchfkelafghbdaa
