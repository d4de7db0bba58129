/- What the reference's readers answer. -/
import Derived.Test.YtchfkelafghbdaaOctGet
import Derived.Test.YtchfkelafghbdaaRes
set_option linter.unusedSimpArgs false
set_option linter.unusedVariables false
namespace Go.Proofs.Ytchfkelafghbdaa
open Go.RowKit Mp

set_option maxRecDepth 100000 in
theorem number_ok (A : Option Addr) (n c a s : Nat) (l : List UInt8) (w : World) (hl : l.length = n) (hb : Bytes w w.heap.size A l) (hn : n ≤ 1099511627776) (hs : Sz s) (ha : a + s ≤ n) :
    Calls Try.prog 44 #[.slice A n c, .int .i64 a, .int .i64 s] w fun e w' => e = .returned (.int .u64 (num l a s : Nat)) ∧ w = w' := by
  have G := Lib.hid (refget_ok A n c a s l w hl hb hn hs ha)
  clear hl hb ha hs
  go_enter Try.func44, Try.ntmps44
  go_wp2_with fail
  refine G.out.mono ?_
  rintro e w1 ⟨rfl, rfl⟩
  go_wp2_with fail
  go_ret
  exact ⟨rfl, rfl⟩

set_option maxRecDepth 100000 in
set_option maxHeartbeats 1600000 in
theorem refreadedge_ok (A : Option Addr) (c : Nat) (l : List UInt8) (w : World) (hl : l.length = 20) (hb : Bytes w w.heap.size A l) :
    Calls Try.prog 27 #[.slice A 20 c] w fun e w' => e = .returned (.tuple #[.agg #[.int .u32 (num l 0 4 : Nat), .int .u32 (num l 4 4 : Nat), .int .u64 (num l 8 8 : Nat), .int .u32 (num l 16 4 : Nat)], .int .i64 0]) ∧ Below w.heap.size w w' := by
  have HB : Hid (Bytes (w.alloc (.cells #[.int .u32 0, .int .u32 0, .int .u64 0, .int .u32 0] 40)) (w.alloc (.cells #[.int .u32 0, .int .u32 0, .int .u64 0, .int .u32 0] 40)).heap.size A l) := by
    have h : Bytes (w.alloc (.cells #[.int .u32 0, .int .u32 0, .int .u64 0, .int .u32 0] 40)) (w.alloc (.cells #[.int .u32 0, .int .u32 0, .int .u64 0, .int .u32 0] 40)).heap.size A l := (hb.below ((Below.refl _ _).alloc (Nat.le_refl _) _)).more (by simp)
    exact h
  have G0 := Lib.hid (number_ok A 20 c 0 4 l _ hl HB.out (by omega) (by decide) (by omega))
  have G1 := Lib.hid (number_ok A 20 c 4 4 l _ hl HB.out (by omega) (by decide) (by omega))
  have G2 := Lib.hid (number_ok A 20 c 8 8 l _ hl HB.out (by omega) (by decide) (by omega))
  have G3 := Lib.hid (number_ok A 20 c 16 4 l _ hl HB.out (by omega) (by decide) (by omega))
  have b0 : num l 0 4 < 4294967296 := num_lt l 0 4
  have b1 : num l 4 4 < 4294967296 := num_lt l 4 4
  have b2 : num l 8 8 < 18446744073709551616 := num_lt l 8 8
  have b3 : num l 16 4 < 4294967296 := num_lt l 16 4
  clear HB hb hl
  generalize num l 0 4 = v0 at *
  generalize num l 4 4 = v1 at *
  generalize num l 8 8 = v2 at *
  generalize num l 16 4 = v3 at *
  go_enter Try.func27, Try.ntmps27
  go_wp2_with fail
  refine G0.out.mono ?_
  rintro e w1 ⟨rfl, rfl⟩
  go_wp2_with fail
  refine G1.out.mono ?_
  rintro e w2 ⟨rfl, rfl⟩
  go_wp2_with fail
  refine G2.out.mono ?_
  rintro e w3 ⟨rfl, rfl⟩
  go_wp2_with fail
  refine G3.out.mono ?_
  rintro e w4 ⟨rfl, rfl⟩
  go_wp2_with fail
  refine bodyPost_ret (resCT rfl _ _ w.heap.size 40 #[.int .u32 v0, .int .u32 v1, .int .u64 v2, .int .u32 v3] _ rfl ?_ Try.underlying40 rfl (by kernel_rfl)) rfl ⟨rfl, ?_⟩
  · exact Blk.new _ _ _
  · exact (Below.refl _ _).alloc (Nat.le_refl _) _

set_option maxRecDepth 100000 in
set_option maxHeartbeats 1600000 in
theorem refreadedge_no (A : Option Addr) (n c : Nat) (w : World) (hn : n ≤ 1099511627776) (h : n ≠ 20) :
    Calls Try.prog 27 #[.slice A n c] w fun e w' => e = .returned (.tuple #[.agg #[.int .u32 0, .int .u32 0, .int .u64 0, .int .u32 0], .int .i64 8]) ∧ Below w.heap.size w w' := by
  have hne : ((n : Int) != 20) = true := by simp; omega
  clear h
  go_enter Try.func27, Try.ntmps27
  go_wp2_with fail
  refine bodyPost_ret (resCT rfl _ _ w.heap.size 40 #[.int .u32 0, .int .u32 0, .int .u64 0, .int .u32 0] _ rfl ?_ Try.underlying40 rfl (by kernel_rfl)) rfl ⟨rfl, ?_⟩
  · exact Blk.new _ _ _
  · exact (Below.refl _ _).alloc (Nat.le_refl _) _

set_option maxRecDepth 100000 in
set_option maxHeartbeats 1600000 in
theorem refreadvert_ok (A : Option Addr) (c : Nat) (l : List UInt8) (w : World) (hl : l.length = 12) (hb : Bytes w w.heap.size A l) :
    Calls Try.prog 29 #[.slice A 12 c] w fun e w' => e = .returned (.tuple #[.agg #[.int .u32 (num l 0 4 : Nat), .int .u32 (num l 4 4 : Nat), .int .u32 (num l 8 4 : Nat)], .int .i64 0]) ∧ Below w.heap.size w w' := by
  have HB : Hid (Bytes (w.alloc (.cells #[.int .u32 0, .int .u32 0, .int .u32 0] 42)) (w.alloc (.cells #[.int .u32 0, .int .u32 0, .int .u32 0] 42)).heap.size A l) := by
    have h : Bytes (w.alloc (.cells #[.int .u32 0, .int .u32 0, .int .u32 0] 42)) (w.alloc (.cells #[.int .u32 0, .int .u32 0, .int .u32 0] 42)).heap.size A l := (hb.below ((Below.refl _ _).alloc (Nat.le_refl _) _)).more (by simp)
    exact h
  have G0 := Lib.hid (number_ok A 12 c 0 4 l _ hl HB.out (by omega) (by decide) (by omega))
  have G1 := Lib.hid (number_ok A 12 c 4 4 l _ hl HB.out (by omega) (by decide) (by omega))
  have G2 := Lib.hid (number_ok A 12 c 8 4 l _ hl HB.out (by omega) (by decide) (by omega))
  have b0 : num l 0 4 < 4294967296 := num_lt l 0 4
  have b1 : num l 4 4 < 4294967296 := num_lt l 4 4
  have b2 : num l 8 4 < 4294967296 := num_lt l 8 4
  clear HB hb hl
  generalize num l 0 4 = v0 at *
  generalize num l 4 4 = v1 at *
  generalize num l 8 4 = v2 at *
  go_enter Try.func29, Try.ntmps29
  go_wp2_with fail
  refine G0.out.mono ?_
  rintro e w1 ⟨rfl, rfl⟩
  go_wp2_with fail
  refine G1.out.mono ?_
  rintro e w2 ⟨rfl, rfl⟩
  go_wp2_with fail
  refine G2.out.mono ?_
  rintro e w3 ⟨rfl, rfl⟩
  go_wp2_with fail
  refine bodyPost_ret (resCT rfl _ _ w.heap.size 42 #[.int .u32 v0, .int .u32 v1, .int .u32 v2] _ rfl ?_ Try.underlying42 rfl (by kernel_rfl)) rfl ⟨rfl, ?_⟩
  · exact Blk.new _ _ _
  · exact (Below.refl _ _).alloc (Nat.le_refl _) _

set_option maxRecDepth 100000 in
set_option maxHeartbeats 1600000 in
theorem refreadvert_no (A : Option Addr) (n c : Nat) (w : World) (hn : n ≤ 1099511627776) (h : n ≠ 12) :
    Calls Try.prog 29 #[.slice A n c] w fun e w' => e = .returned (.tuple #[.agg #[.int .u32 0, .int .u32 0, .int .u32 0], .int .i64 8]) ∧ Below w.heap.size w w' := by
  have hne : ((n : Int) != 12) = true := by simp; omega
  clear h
  go_enter Try.func29, Try.ntmps29
  go_wp2_with fail
  refine bodyPost_ret (resCT rfl _ _ w.heap.size 42 #[.int .u32 0, .int .u32 0, .int .u32 0] _ rfl ?_ Try.underlying42 rfl (by kernel_rfl)) rfl ⟨rfl, ?_⟩
  · exact Blk.new _ _ _
  · exact (Below.refl _ _).alloc (Nat.le_refl _) _

set_option maxRecDepth 100000 in
set_option maxHeartbeats 1600000 in
theorem refreadlabel_ok (A : Option Addr) (c : Nat) (l : List UInt8) (w : World) (hl : l.length = 20) (hb : Bytes w w.heap.size A l) :
    Calls Try.prog 31 #[.slice A 20 c] w fun e w' => e = .returned (.tuple #[.int .u32 (num l 0 4 : Nat), .agg #[.int .u32 (num l 4 4 : Nat), .int .u32 (num l 8 4 : Nat), .int .u64 (num l 12 8 : Nat)], .int .i64 0]) ∧ Below w.heap.size w w' := by
  have HB : Hid (Bytes (w.alloc (.cells #[.int .u32 0, .int .u32 0, .int .u64 0] 44)) (w.alloc (.cells #[.int .u32 0, .int .u32 0, .int .u64 0] 44)).heap.size A l) := by
    have h : Bytes (w.alloc (.cells #[.int .u32 0, .int .u32 0, .int .u64 0] 44)) (w.alloc (.cells #[.int .u32 0, .int .u32 0, .int .u64 0] 44)).heap.size A l := (hb.below ((Below.refl _ _).alloc (Nat.le_refl _) _)).more (by simp)
    exact h
  have G0 := Lib.hid (number_ok A 20 c 0 4 l _ hl HB.out (by omega) (by decide) (by omega))
  have G1 := Lib.hid (number_ok A 20 c 4 4 l _ hl HB.out (by omega) (by decide) (by omega))
  have G2 := Lib.hid (number_ok A 20 c 8 4 l _ hl HB.out (by omega) (by decide) (by omega))
  have G3 := Lib.hid (number_ok A 20 c 12 8 l _ hl HB.out (by omega) (by decide) (by omega))
  have b0 : num l 0 4 < 4294967296 := num_lt l 0 4
  have b1 : num l 4 4 < 4294967296 := num_lt l 4 4
  have b2 : num l 8 4 < 4294967296 := num_lt l 8 4
  have b3 : num l 12 8 < 18446744073709551616 := num_lt l 12 8
  clear HB hb hl
  generalize num l 0 4 = v0 at *
  generalize num l 4 4 = v1 at *
  generalize num l 8 4 = v2 at *
  generalize num l 12 8 = v3 at *
  go_enter Try.func31, Try.ntmps31
  go_wp2_with fail
  refine G0.out.mono ?_
  rintro e w1 ⟨rfl, rfl⟩
  go_wp2_with fail
  refine G1.out.mono ?_
  rintro e w2 ⟨rfl, rfl⟩
  go_wp2_with fail
  refine G2.out.mono ?_
  rintro e w3 ⟨rfl, rfl⟩
  go_wp2_with fail
  refine G3.out.mono ?_
  rintro e w4 ⟨rfl, rfl⟩
  go_wp2_with fail
  refine bodyPost_ret (resTCT rfl _ _ w.heap.size 44 #[.int .u32 v1, .int .u32 v2, .int .u64 v3] _ rfl ?_ Try.underlying44 rfl (by kernel_rfl)) rfl ⟨rfl, ?_⟩
  · exact Blk.new _ _ _
  · exact (Below.refl _ _).alloc (Nat.le_refl _) _

set_option maxRecDepth 100000 in
set_option maxHeartbeats 1600000 in
theorem refreadlabel_no (A : Option Addr) (n c : Nat) (w : World) (hn : n ≤ 1099511627776) (h : n ≠ 20) :
    Calls Try.prog 31 #[.slice A n c] w fun e w' => e = .returned (.tuple #[.int .u32 0, .agg #[.int .u32 0, .int .u32 0, .int .u64 0], .int .i64 8]) ∧ Below w.heap.size w w' := by
  have hne : ((n : Int) != 20) = true := by simp; omega
  clear h
  go_enter Try.func31, Try.ntmps31
  go_wp2_with fail
  refine bodyPost_ret (resTCT rfl _ _ w.heap.size 44 #[.int .u32 0, .int .u32 0, .int .u64 0] _ rfl ?_ Try.underlying44 rfl (by kernel_rfl)) rfl ⟨rfl, ?_⟩
  · exact Blk.new _ _ _
  · exact (Below.refl _ _).alloc (Nat.le_refl _) _
end Go.Proofs.Ytchfkelafghbdaa
