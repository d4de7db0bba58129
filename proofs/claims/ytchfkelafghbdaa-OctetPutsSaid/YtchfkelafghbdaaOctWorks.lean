/- The anchor of the statements on bytes: a number is put and got, an edge is written and read. -/
import Derived.Test.YtchfkelafghbdaaOctRead
import Derived.Test.YtchfkelafghbdaaOctWrite
import Derived.Test.YtchfkelafghbdaaSame
set_option linter.unusedSimpArgs false
set_option linter.unusedVariables false
namespace Go.Proofs.Ytchfkelafghbdaa
open Go.RowKit Mp

def anchorE : List UInt8 := [1, 0, 0, 0, 2, 0, 0, 0, 3, 0, 0, 0, 0, 0, 0, 0, 255, 255, 255, 255]
theorem putL_anchor : putL [9] 66051 2 = [9, 3, 2] := by decide +kernel
theorem num_anchor : num [9, 3, 2] 1 2 = 515 := by decide +kernel
theorem edgeL_anchor : edgeL 1 2 3 4294967295 = anchorE := by decide +kernel
theorem anchor0 : num anchorE 0 4 = 1 := by decide +kernel
theorem anchor1 : num anchorE 4 4 = 2 := by decide +kernel
theorem anchor2 : num anchorE 8 8 = 3 := by decide +kernel
theorem anchor3 : num anchorE 16 4 = 4294967295 := by decide +kernel

set_option maxRecDepth 100000 in
set_option maxHeartbeats 1600000 in
theorem works_any (w : World) : Calls Try.prog 11 #[] w fun e w' => e = .returned (.bool true) ∧ Below w.heap.size w w' := by
  go_enter Try.func11, Try.ntmps11
  go_wp2_with fail
  refine (put_any (some ⟨w.heap.size, 0, none⟩) 1 1 66051 2 [9] _ rfl ((bytes_one w 5 9 9 rfl).more (by simp)) (by omega) (by omega) (by omega)).mono ?_
  rintro e w1 ⟨A1, m1, c1, rfl, hO1, hb1⟩
  rw [putL_anchor] at hO1
  have e1 : m1 = 3 := hO1.1.symm
  subst e1
  have HO1 := Lib.hid hO1
  have Hb1 := Lib.hid hb1
  clear hO1 hb1
  go_wp2_with fail
  refine (get_ok A1 3 c1 1 2 [9, 3, 2] _ rfl HO1.out.bytes (by omega) HO1.out.2.1 (by decide) (by omega)).mono ?_
  rintro e w2 ⟨rfl, hb2⟩
  rw [num_anchor]
  have Hb2 := Lib.hid hb2
  clear hb2
  go_wp2_with fail
  refine (edge_any 1 2 3 4294967295 _ (by omega) (by omega) (by omega) (by omega)).mono ?_
  rintro e w3 ⟨A3, c3, rfl, hO3, hb3⟩
  rw [edgeL_anchor] at hO3
  have HO3 := Lib.hid hO3
  have Hb3 := Lib.hid hb3
  clear hO3 hb3
  go_wp2_with fail
  refine (readedge_ok A3 c3 anchorE _ rfl HO3.out.bytes HO3.out.2.1).mono ?_
  rintro e w4 ⟨rfl, hb4⟩
  rw [anchor0, anchor1, anchor2, anchor3]
  have Hb4 := Lib.hid hb4
  clear hb4
  have kk := Blk.new w4 40 #[.int .u32 1, .int .u32 2, .int .u64 3, .int .u32 4294967295]
  have q2 : (w4.alloc (.cells #[.int .u32 1, .int .u32 2, .int .u64 3, .int .u32 4294967295] 40)).cell? ⟨w4.heap.size, 2, none⟩ = some (.int .u64 3) := (kk.cell 2).trans rfl
  have q3 : (w4.alloc (.cells #[.int .u32 1, .int .u32 2, .int .u64 3, .int .u32 4294967295] 40)).cell? ⟨w4.heap.size, 3, none⟩ = some (.int .u32 4294967295) := (kk.cell 3).trans rfl
  have hB : Bytes w4 w4.heap.size A1 [9, 3, 2] := by
    have h2 := (HO1.out.bytes.below Hb2.out).more Hb2.out.size
    have h3 := (h2.below Hb3.out).more Hb3.out.size
    exact (h3.below Hb4.out).more Hb4.out.size
  have hs : (convert 22 9 (.slice A1 3 c1)).run Try.prog (w4.alloc (.cells #[.int .u32 1, .int .u32 2, .int .u64 3, .int .u32 4294967295] 40)) = .ok (.string { data := #[9, 3, 2] }) (w4.alloc (.cells #[.int .u32 1, .int .u32 2, .int .u64 3, .int .u32 4294967295] 40)) :=
    str_any c1 (hB.below ((Below.refl _ _).alloc (Nat.le_refl _) _)) rfl
  have hz : Below w.heap.size w (w4.alloc (.cells #[.int .u32 1, .int .u32 2, .int .u64 3, .int .u32 4294967295] 40)) := by
    have b0 : Below w.heap.size w (w.alloc (.cells #[.int .u8 9] 5)) := (Below.refl _ _).alloc (Nat.le_refl _) _
    have b1 := b0.trans (Hb1.out.mono b0.size)
    have b2 := b1.trans (Hb2.out.mono b1.size)
    have b3 := b2.trans (Hb3.out.mono b2.size)
    have b4 := b3.trans (Hb4.out.mono b3.size)
    exact b4.alloc b4.size _
  have Hz := Lib.hid hz
  clear kk hB hz
  go_wp2_with fail
  go_ret
  exact ⟨rfl, Hz.out⟩

/-- the anchor, in whatever world stands as w did below its blocks. -/
theorem works_since {w : World} (W : World) (hS : Since w W) :
    Calls Try.prog 11 #[] W fun e w' => e = .returned (.bool true) ∧ Since w w' :=
  (works_any W).mono fun _ _ ⟨h1, h2⟩ => ⟨h1, hS.step h2⟩
end Go.Proofs.Ytchfkelafghbdaa
