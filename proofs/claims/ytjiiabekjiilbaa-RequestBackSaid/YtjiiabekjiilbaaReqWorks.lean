/- The anchor of the statements on questions and answers. -/
import Derived.Test.YtjiiabekjiilbaaReqKD
set_option linter.unusedSimpArgs false
set_option linter.unusedVariables false
namespace Go.Proofs.Ytjiiabekjiilbaa
open Go.RowKit Mp

theorem ask_num1 (k : UInt8) (s t : Nat) (h : s ≤ 4294967295) : num (askL k s t) 1 4 = s := by
  unfold askL num
  rw [List.append_assoc, List.singleton_append, List.drop_succ_cons, List.drop_zero, List.take_append_of_le_length (by rw [le_length]; omega), List.take_of_length_le (by rw [le_length]; omega), bval_le_lt (by omega)]
theorem ask_num5 (k : UInt8) (s t : Nat) (h : t ≤ 4294967295) : num (askL k s t) 5 4 = t := by
  have hl : ([k] ++ le 4 s).length = 5 := by simp [le_length]
  unfold askL num
  rw [← hl, List.drop_left, List.take_of_length_le (by rw [le_length]; omega), bval_le_lt (by omega)]
theorem ask_asks (k : UInt8) (s t : Nat) (hk : k = 1 ∨ k = 2 ∨ k = 3) : Asks (askL k s t) k := ⟨askL_length k s t, rfl, hk⟩
theorem ask_ans (k : UInt8) (s t : Nat) (hk : k = 1 ∨ k = 2 ∨ k = 3) (hs : s ≤ 4294967295) (ht : t ≤ 4294967295) : AskAns (askL k s t) k.toNat s t 0 :=
  .inl ⟨k, ask_asks k s t hk, rfl, (ask_num1 k s t hs).symm, (ask_num5 k s t ht).symm, rfl⟩
theorem ask_not (k : UInt8) (s t : Nat) (hk : ¬ (k = 1 ∨ k = 2 ∨ k = 3)) : AskAns (askL k s t) 0 0 0 8 := by
  refine .inr ⟨?_, rfl, rfl, rfl, rfl⟩
  rintro k' ⟨_, h2, h3⟩
  have : some k = some k' := h2
  injection this with this
  subst this
  exact hk h3

set_option maxRecDepth 100000 in
set_option maxHeartbeats 1600000 in
theorem works_any (w : World) : Calls Try.prog 10 #[] w fun e w' => e = .returned (.bool true) ∧ Below w.heap.size w w' := by
  go_enter Try.func10, Try.ntmps10
  go_wp2_with fail
  refine (write_any 2 1 258 _ (by omega) (by omega)).mono ?_
  rintro e w1 ⟨A1, c1, rfl, hO1, hb1⟩
  have HO1 := Lib.hid hO1
  have Hb1 := Lib.hid hb1
  clear hO1 hb1
  go_wp2_with fail
  refine (read_ans A1 9 c1 (askL 2 1 258) 2 1 258 0 _ (ask_ans 2 1 258 (by simp) (by omega) (by omega)) HO1.out.1 HO1.out.bytes (by omega) HO1.out.2.1).mono ?_
  rintro e w2 ⟨rfl, hb2⟩
  have K2 := Lib.hid (Blk.new w2 25 #[.int .u8 2, .int .u32 1, .int .u32 258])
  have Hb2 : Hid (Below w.heap.size w (w2.alloc (.cells #[.int .u8 2, .int .u32 1, .int .u32 258] 25))) := by
    have h0 := Hb1.out.trans (hb2.mono Hb1.out.size)
    have h := h0.alloc h0.size (.cells #[.int .u8 2, .int .u32 1, .int .u32 258] 25)
    exact h
  clear hb2
  go_upto_region 2 with (fail)
  generalize hg2 : w2.alloc (.cells #[.int .u8 2, .int .u32 1, .int .u32 258] 25) = w3 at *
  clear hg2
  go_wp2_with fail
  refine (answer1 0 true 7 0 nil_ 0 _ rfl rfl (by omega) (by omega)).mono ?_
  rintro e w4 ⟨A4, n4, c4, rfl, hO4, hb4⟩
  have HO4 : Hid (OwnB w4 w3.heap.size 5 A4 n4 c4 (0 :: distL true 7)) := by
    have h := hO4
    exact h
  have K4 := Lib.hid (K2.out.below hb4 K2.out.lt)
  have Hb4 := Lib.hid (Hb2.out.trans (hb4.mono Hb2.out.size))
  have hn4 : n4 = 10 := by rw [← hO4.1]; rfl
  clear hO4 hb4
  subst hn4
  go_wp2_with fail
  refine (readans1 10 c4 A4 (0 :: distL true 7) _ HO4.out.1 HO4.out.bytes (by omega) HO4.out.2.1 HO4.out.2.2.1).mono ?_
  rintro e w5 ⟨hr, hb5⟩
  have he := rh_dist (by omega) hr
  unfold anAns repC at he
  subst he
  have K5 := Lib.hid ((K4.out.below hb5 K4.out.lt).alloc (.cells #[.int .i64 0, .bool true, .int .u64 7, nil_, .int .u8 0] 37))
  have R5 := Lib.hid (Blk.new w5 37 #[.int .i64 0, .bool true, .int .u64 7, nil_, .int .u8 0])
  have Hb5 : Hid (Below w.heap.size w (w5.alloc (.cells #[.int .i64 0, .bool true, .int .u64 7, nil_, .int .u8 0] 37))) := by
    have h0 := Hb4.out.trans (hb5.mono Hb4.out.size)
    have h := h0.alloc h0.size (.cells #[.int .i64 0, .bool true, .int .u64 7, nil_, .int .u8 0] 37)
    exact h
  clear hr hb5
  go_upto_region 3 with (fail)
  generalize hg5 : w5.alloc (.cells #[.int .i64 0, .bool true, .int .u64 7, nil_, .int .u8 0] 37) = w6 at *
  clear hg5
  go_wp2_with fail
  refine (readans3 1 1 (some ⟨w6.heap.size, 0, none⟩) [12] _ rfl ((bytes_one w6 5 12 12 rfl).more (by simp)) (by omega) (by omega) (by simp [maxLen])).mono ?_
  rintro e w7 ⟨hr, hb7⟩
  have he := rh_err (by decide) hr
  unfold anAns repC at he
  subst he
  have hb7' : Below w6.heap.size w6 w7 := ((Below.refl _ _).alloc (Nat.le_refl _) _).trans (hb7.mono (by simp))
  have K7 := Lib.hid ((K5.out.below hb7' K5.out.lt).alloc (.cells #[.int .i64 12, .bool false, .int .u64 0, nil_, .int .u8 0] 37))
  have R7 := Lib.hid ((R5.out.below hb7' R5.out.lt).alloc (.cells #[.int .i64 12, .bool false, .int .u64 0, nil_, .int .u8 0] 37))
  have S7 := Lib.hid (Blk.new w7 37 #[.int .i64 12, .bool false, .int .u64 0, nil_, .int .u8 0])
  have Hb7 : Hid (Below w.heap.size w (w7.alloc (.cells #[.int .i64 12, .bool false, .int .u64 0, nil_, .int .u8 0] 37))) := by
    have h0 := Hb5.out.trans (hb7'.mono Hb5.out.size)
    have h := h0.alloc h0.size (.cells #[.int .i64 12, .bool false, .int .u64 0, nil_, .int .u8 0] 37)
    exact h
  clear hr hb7 hb7'
  go_upto_region 4 with (fail)
  generalize hg7 : w7.alloc (.cells #[.int .i64 12, .bool false, .int .u64 0, nil_, .int .u8 0] 37) = w8 at *
  clear hg7
  have q0 : w8.cell? ⟨w2.heap.size, 0, none⟩ = some (.int .u8 2) := (K7.out.cell 0).trans rfl
  have q1 : w8.cell? ⟨w2.heap.size, 1, none⟩ = some (.int .u32 1) := (K7.out.cell 1).trans rfl
  have q2 : w8.cell? ⟨w2.heap.size, 2, none⟩ = some (.int .u32 258) := (K7.out.cell 2).trans rfl
  have q3 : w8.cell? ⟨w5.heap.size, 1, none⟩ = some (.bool true) := (R7.out.cell 1).trans rfl
  have q4 : w8.cell? ⟨w5.heap.size, 2, none⟩ = some (.int .u64 7) := (R7.out.cell 2).trans rfl
  have q5 : w8.cell? ⟨w7.heap.size, 0, none⟩ = some (.int .i64 12) := (S7.out.cell 0).trans rfl
  go_wp2_with fail
  go_ret
  exact ⟨rfl, Hb7.out⟩
theorem works_since {w : World} (W : World) (hS : Since w W) :
    Calls Try.prog 10 #[] W fun e w' => e = .returned (.bool true) ∧ Since w w' :=
  (works_any W).mono fun _ _ ⟨h1, h2⟩ => ⟨h1, hS.step h2⟩
end Go.Proofs.Ytjiiabekjiilbaa
