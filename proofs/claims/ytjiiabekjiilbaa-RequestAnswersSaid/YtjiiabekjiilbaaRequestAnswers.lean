/- RequestAnswers: the bytes of any reply, in new memory. -/
import Derived.Test.YtjiiabekjiilbaaReqRefAns
import Derived.Test.YtjiiabekjiilbaaReqWorks
import Derived.Test.YtjiiabekjiilbaaApart3
import Derived.Deep.Cut
set_option linter.unusedSimpArgs false
set_option linter.unusedVariables false
namespace Go.Proofs.Ytjiiabekjiilbaa
open Go.RowKit Mp

set_option maxRecDepth 100000 in
set_option maxHeartbeats 6400000 in
theorem law_answers (k : Nat) (err : Int) (fd : Bool) (ds : Nat) (A : Option Addr) (n c : Nat) (ws : List Ed) (st : Nat) (w : World) (hk : k ≤ 255) (herr : -9223372036854775808 ≤ err ∧ err ≤ 9223372036854775807) (hds : ds ≤ 18446744073709551615) (hst : st ≤ 255)
    (hway : ws.length = n ∧ WayAt w w.heap.size A ws ∧ n ≤ c ∧ c ≤ maxLen ∧ ∀ x ∈ ws, x.ok) :
    Calls Try.prog 4 #[.int .u8 k, .agg (repC err fd ds (.slice A n c) st)] w fun e w' => e = .returned (.bool true) ∧ Below w.heap.size w w' := by
  obtain ⟨hws, hW, hnc, hcm, hok⟩ := hway
  obtain ⟨eb, heb⟩ := low_byte err
  have HWS := Lib.hid hws
  have HOK := Lib.hid hok
  have HEB := Lib.hid heb
  have hnm : n ≤ 9223372036854775807 := by simp only [maxLen] at hcm; omega
  have K0 := Lib.hid (Blk.new w 37 (repC err fd ds (.slice A n c) st))
  have Z0 : Hid (Below w.heap.size w (w.alloc (.cells (repC err fd ds (.slice A n c) st) 37))) := (Below.refl w.heap.size w).alloc (Nat.le_refl _) _
  have HW := Lib.hid hW
  clear hws hW hok hcm heb
  go_enter Try.func4, Try.ntmps4
  by_cases hbig : 2048 < n
  · unfold repC at *
    go_wp2_with fail
    refine (works_any _).mono ?_
    rintro e w1 ⟨rfl, hb1⟩
    go_wp2_with fail
    go_ret
    exact ⟨rfl, Z0.out.trans (hb1.mono Z0.out.size)⟩
  · have hn : n ≤ 2048 := by omega
    clear hbig hnm
    unfold repC at *
    go_upto_region 3 with (fail)
    generalize hg0 : w.alloc (.cells _ 37) = w0 at *
    clear hg0
    have p0 : w0.cell? ⟨w.heap.size, 0, none⟩ = some (.int .i64 err) := (K0.out.cell 0).trans rfl
    have p1 : w0.cell? ⟨w.heap.size, 1, none⟩ = some (.bool fd) := (K0.out.cell 1).trans rfl
    have p2 : w0.cell? ⟨w.heap.size, 2, none⟩ = some (.int .u64 ds) := (K0.out.cell 2).trans rfl
    have p3 : w0.cell? ⟨w.heap.size, 3, none⟩ = some (.slice A n c) := (K0.out.cell 3).trans rfl
    have p4 : w0.cell? ⟨w.heap.size, 4, none⟩ = some (.int .u8 st) := (K0.out.cell 4).trans rfl
    have KI := Lib.hid (Blk.new w0 37 #[.int .i64 err, .bool fd, .int .u64 ds, .slice A n c, .int .u8 st])
    have KR := Lib.hid (K0.out.alloc (.cells #[.int .i64 err, .bool fd, .int .u64 ds, .slice A n c, .int .u8 st] 37))
    have ZI := Lib.hid (Z0.out.alloc Z0.out.size (.cells #[.int .i64 err, .bool fd, .int .u64 ds, .slice A n c, .int .u8 st] 37))
    have hlt0 : Hid (w.heap.size < w0.heap.size) := Lib.hid K0.out.lt
    go_upto_region 4 with (fail)
    clear p0 p1 p2 p3 p4
    generalize hgi : w0.alloc (.cells _ 37) = wi at *
    clear hgi
    have p3 : wi.cell? ⟨w.heap.size, 3, none⟩ = some (.slice A n c) := (KR.out.cell 3).trans rfl
    go_wp2_with fail
    refine (copyway_any A n c ws _ HWS.out ((HW.out.below ZI.out (Nat.le_refl _)).more' ZI.out.size) (by omega)).mono ?_
    rintro e w1 ⟨Ai, ci, rfl, hRi, hb1⟩
    have KI1 := Lib.hid (KI.out.below hb1 KI.out.lt)
    have KR1 := Lib.hid (KR.out.below hb1 KR.out.lt)
    have Z1 : Hid (Below w.heap.size w w1) := ZI.out.trans (hb1.mono ZI.out.size)
    clear hb1 p3
    have i3 : w1.cell? ⟨w0.heap.size, 3, none⟩ = some (.slice A n c) := (KI1.out.cell 3).trans rfl
    have j3 : w1.frozen? ⟨w0.heap.size, 3, none⟩ = false := KI1.out.frozen 3
    have KI2 : Hid (Blk (w1.setCell ⟨w0.heap.size, 3, none⟩ (.slice Ai n ci)) w0.heap.size 37 #[.int .i64 err, .bool fd, .int .u64 ds, .slice Ai n ci, .int .u8 st]) := by
      have h := KI1.out.set_ 3 (.slice Ai n ci)
      exact h
    have KR2 := Lib.hid (KR1.out.far (p := ⟨w0.heap.size, 3, none⟩) (Nat.ne_of_lt hlt0.out) (.slice Ai n ci))
    have Z2 := Lib.hid (Z1.out.setCell (p := ⟨w0.heap.size, 3, none⟩) (Nat.le_of_lt hlt0.out) (.slice Ai n ci))
    have R2 := Lib.hid (own_row_other hRi KI1.out (by decide) (grown_two (World.grownBy.refl w1 (some w0.heap.size)) 3 (.slice Ai n ci)))
    clear hRi KI1 KR1 KI KR ZI Z1
    go_upto_region 5 with (fail)
    clear i3 j3
    generalize w1.setCell ⟨w0.heap.size, 3, none⟩ (.slice Ai n ci) = w2 at *
    have i0' : w2.cell? ⟨w0.heap.size, 0, none⟩ = some (.int .i64 err) := (KI2.out.cell 0).trans rfl
    have i1 : w2.cell? ⟨w0.heap.size, 1, none⟩ = some (.bool fd) := (KI2.out.cell 1).trans rfl
    have i2 : w2.cell? ⟨w0.heap.size, 2, none⟩ = some (.int .u64 ds) := (KI2.out.cell 2).trans rfl
    have i3 : w2.cell? ⟨w0.heap.size, 3, none⟩ = some (.slice Ai n ci) := (KI2.out.cell 3).trans rfl
    have i4 : w2.cell? ⟨w0.heap.size, 4, none⟩ = some (.int .u8 st) := (KI2.out.cell 4).trans rfl
    go_wp2_with fail
    refine (answer_any k err fd ds n ci st Ai ws eb _ HEB.out herr hds hst HWS.out (way_of_row' R2.out) HOK.out (by omega)).mono ?_
    rintro e w3 ⟨A3, m3, c3, rfl, hO3, hb3⟩
    have HO3 := Lib.hid hO3
    have KI3 := Lib.hid (KI2.out.below hb3 KI2.out.lt)
    have KR3 := Lib.hid (KR2.out.below hb3 KR2.out.lt)
    have R3 := Lib.hid (own_row_below R2.out hb3)
    have Z3 := Lib.hid (Z2.out.trans (hb3.mono Z2.out.size))
    have hm3 : m3 ≤ 40000 := by have h := ans_length_le k eb fd ds st n ws HWS.out; have := hO3.1; omega
    clear hO3 hb3 i0' i1 i2 i3 i4
    have p0 : w3.cell? ⟨w.heap.size, 0, none⟩ = some (.int .i64 err) := (KR3.out.cell 0).trans rfl
    have p1 : w3.cell? ⟨w.heap.size, 1, none⟩ = some (.bool fd) := (KR3.out.cell 1).trans rfl
    have p2 : w3.cell? ⟨w.heap.size, 2, none⟩ = some (.int .u64 ds) := (KR3.out.cell 2).trans rfl
    have p3 : w3.cell? ⟨w.heap.size, 3, none⟩ = some (.slice A n c) := (KR3.out.cell 3).trans rfl
    have p4 : w3.cell? ⟨w.heap.size, 4, none⟩ = some (.int .u8 st) := (KR3.out.cell 4).trans rfl
    go_wp2_with fail
    refine (refanswer_any k err fd ds n c st A ws eb _ HEB.out herr hds hst HWS.out ((HW.out.below Z3.out (Nat.le_refl _)).more' Z3.out.size) HOK.out (by omega)).mono ?_
    rintro e w4 ⟨A4, m4, c4, rfl, hO4, hb4⟩
    have HO4 := Lib.hid hO4
    have HO34 := Lib.hid (HO3.out.below hb4)
    have KI4 := Lib.hid (KI3.out.below hb4 KI3.out.lt)
    have KR4 := Lib.hid (KR3.out.below hb4 KR3.out.lt)
    have R4 := Lib.hid (own_row_below R3.out hb4)
    have Z4 := Lib.hid (Z3.out.trans (hb4.mono Z3.out.size))
    clear hO4 hb4 p0 p1 p2 p3 p4
    have i3 : w4.cell? ⟨w0.heap.size, 3, none⟩ = some (.slice Ai n ci) := (KI4.out.cell 3).trans rfl
    have p3 : w4.cell? ⟨w.heap.size, 3, none⟩ = some (.slice A n c) := (KR4.out.cell 3).trans rfl
    go_wp2_with fail
    refine (eq_any A3 m3 c3 A4 m4 c4 _ _ _ HO34.out.1 HO34.out.bytes HO4.out.1 HO4.out.bytes).mono ?_
    rintro e w4' ⟨he, rfl⟩
    rw [beq_self_eq_true] at he
    subst he
    go_wp2_with fail
    refine (eqway_yes n ci c Ai A ws _ HWS.out (way_of_row' R4.out) ((HW.out.below Z4.out (Nat.le_refl _)).more' Z4.out.size) (by omega)).mono ?_
    rintro e w5 ⟨rfl, hb5⟩
    have HO5 := Lib.hid (HO34.out.below hb5)
    have KI5 := Lib.hid (KI4.out.below hb5 KI4.out.lt)
    have R5 := Lib.hid (own_row_below R4.out hb5)
    have Z5 := Lib.hid (Z4.out.trans (hb5.mono Z4.out.size))
    clear hb5 i3 p3
    have i0' : w5.cell? ⟨w0.heap.size, 0, none⟩ = some (.int .i64 err) := (KI5.out.cell 0).trans rfl
    have i1 : w5.cell? ⟨w0.heap.size, 1, none⟩ = some (.bool fd) := (KI5.out.cell 1).trans rfl
    have i2 : w5.cell? ⟨w0.heap.size, 2, none⟩ = some (.int .u64 ds) := (KI5.out.cell 2).trans rfl
    have i3 : w5.cell? ⟨w0.heap.size, 3, none⟩ = some (.slice Ai n ci) := (KI5.out.cell 3).trans rfl
    have i4 : w5.cell? ⟨w0.heap.size, 4, none⟩ = some (.int .u8 st) := (KI5.out.cell 4).trans rfl
    go_wp2_with fail
    refine (answer_any k err fd ds n ci st Ai ws eb _ HEB.out herr hds hst HWS.out (way_of_row' R5.out) HOK.out (by omega)).mono ?_
    rintro e w6 ⟨A6, m6, c6, rfl, hO6, hb6⟩
    have HO6 := Lib.hid hO6
    have HO56 := Lib.hid (HO5.out.below hb6)
    have HG5 := Lib.hid (fun g hg => (HO5.out.blk_lt (g := g) hg).2)
    have HG6 := Lib.hid (fun g hg => (hO6.blk_lt (g := g) hg).1)
    have Z6 := Lib.hid (Z5.out.trans (hb6.mono Z5.out.size))
    have hm6 : m6 ≤ 40000 := by have h := ans_length_le k eb fd ds st n ws HWS.out; have := hO6.1; omega
    clear hO6 hb6 i0' i1 i2 i3 i4
    go_wp2_with fail
    refine (apart2 A3 A6 m3 m6 c3 c6 w.heap.size _ _ w6 (HO56.out.mono Z2.out.size) (HO6.out.mono Z5.out.size) (off_of HG5.out HG6.out) (by omega) (by omega) Z6.out.size).mono ?_
    rintro e w7 ⟨rfl, hb7⟩
    go_wp2_with fail
    refine (works_any _).mono ?_
    rintro e w8 ⟨rfl, hb8⟩
    have Z7 := Lib.hid (Z6.out.trans hb7)
    go_wp2_with fail
    go_ret
    exact ⟨rfl, Z7.out.trans (hb8.mono Z7.out.size)⟩
end Go.Proofs.Ytjiiabekjiilbaa
