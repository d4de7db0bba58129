/- RequestReads: ReadAnswer tells the reply that any bytes say, as the document's ReadAnswer does, or that they say none, and the bytes stay. -/
import Derived.Test.YtjiiabekjiilbaaReqExact
import Derived.Test.YtjiiabekjiilbaaReqWorks
import Derived.Deep.Cut
set_option linter.unusedSimpArgs false
set_option linter.unusedVariables false
namespace Go.Proofs.Ytjiiabekjiilbaa
open Go.RowKit Mp

set_option maxRecDepth 100000 in
set_option maxHeartbeats 6400000 in
theorem law_reads (k : Nat) (A : Option Addr) (n c : Nat) (l : List UInt8) (w : World) (hk : k ≤ 255) (hl : l.length = n) (hb : Bytes w w.heap.size A l) (hcap : n ≤ c ∧ c ≤ maxLen) :
    Calls Try.prog 5 #[.int .u8 k, .slice A n c] w fun e w' => e = .returned (.bool true) ∧ Below w.heap.size w w' := by
  have HL := Lib.hid hl
  have HB := Lib.hid hb
  obtain ⟨hcap1, hcap2⟩ := hcap
  clear hl hb
  obtain ⟨kb, rfl⟩ : ∃ kb : UInt8, k = kb.toNat := ⟨UInt8.ofNat k, by simp; omega⟩
  go_enter Try.func5, Try.ntmps5
  by_cases hbig : 32768 < n
  · go_wp2_with fail
    refine (works_any _).mono ?_
    rintro e w1 ⟨rfl, hb1⟩
    go_wp2_with fail
    go_ret
    exact ⟨rfl, hb1⟩
  go_wp2_with fail
  refine (roomy_any A n c l _ HL.out HB.out (by omega)).mono ?_
  rintro e w1 ⟨A1, c1, rfl, hO1, hc1, hb1⟩
  have HO1 := Lib.hid hO1
  have Z1 := Lib.hid hb1
  have hc1m : c1 ≤ maxLen := hO1.2.2.1
  clear hO1 hb1
  have HIN : Hid (Bytes w1 w1.heap.size A1 l) := by
    have h := (HO1.out.take n (by omega)).bytes
    rw [List.take_append_of_le_length (by have := HL.out; omega), List.take_of_length_le (by have := HL.out; omega)] at h
    exact h
  go_wp2_with fail
  refine (readans_told kb.toNat n c1 A1 l _ HL.out HIN.out (by omega) (by omega) hc1m).mono ?_
  rintro e w2 ⟨⟨⟨err, fd, ds, st, er, ws⟩, A2, n2, c2, he, hws2, hW2, hc2, hcm2, hT2⟩, hb2⟩
  dsimp only [repE] at he hws2 hW2
  subst he
  have HT2 := Lib.hid hT2
  have HWS := Lib.hid hws2
  have hn2 : n2 ≤ 32768 := by
    have := (rt_bounds hT2).2.2.2.2.1
    have h2 := HL.out
    simp only at this
    omega
  have X2 := Lib.hid (Blk.new w2 37 #[.int .i64 err, .bool fd, .int .u64 ds, .slice A2 n2 c2, .int .u8 st])
  have HO2 := Lib.hid ((HO1.out.below hb2).alloc (.cells #[.int .i64 err, .bool fd, .int .u64 ds, .slice A2 n2 c2, .int .u8 st] 37))
  have Z2 : Hid (Below w.heap.size w (w2.alloc (.cells #[.int .i64 err, .bool fd, .int .u64 ds, .slice A2 n2 c2, .int .u8 st] 37))) := by
    have h0 := Z1.out.trans (hb2.mono Z1.out.size)
    have h := h0.alloc h0.size (.cells #[.int .i64 err, .bool fd, .int .u64 ds, .slice A2 n2 c2, .int .u8 st] 37)
    exact h
  have HW2 : Hid (WayAt (w2.alloc (.cells #[.int .i64 err, .bool fd, .int .u64 ds, .slice A2 n2 c2, .int .u8 st] 37)) w2.heap.size A2 ws) := by
    have h := hW2.below ((Below.refl w2.heap.size w2).alloc (Nat.le_refl _) (.cells #[.int .i64 err, .bool fd, .int .u64 ds, .slice A2 n2 c2, .int .u8 st] 37)) (Nat.le_refl _)
    exact h
  clear hb2 hT2 hws2 hW2
  go_upto_region 5 with (fail)
  generalize hg2 : w2.alloc (.cells #[.int .i64 err, .bool fd, .int .u64 ds, .slice A2 n2 c2, .int .u8 st] 37) = w3 at *
  have hsz3 : w2.heap.size ≤ w3.heap.size := by rw [← hg2]; simp
  clear hg2
  go_wp2_with fail
  refine (refreads_told kb n c A l _ HL.out ((HB.out.below Z2.out).more Z2.out.size) (by omega) hcap1 hcap2).mono ?_
  rintro e w4 ⟨⟨T', A4, n4, c4, he, hws4, hW4, hc4, hcm4, hT4⟩, hb4⟩
  obtain rfl := rt_one HT2.out hT4
  dsimp only [repE] at he hws4 hW4
  subst he
  obtain rfl : n4 = n2 := by have := HWS.out; omega
  have X4 := Lib.hid ((X2.out.below hb4 X2.out.lt).alloc (.cells #[.int .i64 err, .bool fd, .int .u64 ds, .slice A4 n4 c4, .int .u8 st] 37))
  have Y4 := Lib.hid (Blk.new w4 37 #[.int .i64 err, .bool fd, .int .u64 ds, .slice A4 n4 c4, .int .u8 st])
  have HO4 := Lib.hid ((HO2.out.below hb4).alloc (.cells #[.int .i64 err, .bool fd, .int .u64 ds, .slice A4 n4 c4, .int .u8 st] 37))
  have Z4 : Hid (Below w.heap.size w (w4.alloc (.cells #[.int .i64 err, .bool fd, .int .u64 ds, .slice A4 n4 c4, .int .u8 st] 37))) := by
    have h0 := Z2.out.trans (hb4.mono Z2.out.size)
    have h := h0.alloc h0.size (.cells #[.int .i64 err, .bool fd, .int .u64 ds, .slice A4 n4 c4, .int .u8 st] 37)
    exact h
  have HW4 : Hid (WayAt (w4.alloc (.cells #[.int .i64 err, .bool fd, .int .u64 ds, .slice A4 n4 c4, .int .u8 st] 37)) (w4.heap.size + 1) A2 ws ∧ WayAt (w4.alloc (.cells #[.int .i64 err, .bool fd, .int .u64 ds, .slice A4 n4 c4, .int .u8 st] 37)) (w4.heap.size + 1) A4 ws) := by
    have ha := (Below.refl w4.heap.size w4).alloc (Nat.le_refl _) (.cells #[.int .i64 err, .bool fd, .int .u64 ds, .slice A4 n4 c4, .int .u8 st] 37)
    have h1 := (((HW2.out.below hb4 hsz3).more' (Nat.le_trans hsz3 hb4.size)).below ha (Nat.le_refl _)).more' (Nat.le_succ _)
    have h2 := (hW4.below ha (Nat.le_refl _)).more' (Nat.le_succ _)
    exact ⟨h1, h2⟩
  clear hb4 hT4 hws4 hW4
  go_upto_region 6 with (fail)
  generalize hg4 : w4.alloc (.cells #[.int .i64 err, .bool fd, .int .u64 ds, .slice A4 n4 c4, .int .u8 st] 37) = w5 at *
  have hsz5 : w4.heap.size + 1 ≤ w5.heap.size := by rw [← hg4]; simp
  clear hg4
  have x0 : w5.cell? ⟨w2.heap.size, 0, none⟩ = some (.int .i64 err) := (X4.out.cell 0).trans rfl
  have x1 : w5.cell? ⟨w2.heap.size, 1, none⟩ = some (.bool fd) := (X4.out.cell 1).trans rfl
  have x2 : w5.cell? ⟨w2.heap.size, 2, none⟩ = some (.int .u64 ds) := (X4.out.cell 2).trans rfl
  have x3 : w5.cell? ⟨w2.heap.size, 3, none⟩ = some (.slice A2 n4 c2) := (X4.out.cell 3).trans rfl
  have x4 : w5.cell? ⟨w2.heap.size, 4, none⟩ = some (.int .u8 st) := (X4.out.cell 4).trans rfl
  have y0 : w5.cell? ⟨w4.heap.size, 0, none⟩ = some (.int .i64 err) := (Y4.out.cell 0).trans rfl
  have y1 : w5.cell? ⟨w4.heap.size, 1, none⟩ = some (.bool fd) := (Y4.out.cell 1).trans rfl
  have y2 : w5.cell? ⟨w4.heap.size, 2, none⟩ = some (.int .u64 ds) := (Y4.out.cell 2).trans rfl
  have y3 : w5.cell? ⟨w4.heap.size, 3, none⟩ = some (.slice A4 n4 c4) := (Y4.out.cell 3).trans rfl
  have y4 : w5.cell? ⟨w4.heap.size, 4, none⟩ = some (.int .u8 st) := (Y4.out.cell 4).trans rfl
  go_wp2_with fail
  refine (same_yes err fd ds st n4 c2 c4 A2 A4 ws _ HWS.out (HW4.out.1.more' hsz5) (HW4.out.2.more' hsz5) (by omega)).mono ?_
  rintro e w6 ⟨rfl, hb6⟩
  have HO6 := Lib.hid (HO4.out.below hb6)
  have Z6 := Lib.hid (Z4.out.trans (hb6.mono Z4.out.size))
  clear hb6
  go_wp2_with fail
  refine (kept_any A1 n c1 A n c l guardL l _ HL.out hc1 HO6.out.bytes rfl HL.out ((HB.out.below Z6.out).more Z6.out.size) (by omega) (by omega)).mono ?_
  rintro e w7 ⟨he, hb7⟩
  obtain rfl : e = .returned (.bool true) := by simpa using he
  have Z7 := Lib.hid (Z6.out.trans (hb7.mono Z6.out.size))
  clear hb7 he
  go_wp2_with fail
  refine (works_any _).mono ?_
  rintro e w8 ⟨rfl, hb8⟩
  go_wp2_with fail
  go_ret
  exact ⟨rfl, Z7.out.trans (hb8.mono Z7.out.size)⟩
end Go.Proofs.Ytjiiabekjiilbaa
