/- CrcSums: for every sum and every bytes the sums of package crc are those of the reference, and the bytes stay. -/
import Derived.Test.YtnaodnacpdplaaaCrcWorks
set_option linter.unusedSimpArgs false
set_option linter.unusedVariables false
namespace Go.Proofs.Ytnaodnacpdplaaa
open Go.RowKit Mp

set_option maxRecDepth 100000 in
set_option maxHeartbeats 800000 in
theorem law_sums (s : Nat) (A : Option Addr) (n c : Nat) (l : List UInt8) (w : World) (hs : s ≤ 4294967295) (hl : l.length = n) (hb : Bytes w w.heap.size A l) (hcap : n ≤ c ∧ c ≤ maxLen) :
    Calls Try.prog 3 #[.int .u32 s, .slice A n c] w fun e w' => e = .returned (.bool true) ∧ Below w.heap.size w w' := by
  have HL := Lib.hid hl
  have HB := Lib.hid hb
  clear hl hb
  by_cases hbig : 65536 < n
  · go_enter Try.func3, Try.ntmps3
    go_wp2_with fail
    refine (works_any _).mono ?_
    rintro e w1 ⟨rfl, hb1⟩
    go_wp2_with fail
    go_ret
    exact ⟨rfl, hb1⟩
  · go_enter Try.func3, Try.ntmps3
    go_wp2_with fail
    refine (roomy_any A n c l _ HL.out HB.out (by omega)).mono ?_
    rintro e w1 ⟨A1, c1, rfl, hO1, hc1, hb1⟩
    have HO1 := Lib.hid hO1
    have Hb1 := Lib.hid hb1
    clear hO1 hb1
    have HIN : Hid (Bytes w1 w1.heap.size A1 l) := by
      have h := (HO1.out.take n (by omega)).bytes
      rw [List.take_append_of_le_length (by have := HL.out; omega), List.take_of_length_le (by have := HL.out; omega)] at h
      exact h
    go_wp2_with fail
    refine (extend_any s A1 n c1 l _ hs HL.out HIN.out (by omega)).mono ?_
    rintro e w2 ⟨rfl, hb2⟩
    have Hb2 := Lib.hid hb2
    have Hb2' : Hid (Below w.heap.size w w2) := by
      have h := Hb1.out.trans (hb2.mono Hb1.out.size)
      exact h
    clear hb2
    go_wp2_with fail
    refine (refextend_any s A n c l _ hs HL.out ((HB.out.below Hb2'.out).more Hb2'.out.size) (by omega)).mono ?_
    rintro e w2' ⟨rfl, rfl⟩
    go_wp2_with fail
    refine (sum_any A1 n c1 l _ HL.out ((HIN.out.below Hb2.out).more Hb2.out.size) (by omega)).mono ?_
    rintro e w3 ⟨rfl, hb3⟩
    have Hb3 : Hid (Below w1.heap.size w1 w3) := by
      have h := Hb2.out.trans (hb3.mono Hb2.out.size)
      exact h
    have Hb3' : Hid (Below w.heap.size w w3) := by
      have h := Hb1.out.trans (Hb3.out.mono Hb1.out.size)
      exact h
    clear hb3
    go_wp2_with fail
    refine (refsum_any A n c l _ HL.out ((HB.out.below Hb3'.out).more Hb3'.out.size) (by omega)).mono ?_
    rintro e w3' ⟨rfl, rfl⟩
    go_wp2_with fail
    refine (kept_any A1 n c1 A n c l guardL l _ HL.out hc1 ((HO1.out.below Hb3.out).bytes) rfl HL.out ((HB.out.below Hb3'.out).more Hb3'.out.size) (by omega) (by omega)).mono ?_
    rintro e w4 ⟨rfl, hb4⟩
    have hk : (l ++ guardL == l ++ guardL) = true := by simp
    rw [hk]
    go_wp2_with fail
    refine (works_any _).mono ?_
    rintro e w5 ⟨rfl, hb5⟩
    go_wp2_with fail
    go_ret
    have h4 := Hb3'.out.trans (hb4.mono Hb3'.out.size)
    exact ⟨rfl, h4.trans (hb5.mono h4.size)⟩
end Go.Proofs.Ytnaodnacpdplaaa
