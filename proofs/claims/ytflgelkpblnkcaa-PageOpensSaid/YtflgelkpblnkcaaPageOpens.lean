/- PageOpens: Open tells of any bytes what the document's Open does, in memory that nothing else reaches, and the bytes stay. -/
import Derived.Test.YtflgelkpblnkcaaPageRefOpen
set_option linter.unusedSimpArgs false
set_option linter.unusedVariables false
namespace Go.Proofs.Ytflgelkpblnkcaa
open Go.RowKit Mp

set_option maxRecDepth 100000 in
set_option maxHeartbeats 3200000 in
theorem law_opens (A : Option Addr) (n c : Nat) (l : List UInt8) (tag nb : Nat) (w : World) (hl : l.length = n) (hb : Bytes w w.heap.size A l) (hcap : n ≤ c ∧ c ≤ maxLen) (htag : tag ≤ 4294967295) (hnb : nb ≤ 4294967295) :
    Calls Try.prog 4 #[.slice A n c, .int .u32 tag, .int .u32 nb] w fun e w' => e = .returned (.bool true) ∧ Below w.heap.size w w' := by
  have HL := Lib.hid hl
  have HB := Lib.hid hb
  clear hl hb
  by_cases hbig : 65536 < n
  · go_enter Try.func4, Try.ntmps4
    go_wp2_with fail
    refine (works_any _).mono ?_
    rintro e w1 ⟨rfl, hb1⟩
    go_wp2_with fail
    go_ret
    exact ⟨rfl, hb1⟩
  · obtain ⟨R, E, hA, hR⟩ := openAns l tag nb
    have HA := Lib.hid hA
    clear hA
    go_enter Try.func4, Try.ntmps4
    go_wp2_with fail
    refine (roomy_any A n c l _ HL.out HB.out (by omega)).mono ?_
    rintro e w1 ⟨A1, c1, rfl, hO1, hc1, hb1⟩
    have HO1 := Lib.hid hO1
    have Hb1 := Lib.hid hb1
    have hcm1 := hO1.2.2.1
    clear hO1 hb1
    have HIN : Hid (OwnB w1 w.heap.size 5 A1 n c1 l) := by
      have h := HO1.out.take n (by omega)
      rw [List.take_append_of_le_length (by have := HL.out; omega), List.take_of_length_le (by have := HL.out; omega)] at h
      exact h
    go_wp2_with fail
    refine (open_ans A1 n c1 tag nb l R E _ HA.out HL.out HIN.out.bytes (by omega) (by omega) hcm1 htag hnb).mono ?_
    rintro e w2 ⟨A2, c2, rfl, hO2, hb2⟩
    have HO2 := Lib.hid hO2
    have Hb2 := Lib.hid hb2
    have Hb2' : Hid (Below w.heap.size w w2) := by
      have h := Hb1.out.trans (hb2.mono Hb1.out.size)
      exact h
    clear hO2 hb2
    go_wp2_with fail
    refine (refopen_ans A n c tag nb l R E _ HA.out HL.out ((HB.out.below Hb2'.out).more Hb2'.out.size) (by omega) hcap.1 hcap.2 htag hnb).mono ?_
    rintro e w3 ⟨A3, c3, rfl, hO3, hb3⟩
    have HO3 := Lib.hid hO3
    have Hb3 := Lib.hid hb3
    have Hb3' : Hid (Below w.heap.size w w3) := by
      have h := Hb2'.out.trans (hb3.mono Hb2'.out.size)
      exact h
    clear hO3 hb3
    go_wp2_with fail
    refine (eq_any A2 R.length c2 A3 R.length c3 R R _ rfl ((HO2.out.below Hb3.out).bytes) rfl HO3.out.bytes).mono ?_
    rintro e w3' ⟨rfl, rfl⟩
    have hk : (R == R) = true := by simp
    rw [hk]
    clear hk
    go_wp2_with fail
    refine (kept_any A1 n c1 A n c l guardL l _ HL.out hc1 ((HO1.out.below Hb2.out).below Hb3.out).bytes rfl HL.out ((HB.out.below Hb3'.out).more Hb3'.out.size) (by omega) (by omega)).mono ?_
    rintro e w4 ⟨rfl, hb4⟩
    have hk : (l ++ guardL == l ++ guardL) = true := by simp
    rw [hk]
    clear hk
    have Hb4 := Lib.hid hb4
    have Hb4' : Hid (Below w.heap.size w w4) := by
      have h := Hb3'.out.trans (hb4.mono Hb3'.out.size)
      exact h
    have HIN4 := Lib.hid ((((HIN.out.below Hb2.out).below Hb3.out).below Hb4.out))
    have HO24 := Lib.hid ((HO2.out.below Hb3.out).below Hb4.out)
    clear hb4
    go_wp2_with fail
    refine (open_ans A1 n c1 tag nb l R E _ HA.out HL.out HIN4.out.bytes (by omega) (by omega) hcm1 htag hnb).mono ?_
    rintro e w5 ⟨A5, c5, rfl, hO5, hb5⟩
    have HO5 := Lib.hid hO5
    have Hb5 := Lib.hid hb5
    have Hb5' : Hid (Below w.heap.size w w5) := by
      have h := Hb4'.out.trans (hb5.mono Hb4'.out.size)
      exact h
    clear hO5 hb5
    go_wp2_with fail
    refine (apart3 A2 A5 A1 R.length R.length n c2 c5 c1 w.heap.size R R l w5 ((HO24.out.below Hb5.out).mono Hb1.out.size) (HO5.out.mono Hb4'.out.size) (HIN4.out.below Hb5.out)
      (off_of (fun g hg => (HO24.out.blk_lt hg).2) (fun g hg => (HO5.out.blk_lt hg).1)) (off_of (B := w1.heap.size) (fun g hg => (HIN.out.blk_lt hg).2) (fun g hg => (HO2.out.blk_lt hg).1)).symm (off_of (fun g hg => (HIN4.out.blk_lt hg).2) (fun g hg => (HO5.out.blk_lt hg).1)).symm (by omega) (by omega) (by omega) Hb5'.out.size).mono ?_
    rintro e w6 ⟨rfl, hb6⟩
    go_wp2_with fail
    refine (works_any _).mono ?_
    rintro e w7 ⟨rfl, hb7⟩
    go_wp2_with fail
    go_ret
    have h6 := Hb5'.out.trans hb6
    exact ⟨rfl, h6.trans (hb7.mono h6.size)⟩
end Go.Proofs.Ytflgelkpblnkcaa
