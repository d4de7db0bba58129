/- PageMakes: Make makes of any bytes the page that the document's Make does, in memory that nothing else reaches; Tag sums any name as the document's does. -/
import Derived.Test.YtflgelkpblnkcaaPageRefOpen
set_option linter.unusedSimpArgs false
set_option linter.unusedVariables false
namespace Go.Proofs.Ytflgelkpblnkcaa
open Go.RowKit Mp

set_option maxRecDepth 100000 in
set_option maxHeartbeats 3200000 in
theorem law_makes (tag nb : Nat) (A : Option Addr) (n c : Nat) (l : List UInt8) (w : World) (htag : tag ≤ 4294967295) (hnb : nb ≤ 4294967295) (hl : l.length = n) (hb : Bytes w w.heap.size A l) (hcap : n ≤ c ∧ c ≤ maxLen) :
    Calls Try.prog 3 #[.int .u32 tag, .int .u32 nb, .slice A n c] w fun e w' => e = .returned (.bool true) ∧ Below w.heap.size w w' := by
  have HL := Lib.hid hl
  have HB := Lib.hid hb
  clear hl hb
  by_cases hbig : 65536 < n
  · go_enter Try.func3, Try.ntmps3
    go_wp2_with fail
    refine (works_any _).mono ?_
    rintro e w1 ⟨rfl, hb1⟩
    go_wp2_with fail
    go_ret
    exact ⟨rfl, hb1⟩
  · obtain ⟨R, E, hA, hR⟩ := makeAns tag nb l
    have HA := Lib.hid hA
    clear hA
    go_enter Try.func3, Try.ntmps3
    go_wp2_with fail
    refine (roomy_any A n c l _ HL.out HB.out (by omega)).mono ?_
    rintro e w1 ⟨A1, c1, rfl, hO1, hc1, hb1⟩
    have HO1 := Lib.hid hO1
    have Hb1 := Lib.hid hb1
    clear hO1 hb1
    have HIN : Hid (OwnB w1 w.heap.size 5 A1 n c1 l) := by
      have h := HO1.out.take n (by omega)
      rw [List.take_append_of_le_length (by have := HL.out; omega), List.take_of_length_le (by have := HL.out; omega)] at h
      exact h
    go_wp2_with fail
    refine (make_ans tag nb A1 n c1 l R E _ HA.out htag hnb HL.out HIN.out.bytes (by omega)).mono ?_
    rintro e w2 ⟨A2, c2, rfl, hO2, hb2⟩
    have HO2 := Lib.hid hO2
    have Hb2 := Lib.hid hb2
    have Hb2' : Hid (Below w.heap.size w w2) := by
      have h := Hb1.out.trans (hb2.mono Hb1.out.size)
      exact h
    clear hO2 hb2
    go_wp2_with fail
    refine (refmake_ans tag nb A n c l R E _ HA.out htag hnb HL.out ((HB.out.below Hb2'.out).more Hb2'.out.size) (by omega)).mono ?_
    rintro e w3 ⟨A3, c3, rfl, hO3, hb3⟩
    have HO3 := Lib.hid hO3
    have Hb3 := Lib.hid hb3
    have Hb3' : Hid (Below w.heap.size w w3) := by
      have h := Hb2'.out.trans (hb3.mono Hb2'.out.size)
      exact h
    clear hO3 hb3
    have HB3 : Hid (Bytes w3 w3.heap.size A l) := by
      have h := (HB.out.below Hb3'.out).more Hb3'.out.size
      exact h
    go_wp2_with fail
    have hst := Since.refl w3
    have hst1 := Since.drew hst
    have PQ : Hid (∀ W, Since w3 W → Calls Try.prog 14 #[.slice A2 R.length c2, .slice A3 R.length c3] W fun e w' => e = .returned (.bool true) ∧ Since w3 w') := by
      have h : ∀ W, Since w3 W → Calls Try.prog 14 #[.slice A2 R.length c2, .slice A3 R.length c3] W fun e w' => e = .returned (.bool true) ∧ Since w3 w' := fun W hS =>
        (eq_any A2 R.length c2 A3 R.length c3 R R W rfl (((HO2.out.below Hb3.out).below hS).bytes) rfl ((HO3.out.below hS).bytes)).mono fun e w' h => ⟨by have := h.1; simpa using this, by obtain ⟨_, rfl⟩ := h; exact hS⟩
      exact h
    have PK : Hid (∀ W, Since w3 W → Calls Try.prog 15 #[.slice A1 n c1, .slice A n c] W fun e w' => e = .returned (.bool true) ∧ Since w3 w') := by
      have h : ∀ W, Since w3 W → Calls Try.prog 15 #[.slice A1 n c1, .slice A n c] W fun e w' => e = .returned (.bool true) ∧ Since w3 w' := fun W hS =>
        (kept_any A1 n c1 A n c l guardL l W HL.out hc1 (((HO1.out.below Hb2.out).below Hb3.out).below hS).bytes rfl HL.out ((HB3.out.below hS).more (Below.size hS)) (by omega) (by omega)).mono fun e w' h => ⟨by have := h.1; simpa using this, hS.step h.2⟩
      exact h
    have PT : Hid (∀ W, Since w3 W → Calls Try.prog 16 #[.string (txt l)] W fun e w' => e = .returned (.int .u32 (ext 0 l : Nat)) ∧ Since w3 w') := by
      have h : ∀ W, Since w3 W → Calls Try.prog 16 #[.string (txt l)] W fun e w' => e = .returned (.int .u32 (ext 0 l : Nat)) ∧ Since w3 w' := fun W hS =>
        (tag_any l W (by rw [HL.out]; omega)).mono fun e w' h => ⟨h.1, hS.step h.2⟩
      exact h
    have PR : Hid (∀ W, Since w3 W → Calls Try.prog 17 #[.string (txt l)] W fun e w' => e = .returned (.int .u32 (ext 0 l : Nat)) ∧ Since w3 w') := by
      have h : ∀ W, Since w3 W → Calls Try.prog 17 #[.string (txt l)] W fun e w' => e = .returned (.int .u32 (ext 0 l : Nat)) ∧ Since w3 w' := fun W hS =>
        (reftag_any l W (by rw [HL.out]; omega)).mono fun e w' h => ⟨h.1, hS.step h.2⟩
      exact h
    have Hk : Hid (∀ W, Since w3 W → ((convert 23 9 (.slice A n c)).run Try.prog W = .ok (.string (txt l)) W ∧ Since w3 W)) := by
      have h : ∀ W, Since w3 W → ((convert 23 9 (.slice A n c)).run Try.prog W = .ok (.string (txt l)) W ∧ Since w3 W) := fun W hS => ⟨str_any c ((HB3.out.below hS).more (Below.size hS)) HL.out, hS⟩
      exact h
    generalize ext 0 l = sm at *
    go_region_held3 (fun w' => (convert 23 9 (.slice A n c)).run Try.prog w' = .ok (.string (txt l)) w' ∧ Since w3 w') (first | ((with_reducible refine Hk.out _ ?_); (with_reducible assumption)) | ((with_reducible refine Hk.out _ (Since.drew ?_)); (with_reducible assumption))) (first | (go_at_call 14; (with_reducible refine Calls.mono (PQ.out _ ?_) ?_); (with_reducible assumption); rintro e wq ⟨rfl, hsq⟩) | (go_at_call 15; (with_reducible refine Calls.mono (PK.out _ ?_) ?_); (with_reducible assumption); rintro e wk ⟨rfl, hsk⟩) | (go_at_call 16; (with_reducible refine Calls.mono (PT.out _ ?_) ?_); (with_reducible assumption); rintro e wt ⟨rfl, hst2⟩) | (go_at_call 17; (with_reducible refine Calls.mono (PR.out _ ?_) ?_); (with_reducible assumption); rintro e wr ⟨rfl, hsr⟩))
    go_wp2_with fail
    have HIN4 : Hid (OwnB wr w.heap.size 5 A1 n c1 l) := by
      have h := ((HIN.out.below Hb2.out).below Hb3.out).below (show Below _ _ _ from hsr)
      exact h
    have HO24 : Hid (OwnB wr w1.heap.size 5 A2 R.length c2 R) := by
      have h := (HO2.out.below Hb3.out).below (show Below _ _ _ from hsr)
      exact h
    have Hb4' : Hid (Below w.heap.size w wr) := by
      have h := Hb3'.out.trans (Below.mono hsr Hb3'.out.size)
      exact h
    clear PQ PK PT PR Hk hst hst1 hsq hsk hst2 hsr
    refine (make_ans tag nb A1 n c1 l R E _ HA.out htag hnb HL.out HIN4.out.bytes (by omega)).mono ?_
    rintro e w5 ⟨A5, c5, rfl, hO5, hb5⟩
    have HO5 := Lib.hid hO5
    have Hb5 := Lib.hid hb5
    have Hb5' : Hid (Below w.heap.size w w5) := by
      have h := Hb4'.out.trans (hb5.mono Hb4'.out.size)
      exact h
    clear hO5 hb5
    go_wp2_with fail
    refine (apart3 A2 A5 A1 R.length R.length n c2 c5 c1 w.heap.size R R l w5 ((HO24.out.below Hb5.out).mono Hb1.out.size) (HO5.out.mono Hb4'.out.size) (HIN4.out.below Hb5.out)
      (off_of (fun g hg => (HO24.out.blk_lt hg).2) (fun g hg => (HO5.out.blk_lt hg).1)) (off_of (B := w1.heap.size) (fun g hg => (HIN.out.blk_lt hg).2) (fun g hg => (HO2.out.blk_lt hg).1)).symm (off_of (fun g hg => (HIN4.out.blk_lt hg).2) (fun g hg => (HO5.out.blk_lt hg).1)).symm (by omega) (by omega) (by omega) Hb5'.out.size).mono ?_
    rintro e w6 ⟨rfl, hb6⟩
    go_wp2_with fail
    refine (works_any _).mono ?_
    rintro e w7 ⟨rfl, hb7⟩
    go_wp2_with fail
    go_ret
    have h6 := Hb5'.out.trans hb6
    exact ⟨rfl, h6.trans (hb7.mono h6.size)⟩
end Go.Proofs.Ytflgelkpblnkcaa
