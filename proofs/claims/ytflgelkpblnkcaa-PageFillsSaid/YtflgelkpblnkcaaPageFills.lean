/- PageFills: what stands behind a page's bytes must be noughts, even if the sum fits; what stands among its bytes is read as it is. -/
import Derived.Test.YtflgelkpblnkcaaPageRefOpen
import Derived.Test.YtflgelkpblnkcaaPageFillPlain
import Derived.Deep.Cut
set_option linter.unusedSimpArgs false
set_option linter.unusedVariables false
namespace Go.Proofs.Ytflgelkpblnkcaa
open Go.RowKit Mp

set_option maxRecDepth 100000 in
set_option maxHeartbeats 3200000 in
theorem summed_any (A : Option Addr) (c i : Nat) (v : UInt8) (l : List UInt8) (w : World) (hl : l.length = 256) (hb : Bytes w w.heap.size A l) (hi : i < 252) :
    Calls Try.prog 22 #[.slice A 256 c, .int .i64 i, .int .u8 (v.toNat : Int)] w fun e w' => ∃ A' c', e = .returned (.slice A' 256 c') ∧ OwnB w' w.heap.size 5 A' 256 c' (sumL (l.set i v)) ∧ Below w.heap.size w w' := by
  have HL := Lib.hid hl
  have HB := Lib.hid hb
  clear hl hb
  go_enter Try.func22, Try.ntmps22
  go_wp2_with fail
  refine (copy_any A 256 c l _ HL.out HB.out (by omega)).mono ?_
  rintro e w1 ⟨A1, c1, rfl, hO1, hb1⟩
  have hc1 : 256 ≤ c1 := hO1.2.1
  have hcm1 : c1 ≤ 9223372036854775807 := hO1.2.2.1
  have HO1 := Lib.hid hO1
  have Hb1 := Lib.hid hb1
  clear hO1 hb1
  obtain ⟨g, rfl, hgb, hg1, hg2, hcell, hfz⟩ := HO1.out.open_ (by omega)
  have hil : i < l.length := by have := HL.out; omega
  have hc0 := hcell i hil
  have hf0 := hfz i (by omega)
  clear hcell hfz
  have HSL : Hid ((l.set i v).length = 256) := by
    have h : (l.set i v).length = 256 := by rw [List.length_set]; exact HL.out
    exact h
  have HO2 := Lib.hid (HO1.out.store i (by omega) v)
  have Hb2 : Hid (Below w.heap.size w (w1.setCell ⟨g, i, none⟩ (bv v))) := by
    have h := Hb1.out.setCell (p := ⟨g, i, none⟩) hg1 (bv v)
    exact h
  have hg := Lib.hid hgb
  clear hgb
  have hcc : (252 : Int) ≤ (c1 : Int) := by omega
  go_wp2_with fail
  refine (sum_any (some ⟨g, 0, none⟩) 252 c1 ((l.set i v).take 252) _ (by rw [List.length_take, HSL.out]; rfl) ((HO2.out.take 252 (by omega)).bytes) (by omega)).mono ?_
  rintro e w3 ⟨rfl, hb3⟩
  have hex : ext 0 ((l.set i v).take 252) ≤ 4294967295 := ext0_le _
  have HF4 := Lib.hid (fill_four (l.set i v) HSL.out)
  have HO3 := Lib.hid (HO2.out.below hb3)
  have Hb3 := Lib.hid (Hb2.out.trans (hb3.mono Hb2.out.size))
  clear hb3 hc0 hf0
  obtain ⟨q, hq⟩ : ∃ q, q = l.set i v := ⟨_, rfl⟩
  rw [← hq] at hex HF4 HO3 HSL ⊢
  clear HO2
  have HQ := Lib.hid hq
  clear hq
  generalize ext 0 (q.take 252) = s at *
  go_wp2_with fail
  go_loopw [9] (fun j wr => ∃ k : Nat, k ≤ 4 ∧ j = .int .i64 k ∧ OwnB wr w.heap.size 5 (some ⟨g, 0, none⟩) 256 c1 (fillL q s k) ∧ Below w.heap.size w wr) (fun j _ => 4 - (intOf j).toNat)
  case atStart => exact ⟨0, by omega, rfl, by rw [fill_zero]; exact HO3.out, Hb3.out⟩
  case round =>
    obtain ⟨k, hk, rfl, hO, hbl⟩ := hrel
    have HO := Lib.hid hO
    have HBL := Lib.hid hbl
    clear hO hbl
    by_cases hlt : k < 4
    · obtain ⟨g', hg', hgb, hg3, hg4, hcell, hfz⟩ := HO.out.open_ (by omega)
      injection hg' with hg'
      injection hg' with hg'
      subst hg'
      have hql : 252 + k < (fillL q s k).length := by rw [fill_length q s k HSL.out hk]; omega
      have hc0 := hcell (252 + k) hql
      have hf0 := hfz (252 + k) (by omega)
      have hbyte := Lib.hid (byte_of s k)
      clear hcell hfz hgb
      go_wp2_with fail
      go_roundw
      case rel =>
        refine ⟨k + 1, by omega, by go_num, ?_, HBL.out.setCell (p := ⟨g, 252 + k, none⟩) hg1 _⟩
        rw [hbyte.out, ← fill_step q s k HSL.out hlt]
        exact HO.out.store (252 + k) (by omega) _
      case measure => simp [intOf]; omega
    · obtain rfl : k = 4 := by omega
      go_wp2_with fail
      go_ret
      refine ⟨_, _, rfl, ?_, HBL.out⟩
      rw [← HQ.out, ← HF4.out]
      exact HO.out

set_option maxRecDepth 100000 in
set_option maxHeartbeats 6400000 in
theorem law_fills (A : Option Addr) (n c : Nat) (l : List UInt8) (t nb t2 nb2 : Nat) (A2 : Option Addr) (n2 c2 : Nat) (l2 : List UInt8) (place v : Nat) (w : World) (ht : t ≤ 4294967295) (hnb : nb ≤ 4294967295) (ht2 : t2 ≤ 4294967295) (hnb2 : nb2 ≤ 4294967295)
    (hl : l.length = n) (hb : Bytes w w.heap.size A l) (hnc : n ≤ c) (hcm : c ≤ maxLen) (hl2 : l2.length = n2) (hb2 : Bytes w w.heap.size A2 l2) (hnc2 : n2 ≤ c2) (hcm2 : c2 ≤ maxLen) (hplace : place ≤ 65535) (hv : v ≤ 255) :
    Calls Try.prog 9 #[.agg #[.slice A n c, .int .u32 t, .int .u32 nb, .int .u32 t2, .int .u32 nb2, .slice A2 n2 c2], .int .u16 place, .int .u8 v] w fun e w' => e = .returned (.bool true) ∧ Below w.heap.size w w' := by
  have HL := Lib.hid hl
  have HB := Lib.hid hb
  clear hl hb hl2 hb2
  obtain ⟨vb, rfl⟩ : ∃ vb : UInt8, v = vb.toNat := ⟨UInt8.ofNat v, by simp; omega⟩
  obtain ⟨i, hi⟩ : ∃ i : Nat, (10 : Int) + (place : Int) % 242 = (i : Int) := ⟨10 + place % 242, by omega⟩
  have hi1 : 10 ≤ i := by omega
  have hi2 : i < 252 := by omega
  have HI := Lib.hid hi
  clear hi
  have Z0 : Hid (Below w.heap.size w (w.alloc (.cells #[.slice A n c, .int .u32 t, .int .u32 nb, .int .u32 t2, .int .u32 nb2, .slice A2 n2 c2] 38))) := by
    have h : Below w.heap.size w (w.alloc (.cells #[.slice A n c, .int .u32 t, .int .u32 nb, .int .u32 t2, .int .u32 nb2, .slice A2 n2 c2] 38)) := (Below.refl _ _).alloc (Nat.le_refl _) _
    exact h
  have K0 : Hid (Blk (w.alloc (.cells #[.slice A n c, .int .u32 t, .int .u32 nb, .int .u32 t2, .int .u32 nb2, .slice A2 n2 c2] 38)) w.heap.size 38 #[.slice A n c, .int .u32 t, .int .u32 nb, .int .u32 t2, .int .u32 nb2, .slice A2 n2 c2]) := Lib.hid (Blk.new _ _ _)
  go_enter Try.func9, Try.ntmps9
  go_upto_region 1 with (fail)
  generalize w.alloc (.cells #[.slice A n c, .int .u32 t, .int .u32 nb, .int .u32 t2, .int .u32 nb2, .slice A2 n2 c2] 38) = w0 at *
  have KS : Hid (∀ W, Since w0 W → (W.cell? ⟨w.heap.size, 0, none⟩ = some (.slice A n c) ∧ W.cell? ⟨w.heap.size, 1, none⟩ = some (.int .u32 t) ∧ W.cell? ⟨w.heap.size, 2, none⟩ = some (.int .u32 nb) ∧ Since w0 W)) := by
    have h : ∀ W, Since w0 W → (W.cell? ⟨w.heap.size, 0, none⟩ = some (.slice A n c) ∧ W.cell? ⟨w.heap.size, 1, none⟩ = some (.int .u32 t) ∧ W.cell? ⟨w.heap.size, 2, none⟩ = some (.int .u32 nb) ∧ Since w0 W) := fun W hS => by
      have k := K0.out.below hS K0.out.lt
      exact ⟨(k.cell 0).trans rfl, (k.cell 1).trans rfl, (k.cell 2).trans rfl, hS⟩
    exact h
  have HB0 : Hid (Bytes w0 w0.heap.size A l) := by
    have h := (HB.out.below Z0.out).more Z0.out.size
    exact h
  obtain ⟨p0, p1, p2, _⟩ := KS.out w0 (Since.refl _)
  by_cases h240 : 240 < n
  · go_wp2_with fail
    refine (works_any _).mono ?_
    rintro e w1 ⟨rfl, hb1⟩
    go_wp2_with fail
    go_ret
    exact ⟨rfl, Z0.out.trans (hb1.mono Z0.out.size)⟩
  have hl240 : Hid (l.length ≤ 240) := by
    have h : l.length ≤ 240 := by rw [HL.out]; omega
    exact h
  have HPL : Hid ((pageL t nb l).length = 256) := by
    have h : (pageL t nb l).length = 256 := pageL_length t nb l hl240.out
    exact h
  have HQL : Hid ((sumL ((pageL t nb l).set i vb)).length = 256) := by
    have h : (sumL ((pageL t nb l).set i vb)).length = 256 := sumL_length _ (by rw [List.length_set]; exact HPL.out)
    exact h
  have HCASE : Hid (∃ R E, OpenAns (sumL ((pageL t nb l).set i vb)) t nb R E ∧ R.length ≤ 240 ∧ (((i < 12 ∨ 12 + n ≤ i) ∧ ((vb = 0 ∧ E = 0) ∨ (vb ≠ 0 ∧ E = 7))) ∨ (12 ≤ i ∧ i < 12 + n ∧ R = l.set (i - 12) vb ∧ E = 0))) := by
    have h : ∃ R E, OpenAns (sumL ((pageL t nb l).set i vb)) t nb R E ∧ R.length ≤ 240 ∧ (((i < 12 ∨ 12 + n ≤ i) ∧ ((vb = 0 ∧ E = 0) ∨ (vb ≠ 0 ∧ E = 7))) ∨ (12 ≤ i ∧ i < 12 + n ∧ R = l.set (i - 12) vb ∧ E = 0)) := by
      by_cases hout : i < 12 ∨ 12 + n ≤ i
      · by_cases hz : vb = 0
        · subst hz
          exact ⟨l, 0, .inl ⟨⟨hl240.out, fill_nought t nb l hl240.out i hi1 hi2 (by rw [HL.out]; exact hout)⟩, rfl⟩, hl240.out, .inl ⟨hout, .inl ⟨rfl, rfl⟩⟩⟩
        · exact ⟨[], 7, .inr ⟨fill_shut t nb l hl240.out i vb hz hi1 hi2 (by rw [HL.out]; exact hout), rfl, rfl⟩, by simp, .inl ⟨hout, .inr ⟨hz, rfl⟩⟩⟩
      · have h12 : 12 ≤ i := by omega
        have hin : i < 12 + n := by omega
        have h := fill_in t nb l hl240.out (i - 12) vb (by rw [HL.out]; omega)
        rw [show 12 + (i - 12) = i by omega] at h
        exact ⟨l.set (i - 12) vb, 0, .inl ⟨⟨by rw [List.length_set]; exact hl240.out, h⟩, rfl⟩, by rw [List.length_set]; exact hl240.out, .inr ⟨h12, hin, rfl, rfl⟩⟩
    exact h
  obtain ⟨R, E, hA, hR, hcase⟩ := HCASE.out
  have HA := Lib.hid hA
  have HC := Lib.hid hcase
  clear hA hcase HCASE
  go_wp2_with fail
  refine (make_ok t nb A n c l _ ht hnb HL.out HB0.out (by omega)).mono ?_
  rintro e w1 ⟨A3, c3, rfl, hO1, hb1⟩
  have HO1 := Lib.hid hO1
  have hs1 : Since w0 w1 := hb1
  clear hO1 hb1 p0 p1 p2
  have hii := HI.out
  go_upto_region 7 with (fail)
  clear hii
  have hst1 := Since.drew hs1
  have hsx := Since.refl w1
  have hsx1 := Since.drew hsx
  have KS2 : Hid (∀ W, Since w0 W ∧ Since w1 W → (W.cell? ⟨w.heap.size, 0, none⟩ = some (.slice A n c) ∧ W.cell? ⟨w.heap.size, 1, none⟩ = some (.int .u32 t) ∧ W.cell? ⟨w.heap.size, 2, none⟩ = some (.int .u32 nb) ∧ Since w0 W ∧ Since w1 W)) := by
    have h : ∀ W, Since w0 W ∧ Since w1 W → (W.cell? ⟨w.heap.size, 0, none⟩ = some (.slice A n c) ∧ W.cell? ⟨w.heap.size, 1, none⟩ = some (.int .u32 t) ∧ W.cell? ⟨w.heap.size, 2, none⟩ = some (.int .u32 nb) ∧ Since w0 W ∧ Since w1 W) := fun W hS => by
      obtain ⟨q0, q1, q2, _⟩ := KS.out W hS.1
      exact ⟨q0, q1, q2, hS⟩
    exact h
  obtain ⟨Q, hQ⟩ : ∃ Q, Q = sumL ((pageL t nb l).set i vb) := ⟨_, rfl⟩
  rw [← hQ] at HA HQL
  have HQ := Lib.hid hQ
  clear hQ
  have PSum : Hid (∀ W, Since w0 W → Since w1 W → Calls Try.prog 22 #[.slice A3 256 c3, .int .i64 i, .int .u8 (vb.toNat : Int)] W fun e w' => ∃ A' c', e = .returned (.slice A' 256 c') ∧ OwnB w' w1.heap.size 5 A' 256 c' Q ∧ Since w0 w' ∧ Since w1 w') := by
    have h : ∀ W, Since w0 W → Since w1 W → Calls Try.prog 22 #[.slice A3 256 c3, .int .i64 i, .int .u8 (vb.toNat : Int)] W fun e w' => ∃ A' c', e = .returned (.slice A' 256 c') ∧ OwnB w' w1.heap.size 5 A' 256 c' Q ∧ Since w0 w' ∧ Since w1 w' := fun W hS hS1 =>
      (summed_any A3 c3 i vb (pageL t nb l) W HPL.out (HO1.out.below hS1).bytes hi2).mono fun e w' ⟨A', c', h1, h2, h3⟩ => ⟨A', c', h1, by rw [HQ.out]; exact h2.mono (Below.size hS1), hS.step h3, hS1.step h3⟩
    exact h
  have POpen : Hid (∀ W A' c', OwnB W w1.heap.size 5 A' 256 c' Q → Since w0 W → Since w1 W → Calls Try.prog 19 #[.slice A' 256 c', .int .u32 t, .int .u32 nb] W fun e w' => ∃ A'' c'', e = .returned (.tuple #[.slice A'' R.length c'', .int .i64 E]) ∧ OwnB w' w1.heap.size 5 A'' R.length c'' R ∧ Since w0 w' ∧ Since w1 w') := by
    have h : ∀ W A' c', OwnB W w1.heap.size 5 A' 256 c' Q → Since w0 W → Since w1 W → Calls Try.prog 19 #[.slice A' 256 c', .int .u32 t, .int .u32 nb] W fun e w' => ∃ A'' c'', e = .returned (.tuple #[.slice A'' R.length c'', .int .i64 E]) ∧ OwnB w' w1.heap.size 5 A'' R.length c'' R ∧ Since w0 w' ∧ Since w1 w' := fun W A' c' hO hS hS1 =>
      (open_ans A' 256 c' t nb Q R E W HA.out HQL.out hO.bytes (by omega) hO.2.1 hO.2.2.1 ht hnb).mono fun e w' ⟨A'', c'', h1, h2, h3⟩ => ⟨A'', c'', h1, h2.mono (Below.size hS1), hS.step h3, hS1.step h3⟩
    exact h
  go_region_held3 (fun w' => w'.cell? ⟨w.heap.size, 0, none⟩ = some (.slice A n c) ∧ w'.cell? ⟨w.heap.size, 1, none⟩ = some (.int .u32 t) ∧ w'.cell? ⟨w.heap.size, 2, none⟩ = some (.int .u32 nb) ∧ Since w0 w' ∧ Since w1 w') (first | ((with_reducible refine KS2.out _ ⟨?_, ?_⟩) <;> (with_reducible assumption)) | ((with_reducible refine KS2.out _ ⟨Since.drew ?_, Since.drew ?_⟩) <;> (with_reducible assumption))) (first | (go_at_call 22; (with_reducible refine Calls.mono (PSum.out _ ?_ ?_) ?_); (with_reducible assumption); (with_reducible assumption); rintro e w2 ⟨A4, c4, rfl, hO2, hs2, hsy2⟩) | (go_at_call_of 19 A4; (with_reducible refine Calls.mono (POpen.out _ _ _ hO2 hs2 hsy2) ?_); rintro e w3 ⟨A5, c5, rfl, hO3, hs3, hsy3⟩))
  have HO3 := Lib.hid hO3
  clear PSum POpen KS2 hsx hsx1 hst1 hsy2 hsy3 hO2 hs2 hO3
  obtain ⟨p0, p1, p2, _⟩ := KS.out w3 hs3
  have hcc := HC.out
  clear HC
  rcases hcc with ⟨hout, hvz⟩ | ⟨h12, hin, hRl, rfl⟩
  · by_cases h12 : i < 12
    · clear hout
      rcases hvz with ⟨hz, rfl⟩ | ⟨hz, rfl⟩
      · have hd : ((vb.toNat : Int) == 0) = true := by rw [hz]; rfl
        clear hz
        go_wp2_with fail
        refine (works_any _).mono ?_
        rintro e w6 ⟨rfl, hb6⟩
        go_wp2_with fail
        go_ret
        exact ⟨rfl, Z0.out.trans (Below.mono (hs3.step hb6) Z0.out.size)⟩
      · have hd : ((vb.toNat : Int) == 0) = false := by
          rw [beq_eq_false_iff_ne]
          intro e
          exact hz (UInt8.toNat_inj.1 (by show vb.toNat = 0; omega))
        clear hz
        go_wp2_with fail
        refine (works_any _).mono ?_
        rintro e w6 ⟨rfl, hb6⟩
        go_wp2_with fail
        go_ret
        exact ⟨rfl, Z0.out.trans (Below.mono (hs3.step hb6) Z0.out.size)⟩
    · have h12n : 12 + n ≤ i := by omega
      clear hout
      rcases hvz with ⟨hz, rfl⟩ | ⟨hz, rfl⟩
      · have hd : ((vb.toNat : Int) == 0) = true := by rw [hz]; rfl
        clear hz
        go_wp2_with fail
        refine (works_any _).mono ?_
        rintro e w6 ⟨rfl, hb6⟩
        go_wp2_with fail
        go_ret
        exact ⟨rfl, Z0.out.trans (Below.mono (hs3.step hb6) Z0.out.size)⟩
      · have hd : ((vb.toNat : Int) == 0) = false := by
          rw [beq_eq_false_iff_ne]
          intro e
          exact hz (UInt8.toNat_inj.1 (by show vb.toNat = 0; omega))
        clear hz
        go_wp2_with fail
        refine (works_any _).mono ?_
        rintro e w6 ⟨rfl, hb6⟩
        go_wp2_with fail
        go_ret
        exact ⟨rfl, Z0.out.trans (Below.mono (hs3.step hb6) Z0.out.size)⟩
  · have HRL := Lib.hid hRl
    have HRN : Hid (R.length = n) := by
      have h : R.length = n := by rw [HRL.out, List.length_set]; exact HL.out
      exact h
    clear hRl
    have HB3 : Hid (Bytes w3 w3.heap.size A l) := by
      have h := (HB0.out.below hs3).more (Below.size hs3)
      exact h
    obtain ⟨j, rfl⟩ : ∃ j, i = 12 + j := ⟨i - 12, by omega⟩
    have hij : ((12 + j : Nat) : Int) - 12 = (j : Int) := by omega
    have hjn : j < n := by omega
    go_wp2_with fail
    refine (copy_any A n c l _ HL.out HB3.out (by omega)).mono ?_
    rintro e w4 ⟨A6, c6, rfl, hO4, hb4⟩
    have hc6 : n ≤ c6 := hO4.2.1
    have HO4 := Lib.hid hO4
    have hs4 : Since w0 w4 := hs3.step hb4
    have HO34 := Lib.hid (HO3.out.below hb4)
    have HO3L := Lib.hid (HO3.out)
    have Hb4 := Lib.hid hb4
    clear hO4 hb4 p0 p1 p2
    obtain ⟨g, rfl, hgb, hg1, hg2, hcell, hfz⟩ := HO4.out.open_ (by omega)
    have hc0 := hcell j (by rw [HL.out]; exact hjn)
    have hf0 := hfz j (by omega)
    clear hcell hfz hgb
    have HO5 := Lib.hid (HO4.out.store j hjn vb)
    have hs5 : Since w0 (w4.setCell ⟨g, j, none⟩ (bv vb)) := hs4.setCell (p := ⟨g, j, none⟩) (Nat.le_trans (Below.size hs3) hg1) (bv vb)
    have HO35 : Hid (OwnB (w4.setCell ⟨g, j, none⟩ (bv vb)) w1.heap.size 5 A5 R.length c5 R) := by
      have h := HO34.out.below' (B := w3.heap.size) (w' := w4.setCell ⟨g, j, none⟩ (bv vb)) ((Below.refl _ _).setCell (p := ⟨g, j, none⟩) hg1 (bv vb)) (fun q hq => (HO3L.out.blk_lt hq).2)
      exact h
    go_wp2_with fail
    refine (eq_any A5 R.length c5 (some ⟨g, 0, none⟩) n c6 R (l.set j vb) _ rfl HO35.out.bytes (by rw [List.length_set]; exact HL.out) HO5.out.bytes).mono ?_
    rintro e w5' ⟨rfl, rfl⟩
    have hd : (R == l.set j vb) = true := by
      rw [beq_iff_eq, HRL.out]
      simp
    rw [hd]
    clear hd
    go_wp2_with fail
    refine (works_any _).mono ?_
    rintro e w6 ⟨rfl, hb6⟩
    go_wp2_with fail
    go_ret
    exact ⟨rfl, Z0.out.trans (Below.mono (hs5.step hb6) Z0.out.size)⟩
end Go.Proofs.Ytflgelkpblnkcaa
