/- PageCuts: a page that is cut, or has more behind it, is not opened. -/
import Derived.Test.YtflgelkpblnkcaaPageRefOpen
import Derived.Deep.Cut
set_option linter.unusedSimpArgs false
set_option linter.unusedVariables false
namespace Go.Proofs.Ytflgelkpblnkcaa
open Go.RowKit Mp

theorem shut_len {p : List UInt8} {t nb : Nat} (h : p.length ≠ 256) : ¬ Opens p t nb := fun ⟨_, hs⟩ => h hs.size

set_option maxRecDepth 100000 in
set_option maxHeartbeats 6400000 in
theorem law_cuts (A : Option Addr) (n c : Nat) (l : List UInt8) (t nb t2 nb2 : Nat) (A2 : Option Addr) (n2 c2 : Nat) (l2 : List UInt8) (cut : Int) (w : World) (ht : t ≤ 4294967295) (hnb : nb ≤ 4294967295) (ht2 : t2 ≤ 4294967295) (hnb2 : nb2 ≤ 4294967295)
    (hl : l.length = n) (hb : Bytes w w.heap.size A l) (hnc : n ≤ c) (hcm : c ≤ maxLen) (hl2 : l2.length = n2) (hb2 : Bytes w w.heap.size A2 l2) (hnc2 : n2 ≤ c2) (hcm2 : c2 ≤ maxLen) (hc1 : -9223372036854775808 ≤ cut) (hc2 : cut ≤ 9223372036854775807) :
    Calls Try.prog 8 #[.agg #[.slice A n c, .int .u32 t, .int .u32 nb, .int .u32 t2, .int .u32 nb2, .slice A2 n2 c2], .int .i64 cut] w fun e w' => e = .returned (.bool true) ∧ Below w.heap.size w w' := by
  obtain ⟨i0, hi0, hz0, hz1, hz2⟩ := info_parts info_u8
  have HL := Lib.hid hl
  have HB := Lib.hid hb
  have HL2 := Lib.hid hl2
  have HB2 := Lib.hid hb2
  clear hl hb hl2 hb2
  have Z0 : Hid (Below w.heap.size w (w.alloc (.cells #[.slice A n c, .int .u32 t, .int .u32 nb, .int .u32 t2, .int .u32 nb2, .slice A2 n2 c2] 38))) := by
    have h : Below w.heap.size w (w.alloc (.cells #[.slice A n c, .int .u32 t, .int .u32 nb, .int .u32 t2, .int .u32 nb2, .slice A2 n2 c2] 38)) := (Below.refl _ _).alloc (Nat.le_refl _) _
    exact h
  have K0 : Hid (Blk (w.alloc (.cells #[.slice A n c, .int .u32 t, .int .u32 nb, .int .u32 t2, .int .u32 nb2, .slice A2 n2 c2] 38)) w.heap.size 38 #[.slice A n c, .int .u32 t, .int .u32 nb, .int .u32 t2, .int .u32 nb2, .slice A2 n2 c2]) := Lib.hid (Blk.new _ _ _)
  go_enter Try.func8, Try.ntmps8
  go_upto_region 1 with (fail)
  generalize w.alloc (.cells #[.slice A n c, .int .u32 t, .int .u32 nb, .int .u32 t2, .int .u32 nb2, .slice A2 n2 c2] 38) = w0 at *
  have KS : Hid (∀ W, Since w0 W → (W.cell? ⟨w.heap.size, 0, none⟩ = some (.slice A n c) ∧ W.cell? ⟨w.heap.size, 1, none⟩ = some (.int .u32 t) ∧ W.cell? ⟨w.heap.size, 2, none⟩ = some (.int .u32 nb) ∧ W.cell? ⟨w.heap.size, 5, none⟩ = some (.slice A2 n2 c2) ∧ Since w0 W)) := by
    have h : ∀ W, Since w0 W → (W.cell? ⟨w.heap.size, 0, none⟩ = some (.slice A n c) ∧ W.cell? ⟨w.heap.size, 1, none⟩ = some (.int .u32 t) ∧ W.cell? ⟨w.heap.size, 2, none⟩ = some (.int .u32 nb) ∧ W.cell? ⟨w.heap.size, 5, none⟩ = some (.slice A2 n2 c2) ∧ Since w0 W) := fun W hS => by
      have k := K0.out.below hS K0.out.lt
      exact ⟨(k.cell 0).trans rfl, (k.cell 1).trans rfl, (k.cell 2).trans rfl, (k.cell 5).trans rfl, hS⟩
    exact h
  have HB0 : Hid (Bytes w0 w0.heap.size A l) := by
    have h := (HB.out.below Z0.out).more Z0.out.size
    exact h
  have HB02 : Hid (Bytes w0 w0.heap.size A2 l2) := by
    have h := (HB2.out.below Z0.out).more Z0.out.size
    exact h
  obtain ⟨p0, p1, p2, p5, _⟩ := KS.out w0 (Since.refl _)
  by_cases h240 : 240 < n
  · go_wp2_with fail
    refine (works_any _).mono ?_
    rintro e w1 ⟨rfl, hb1⟩
    go_wp2_with fail
    go_ret
    exact ⟨rfl, Z0.out.trans (hb1.mono Z0.out.size)⟩
  by_cases hbig2 : 1024 < n2
  · go_wp2_with fail
    refine (works_any _).mono ?_
    rintro e w1 ⟨rfl, hb1⟩
    go_wp2_with fail
    go_ret
    exact ⟨rfl, Z0.out.trans (hb1.mono Z0.out.size)⟩
  have HPL : Hid ((pageL t nb l).length = 256) := by
    have h : (pageL t nb l).length = 256 := pageL_length t nb l (by rw [HL.out]; omega)
    exact h
  go_wp2_with fail
  refine (make_ok t nb A n c l _ ht hnb HL.out HB0.out (by omega)).mono ?_
  rintro e w1 ⟨A3, c3, rfl, hO1, hb1⟩
  have HO1 := Lib.hid hO1
  have hs1 : Since w0 w1 := hb1
  have hcap3 : 256 ≤ c3 := hO1.2.1
  have hcm3 : c3 ≤ 9223372036854775807 := hO1.2.2.1
  clear hO1 hb1 p0 p1 p2 p5
  obtain ⟨p0, p1, p2, p5, _⟩ := KS.out w1 hs1
  by_cases hcut : 0 ≤ cut ∧ cut < 256
  · obtain ⟨h0, h256⟩ := hcut
    obtain ⟨k, rfl⟩ := Int.eq_ofNat_of_zero_le h0
    have hk : k < 256 := by omega
    have hkc : (k : Int) ≤ (c3 : Int) := by omega
    have hkt : Hid (((pageL t nb l).take k).length = k) := by
      have h : ((pageL t nb l).take k).length = k := by rw [List.length_take, HPL.out]; omega
      exact h
    have hst1 := Since.drew hs1
    go_wp2_with fail
    have PO : Hid (∀ W, Since w0 W → Since w1 W → Calls Try.prog 19 #[.slice A3 k c3, .int .u32 t, .int .u32 nb] W fun e w' => e = .returned (.tuple #[.slice none 0 0, .int .i64 7]) ∧ Since w0 w' ∧ Since w1 w') := by
      have h : ∀ W, Since w0 W → Since w1 W → Calls Try.prog 19 #[.slice A3 k c3, .int .u32 t, .int .u32 nb] W fun e w' => e = .returned (.tuple #[.slice none 0 0, .int .i64 7]) ∧ Since w0 w' ∧ Since w1 w' := fun W hS hS1 =>
        (open_shut A3 k c3 t nb ((pageL t nb l).take k) W (shut_len (by rw [hkt.out]; omega)) hkt.out ((HO1.out.take k (by omega)).below hS1).bytes (by omega) (by omega) HO1.out.2.2.1 ht hnb).mono fun e w' h => ⟨h.1, hS.step h.2, hS1.step h.2⟩
      exact h
    have hsx := Since.refl w1
    have hsx1 := Since.drew hsx
    have KS2 : Hid (∀ W, Since w0 W ∧ Since w1 W → (W.cell? ⟨w.heap.size, 0, none⟩ = some (.slice A n c) ∧ W.cell? ⟨w.heap.size, 1, none⟩ = some (.int .u32 t) ∧ W.cell? ⟨w.heap.size, 2, none⟩ = some (.int .u32 nb) ∧ W.cell? ⟨w.heap.size, 5, none⟩ = some (.slice A2 n2 c2) ∧ Since w0 W ∧ Since w1 W)) := by
      have h : ∀ W, Since w0 W ∧ Since w1 W → (W.cell? ⟨w.heap.size, 0, none⟩ = some (.slice A n c) ∧ W.cell? ⟨w.heap.size, 1, none⟩ = some (.int .u32 t) ∧ W.cell? ⟨w.heap.size, 2, none⟩ = some (.int .u32 nb) ∧ W.cell? ⟨w.heap.size, 5, none⟩ = some (.slice A2 n2 c2) ∧ Since w0 W ∧ Since w1 W) := fun W hS => by
        obtain ⟨q0, q1, q2, q5, _⟩ := KS.out W hS.1
        exact ⟨q0, q1, q2, q5, hS⟩
      exact h
    go_region_held3 (fun w' => w'.cell? ⟨w.heap.size, 0, none⟩ = some (.slice A n c) ∧ w'.cell? ⟨w.heap.size, 1, none⟩ = some (.int .u32 t) ∧ w'.cell? ⟨w.heap.size, 2, none⟩ = some (.int .u32 nb) ∧ w'.cell? ⟨w.heap.size, 5, none⟩ = some (.slice A2 n2 c2) ∧ Since w0 w' ∧ Since w1 w') (first | ((with_reducible refine KS2.out _ ⟨?_, ?_⟩) <;> (with_reducible assumption)) | ((with_reducible refine KS2.out _ ⟨Since.drew ?_, Since.drew ?_⟩) <;> (with_reducible assumption))) (first | (go_at_call 19; (with_reducible refine Calls.mono (PO.out _ ?_ ?_) ?_); (with_reducible assumption); (with_reducible assumption); rintro e w2 ⟨rfl, hs2, hsy2⟩))
    have HO2 : Hid (OwnB w2 w0.heap.size 5 A3 256 c3 (pageL t nb l)) := by
      have h := HO1.out.below hsy2
      exact h
    clear PO KS2 hsx hsx1 hst1 p0 p1 p2 p5 hsy2
    obtain ⟨p0, p1, p2, p5, _⟩ := KS.out w2 hs2
    go_wp2_with (at_builtin; refine wpList_append_b rfl (.tmp 69) (.tmp 71) _ rfl 5 i0 Try.underlying23 hi0 hz0 hz1 hz2 rfl HO2.out rfl ((HB02.out.below hs2).more (Below.size hs2)) HL2.out (by omega) (Below.size hs2) ?_; intro A4 c4 w4 hO4 hg4 hd4; have HO4 := Lib.hid hO4; have hs4 : Since w0 w4 := below_grown hs2 HO2.out hg4 (Below.size hs2); clear hO4 hg4 hd4 p0 p1 p2 p5; obtain ⟨p0, p1, p2, p5, _⟩ := KS.out w4 hs4)
    by_cases hz : n2 = 0
    · subst hz
      have HNIL : Hid (pageL t nb l ++ l2 = pageL t nb l) := by
        have h : pageL t nb l ++ l2 = pageL t nb l := by rw [List.eq_nil_of_length_eq_zero HL2.out, List.append_nil]
        exact h
      refine (open_says A4 256 c4 t nb (pageL t nb l) l _ (says_page t nb l (by rw [HL.out]; omega)) HPL.out (by have h := HO4.out.bytes; rw [HNIL.out] at h; exact h) HO4.out.2.1 HO4.out.2.2.1 ht hnb).mono ?_
      rintro e w5 ⟨A5, c5, rfl, hO5, hb5⟩
      have hs5 : Since w0 w5 := hs4.step hb5
      clear hO5 hb5 p0 p1 p2 p5
      obtain ⟨p0, p1, p2, p5, _⟩ := KS.out w5 hs5
      go_wp2_with fail
      refine (works_any _).mono ?_
      rintro e w6 ⟨rfl, hb6⟩
      go_wp2_with fail
      go_ret
      exact ⟨rfl, Z0.out.trans (Below.mono (hs5.step hb6) Z0.out.size)⟩
    · have hd : ((n2 : Int) == 0) = false := by simp; omega
      refine (open_shut A4 (256 + n2) c4 t nb (pageL t nb l ++ l2) _ (shut_len (by rw [List.length_append, HPL.out, HL2.out]; omega)) HO4.out.1 HO4.out.bytes (by omega) HO4.out.2.1 HO4.out.2.2.1 ht hnb).mono ?_
      rintro e w5 ⟨rfl, hb5⟩
      have hs5 : Since w0 w5 := hs4.step hb5
      clear hb5 p0 p1 p2 p5 hz
      obtain ⟨p0, p1, p2, p5, _⟩ := KS.out w5 hs5
      go_wp2_with fail
      refine (works_any _).mono ?_
      rintro e w6 ⟨rfl, hb6⟩
      go_wp2_with fail
      go_ret
      exact ⟨rfl, Z0.out.trans (Below.mono (hs5.step hb6) Z0.out.size)⟩
  · have hs2 := hs1
    have HO2 := HO1
    by_cases hneg : cut < 0
    · go_wp2_with (at_builtin; refine wpList_append_b rfl (.tmp 69) (.tmp 71) _ rfl 5 i0 Try.underlying23 hi0 hz0 hz1 hz2 rfl HO2.out rfl ((HB02.out.below hs2).more (Below.size hs2)) HL2.out (by omega) (Below.size hs2) ?_; intro A4 c4 w4 hO4 hg4 hd4; have HO4 := Lib.hid hO4; have hs4 : Since w0 w4 := below_grown hs2 HO2.out hg4 (Below.size hs2); clear hO4 hg4 hd4 p0 p1 p2 p5; obtain ⟨p0, p1, p2, p5, _⟩ := KS.out w4 hs4)
      by_cases hz : n2 = 0
      · subst hz
        have HNIL : Hid (pageL t nb l ++ l2 = pageL t nb l) := by
          have h : pageL t nb l ++ l2 = pageL t nb l := by rw [List.eq_nil_of_length_eq_zero HL2.out, List.append_nil]
          exact h
        refine (open_says A4 256 c4 t nb (pageL t nb l) l _ (says_page t nb l (by rw [HL.out]; omega)) HPL.out (by have h := HO4.out.bytes; rw [HNIL.out] at h; exact h) HO4.out.2.1 HO4.out.2.2.1 ht hnb).mono ?_
        rintro e w5 ⟨A5, c5, rfl, hO5, hb5⟩
        have hs5 : Since w0 w5 := hs4.step hb5
        clear hO5 hb5 p0 p1 p2 p5
        obtain ⟨p0, p1, p2, p5, _⟩ := KS.out w5 hs5
        go_wp2_with fail
        refine (works_any _).mono ?_
        rintro e w6 ⟨rfl, hb6⟩
        go_wp2_with fail
        go_ret
        exact ⟨rfl, Z0.out.trans (Below.mono (hs5.step hb6) Z0.out.size)⟩
      · have hd : ((n2 : Int) == 0) = false := by simp; omega
        refine (open_shut A4 (256 + n2) c4 t nb (pageL t nb l ++ l2) _ (shut_len (by rw [List.length_append, HPL.out, HL2.out]; omega)) HO4.out.1 HO4.out.bytes (by omega) HO4.out.2.1 HO4.out.2.2.1 ht hnb).mono ?_
        rintro e w5 ⟨rfl, hb5⟩
        have hs5 : Since w0 w5 := hs4.step hb5
        clear hb5 p0 p1 p2 p5 hz
        obtain ⟨p0, p1, p2, p5, _⟩ := KS.out w5 hs5
        go_wp2_with fail
        refine (works_any _).mono ?_
        rintro e w6 ⟨rfl, hb6⟩
        go_wp2_with fail
        go_ret
        exact ⟨rfl, Z0.out.trans (Below.mono (hs5.step hb6) Z0.out.size)⟩
    · have hge : ¬ cut < 256 := fun h => hcut ⟨by omega, h⟩
      clear hcut
      go_wp2_with (at_builtin; refine wpList_append_b rfl (.tmp 69) (.tmp 71) _ rfl 5 i0 Try.underlying23 hi0 hz0 hz1 hz2 rfl HO2.out rfl ((HB02.out.below hs2).more (Below.size hs2)) HL2.out (by omega) (Below.size hs2) ?_; intro A4 c4 w4 hO4 hg4 hd4; have HO4 := Lib.hid hO4; have hs4 : Since w0 w4 := below_grown hs2 HO2.out hg4 (Below.size hs2); clear hO4 hg4 hd4 p0 p1 p2 p5; obtain ⟨p0, p1, p2, p5, _⟩ := KS.out w4 hs4)
      by_cases hz : n2 = 0
      · subst hz
        have HNIL : Hid (pageL t nb l ++ l2 = pageL t nb l) := by
          have h : pageL t nb l ++ l2 = pageL t nb l := by rw [List.eq_nil_of_length_eq_zero HL2.out, List.append_nil]
          exact h
        refine (open_says A4 256 c4 t nb (pageL t nb l) l _ (says_page t nb l (by rw [HL.out]; omega)) HPL.out (by have h := HO4.out.bytes; rw [HNIL.out] at h; exact h) HO4.out.2.1 HO4.out.2.2.1 ht hnb).mono ?_
        rintro e w5 ⟨A5, c5, rfl, hO5, hb5⟩
        have hs5 : Since w0 w5 := hs4.step hb5
        clear hO5 hb5 p0 p1 p2 p5
        obtain ⟨p0, p1, p2, p5, _⟩ := KS.out w5 hs5
        go_wp2_with fail
        refine (works_any _).mono ?_
        rintro e w6 ⟨rfl, hb6⟩
        go_wp2_with fail
        go_ret
        exact ⟨rfl, Z0.out.trans (Below.mono (hs5.step hb6) Z0.out.size)⟩
      · have hd : ((n2 : Int) == 0) = false := by simp; omega
        refine (open_shut A4 (256 + n2) c4 t nb (pageL t nb l ++ l2) _ (shut_len (by rw [List.length_append, HPL.out, HL2.out]; omega)) HO4.out.1 HO4.out.bytes (by omega) HO4.out.2.1 HO4.out.2.2.1 ht hnb).mono ?_
        rintro e w5 ⟨rfl, hb5⟩
        have hs5 : Since w0 w5 := hs4.step hb5
        clear hb5 p0 p1 p2 p5 hz
        obtain ⟨p0, p1, p2, p5, _⟩ := KS.out w5 hs5
        go_wp2_with fail
        refine (works_any _).mono ?_
        rintro e w6 ⟨rfl, hb6⟩
        go_wp2_with fail
        go_ret
        exact ⟨rfl, Z0.out.trans (Below.mono (hs5.step hb6) Z0.out.size)⟩
end Go.Proofs.Ytflgelkpblnkcaa
