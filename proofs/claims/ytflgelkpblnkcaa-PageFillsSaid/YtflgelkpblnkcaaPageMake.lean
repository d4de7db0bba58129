/- What Make of package page makes, and Tag sums; the document's answers likewise. -/
import Derived.Test.YtflgelkpblnkcaaSince
import Derived.Test.YtflgelkpblnkcaaOctRefPut
import Derived.Test.YtflgelkpblnkcaaZeros
import Derived.Test.YtflgelkpblnkcaaPagePlain
import Derived.Test.YtflgelkpblnkcaaCrcRef
import Derived.Deep.RegionHeld3
set_option linter.unusedSimpArgs false
set_option linter.unusedVariables false
namespace Go.Proofs.Ytflgelkpblnkcaa
open Go.RowKit Mp

theorem sz4 : Sz (4 : Int) := by simp [Sz]
theorem sz2 : Sz (2 : Int) := by simp [Sz]
theorem putk_any (A : Option Addr) (n c x k : Nat) (l : List UInt8) (w : World) (hk : Sz (k : Int)) (hl : l.length = n) (hb : Bytes w w.heap.size A l) (hn : n ≤ 536870912) (hnc : n ≤ c) (hx : x ≤ 18446744073709551615) :
    Calls Try.prog 26 #[.slice A n c, .int .u64 x, .int .i64 k] w fun e w' => ∃ A' c', e = .returned (.slice A' (n + k) c') ∧ OwnB w' w.heap.size 5 A' (n + k) c' (l ++ le k x) ∧ Below w.heap.size w w' :=
  (put_any A n c x k l w hl hb hn hnc hx).mono fun e w' ⟨A', m, c', h1, h2, h3⟩ => by
    rw [putL_yes l x hk] at h2
    have hm : m = n + k := by rw [← h2.1, List.length_append, le_length, hl]
    subst hm
    exact ⟨A', c', h1, h2, h3⟩
theorem refputk_any (A : Option Addr) (n c x k : Nat) (l : List UInt8) (w : World) (hk : Sz (k : Int)) (hl : l.length = n) (hb : Bytes w w.heap.size A l) (hn : n ≤ 536870912) (hx : x ≤ 18446744073709551615) :
    Calls Try.prog 28 #[.slice A n c, .int .u64 x, .int .i64 k] w fun e w' => ∃ A' c', e = .returned (.slice A' (n + k) c') ∧ OwnB w' w.heap.size 5 A' (n + k) c' (l ++ le k x) ∧ Below w.heap.size w w' :=
  (refput_any A n c x k l w hl hb hn hx).mono fun e w' ⟨A', m, c', h1, h2, h3⟩ => by
    rw [putL_yes l x hk] at h2
    have hm : m = n + k := by rw [← h2.1, List.length_append, le_length, hl]
    subst hm
    exact ⟨A', c', h1, h2, h3⟩
theorem put_since {w0 : World} (A : Option Addr) (n c x k : Nat) (l : List UInt8) (W : World) (hO : OwnB W w0.heap.size 5 A n c l) (hS : Since w0 W) (hn : n ≤ 536870912) (hk : Sz (k : Int)) (hx : x ≤ 18446744073709551615) :
    Calls Try.prog 26 #[.slice A n c, .int .u64 x, .int .i64 k] W fun e w' => ∃ A' c', e = .returned (.slice A' (n + k) c') ∧ OwnB w' w0.heap.size 5 A' (n + k) c' (l ++ le k x) ∧ Since w0 w' :=
  (putk_any A n c x k l W hk hO.1 hO.bytes hn hO.2.1 hx).mono fun _ _ ⟨A', c', h1, h2, h3⟩ => ⟨A', c', h1, h2.mono (Below.size hS), hS.step h3⟩

set_option maxRecDepth 100000 in
set_option maxHeartbeats 1600000 in
theorem headbytes_any (t nb n z : Nat) (w : World) (ht : t ≤ 18446744073709551615) (hnb : nb ≤ 18446744073709551615) (hn : n ≤ 18446744073709551615) (hz : z ≤ 18446744073709551615) :
    Calls Try.prog 25 #[.agg #[.int .u64 t, .int .u64 nb, .int .u64 n, .int .u64 z]] w fun e w' => ∃ A' c', e = .returned (.slice A' 12 c') ∧ OwnB w' w.heap.size 5 A' 12 c' (le 4 t ++ le 4 nb ++ le 2 n ++ le 2 z) ∧ Below w.heap.size w w' := by
  have Hk : Hid (∀ w', Since (w.alloc (.cells #[.int .u64 t, .int .u64 nb, .int .u64 n, .int .u64 z] 52)) w' → (w'.cell? ⟨w.heap.size, 0, none⟩ = some (.int .u64 t) ∧ w'.cell? ⟨w.heap.size, 1, none⟩ = some (.int .u64 nb) ∧ w'.cell? ⟨w.heap.size, 2, none⟩ = some (.int .u64 n) ∧ w'.cell? ⟨w.heap.size, 3, none⟩ = some (.int .u64 z) ∧ Since (w.alloc (.cells #[.int .u64 t, .int .u64 nb, .int .u64 n, .int .u64 z] 52)) w')) := fun w' hq => by
    have k := (Blk.new w 52 #[.int .u64 t, .int .u64 nb, .int .u64 n, .int .u64 z]).below hq (Blk.new w 52 #[.int .u64 t, .int .u64 nb, .int .u64 n, .int .u64 z]).lt
    exact ⟨(k.cell 0).trans rfl, (k.cell 1).trans rfl, (k.cell 2).trans rfl, (k.cell 3).trans rfl, hq⟩
  have hst := Since.refl (w.alloc (.cells #[.int .u64 t, .int .u64 nb, .int .u64 n, .int .u64 z] 52))
  have hbw : Hid (Below w.heap.size w (w.alloc (.cells #[.int .u64 t, .int .u64 nb, .int .u64 n, .int .u64 z] 52))) := by
    have h : Below w.heap.size w (w.alloc (.cells #[.int .u64 t, .int .u64 nb, .int .u64 n, .int .u64 z] 52)) := (Below.refl _ _).alloc (Nat.le_refl _) _
    exact h
  go_enter Try.func25, Try.ntmps25
  go_wp2_with fail
  generalize w.alloc (.cells #[.int .u64 t, .int .u64 nb, .int .u64 n, .int .u64 z] 52) = w0 at *
  have hst1 := Since.drew hst
  have P0 : Hid (∀ W, Since w0 W → Calls Try.prog 26 #[.slice none 0 0, .int .u64 t, .int .i64 4] W fun e w' => ∃ A' c', e = .returned (.slice A' 4 c') ∧ OwnB w' w0.heap.size 5 A' 4 c' (le 4 t) ∧ Since w0 w') := fun W hS =>
    put_since none 0 0 t 4 [] W (OwnB.nil _ _ _ _) hS (by omega) sz4 ht
  have P1 : Hid (∀ W A c, OwnB W w0.heap.size 5 A 4 c (le 4 t) → Since w0 W → Calls Try.prog 26 #[.slice A 4 c, .int .u64 nb, .int .i64 4] W fun e w' => ∃ A' c', e = .returned (.slice A' 8 c') ∧ OwnB w' w0.heap.size 5 A' 8 c' (le 4 t ++ le 4 nb) ∧ Since w0 w') := fun W A c hO hS =>
    put_since A 4 c nb 4 _ W hO hS (by omega) sz4 hnb
  have P2 : Hid (∀ W A c, OwnB W w0.heap.size 5 A 8 c (le 4 t ++ le 4 nb) → Since w0 W → Calls Try.prog 26 #[.slice A 8 c, .int .u64 n, .int .i64 2] W fun e w' => ∃ A' c', e = .returned (.slice A' 10 c') ∧ OwnB w' w0.heap.size 5 A' 10 c' (le 4 t ++ le 4 nb ++ le 2 n) ∧ Since w0 w') := fun W A c hO hS =>
    put_since A 8 c n 2 _ W hO hS (by omega) sz2 hn
  have P3 : Hid (∀ W A c, OwnB W w0.heap.size 5 A 10 c (le 4 t ++ le 4 nb ++ le 2 n) → Since w0 W → Calls Try.prog 26 #[.slice A 10 c, .int .u64 z, .int .i64 2] W fun e w' => ∃ A' c', e = .returned (.slice A' 12 c') ∧ OwnB w' w0.heap.size 5 A' 12 c' (le 4 t ++ le 4 nb ++ le 2 n ++ le 2 z) ∧ Since w0 w') := fun W A c hO hS =>
    put_since A 10 c z 2 _ W hO hS (by omega) sz2 hz
  go_region_held3 (fun w' => (w'.cell? ⟨w.heap.size, 0, none⟩ = some (.int .u64 t) ∧ w'.cell? ⟨w.heap.size, 1, none⟩ = some (.int .u64 nb) ∧ w'.cell? ⟨w.heap.size, 2, none⟩ = some (.int .u64 n) ∧ w'.cell? ⟨w.heap.size, 3, none⟩ = some (.int .u64 z) ∧ Since w0 w')) (first | ((with_reducible refine Hk.out _ ?_); (with_reducible assumption)) | ((with_reducible refine Hk.out _ (Since.drew ?_)); (with_reducible assumption))) (first | (go_at_call_of 26 t; (with_reducible refine Calls.mono (P0.out _ ?_) ?_); (with_reducible assumption); rintro e wq0 ⟨A0, c0, rfl, hO0, hsq0⟩) | (go_at_call_of 26 nb; (with_reducible refine Calls.mono (P1.out _ _ _ hO0 hsq0) ?_); rintro e wq1 ⟨A1, c1, rfl, hO1, hsq1⟩))
  have hst2 := Since.drew hsq1
  go_wp2_with fail
  go_region_held3 (fun w' => (w'.cell? ⟨w.heap.size, 0, none⟩ = some (.int .u64 t) ∧ w'.cell? ⟨w.heap.size, 1, none⟩ = some (.int .u64 nb) ∧ w'.cell? ⟨w.heap.size, 2, none⟩ = some (.int .u64 n) ∧ w'.cell? ⟨w.heap.size, 3, none⟩ = some (.int .u64 z) ∧ Since w0 w')) (first | ((with_reducible refine Hk.out _ ?_); (with_reducible assumption)) | ((with_reducible refine Hk.out _ (Since.drew ?_)); (with_reducible assumption))) (first | (go_at_call_of 26 n; (with_reducible refine Calls.mono (P2.out _ _ _ ?_ ?_) ?_); (first | (with_reducible assumption) | ((with_reducible refine OwnB.drew ?_); (with_reducible assumption))); (with_reducible assumption); rintro e wq2 ⟨A2, c2, rfl, hO2, hsq2⟩) | (go_at_call_of 26 z; (with_reducible refine Calls.mono (P3.out _ _ _ hO2 hsq2) ?_); rintro e wq3 ⟨A3, c3, rfl, hO3, hsq3⟩))
  go_wp2_with fail
  go_ret
  exact ⟨_, _, rfl, OwnB.mono hO3 hbw.out.size, hbw.out.trans (Below.mono (show Below _ _ _ from hsq3) hbw.out.size)⟩

/-- the numbers of a nought error and of one: see package api. -/
theorem le4_small (n : Nat) (h : n ≤ 240) : le 4 n = le 2 n ++ le 2 0 := by
  apply bval_inj (by simp [le_length])
  rw [bval_le4 (by omega), bval_append, bval_le2 (by omega), bval_le2 (by omega)]
  simp
set_option maxRecDepth 100000 in
set_option maxHeartbeats 1600000 in
theorem make_ok (t nb : Nat) (A : Option Addr) (n c : Nat) (l : List UInt8) (w : World) (ht : t ≤ 4294967295) (hnb : nb ≤ 4294967295) (hl : l.length = n) (hb : Bytes w w.heap.size A l) (hn : n ≤ 240) :
    Calls Try.prog 12 #[.int .u32 t, .int .u32 nb, .slice A n c] w fun e w' => ∃ A' c', e = .returned (.tuple #[.slice A' 256 c', .int .i64 0]) ∧ OwnB w' w.heap.size 5 A' 256 c' (pageL t nb l) ∧ Below w.heap.size w w' := by
  obtain ⟨i0, hi0, hz0, hz1, hz2⟩ := info_parts info_u8
  have HL := Lib.hid hl
  have HB := Lib.hid hb
  clear hl hb
  go_enter Try.func12, Try.ntmps12
  go_wp2_with fail
  refine (headbytes_any t nb n 0 _ (by omega) (by omega) (by omega) (by omega)).mono ?_
  rintro e w1 ⟨A1, c1, rfl, hO1, hb1⟩
  have HO1 := Lib.hid hO1
  have Hb1 := Lib.hid hb1
  clear hO1 hb1
  go_wp2_with (first
    | (at_builtin; refine wpList_append_b rfl (.tmp 20) (.tmp 21) _ rfl 5 i0 Try.underlying23 hi0 hz0 hz1 hz2 rfl HO1.out rfl (HB.out.below Hb1.out) HL.out (by omega) Hb1.out.size ?_; intro A2 c2 w2 hO2 hg2 hd2; have HO2 := Lib.hid hO2; have Hb2 := Lib.hid (below_grown Hb1.out HO1.out hg2 Hb1.out.size); clear hO2 hg2 hd2)
    | (at_builtin; refine wpList_append_zeros_b rfl (.tmp 23) (.tmp 26) _ _ rfl 5 i0 .i64 Try.underlying23 Try.underlying3 hi0 hz0 hz1 hz2 rfl HO2.out (k := 240 - n) (m := 252) (iv (by omega)) (by omega) (by omega) Hb2.out.size ?_; intro A3 c3 w3 hO3 hg3; have HO3 := Lib.hid hO3; have Hb3 := Lib.hid (below_grown Hb2.out HO2.out hg3 Hb2.out.size); clear hO3 hg3))
  have HBODY : Hid (OwnB w3 w.heap.size 5 A3 252 c3 (bodyL t nb l)) := by
    have h := HO3.out
    rw [show 240 - n = 240 - l.length by rw [HL.out], show le 4 t ++ le 4 nb ++ le 2 n ++ le 2 0 = headL t nb l.length by rw [HL.out]; rfl] at h
    exact h
  clear HO2 HO3
  refine (sum_any A3 252 c3 (bodyL t nb l) _ HBODY.out.1 HBODY.out.bytes (by omega)).mono ?_
  rintro e w4 ⟨rfl, hb4⟩
  have HE : Hid (ext 0 (bodyL t nb l) ≤ 4294967295) := Lib.hid (ext0_le _)
  have HPG : Hid (bodyL t nb l ++ le 4 (ext 0 (bodyL t nb l)) = pageL t nb l) := rfl
  have HB4 := Lib.hid (HBODY.out.below hb4)
  have Hb4 := Lib.hid (Hb3.out.trans (hb4.mono Hb3.out.size))
  clear hb4
  have hex : ext 0 (bodyL t nb l) ≤ 4294967295 := HE.out
  generalize ext 0 (bodyL t nb l) = sm at *
  go_wp2_with fail
  refine (putk_any A3 252 c3 sm 4 (bodyL t nb l) _ sz4 HB4.out.1 HB4.out.bytes (by omega) HB4.out.2.1 (by omega)).mono ?_
  rintro e w5 ⟨A5, c5, rfl, hO5, hb5⟩
  rw [HPG.out] at hO5
  have HO5 := Lib.hid hO5
  have Hb5 := Lib.hid hb5
  clear hO5 hb5
  go_wp2_with fail
  go_ret2
  exact ⟨_, _, rfl, HO5.out.mono Hb4.out.size, Hb4.out.trans (Hb5.out.mono Hb4.out.size)⟩
theorem make_no (t nb : Nat) (A : Option Addr) (n c : Nat) (w : World) (hn : 240 < n) (hn2 : n ≤ 1099511627776) :
    Calls Try.prog 12 #[.int .u32 t, .int .u32 nb, .slice A n c] w fun e w' => e = .returned (.tuple #[.slice none 0 0, .int .i64 9]) ∧ w = w' := by
  go_enter Try.func12, Try.ntmps12
  go_wp2_with fail
  go_ret2
  exact ⟨rfl, rfl⟩
theorem tag_any (l : List UInt8) (w : World) (hn : l.length ≤ 1099511627776) :
    Calls Try.prog 16 #[.string (txt l)] w fun e w' => e = .returned (.int .u32 (ext 0 l : Nat)) ∧ Below w.heap.size w w' := by
  have hsb := conv_any w (txt l)
  have HO := Lib.hid (convW_own 5 w l (by simp only [maxLen]; omega))
  have hts : (txt l).size = l.length := rfl
  go_enter Try.func16, Try.ntmps16
  go_wp2_with fail
  refine (sum_any _ l.length _ l _ rfl HO.out.bytes (by omega)).mono ?_
  rintro e w1 ⟨rfl, hb1⟩
  go_wp2_with fail
  go_ret
  exact ⟨rfl, (convW_below _ _ _).trans (hb1.mono (convW_below _ _ _).size)⟩
theorem reftag_any (l : List UInt8) (w : World) (hn : l.length ≤ 1099511627776) :
    Calls Try.prog 17 #[.string (txt l)] w fun e w' => e = .returned (.int .u32 (ext 0 l : Nat)) ∧ Below w.heap.size w w' := by
  have hsb := conv_any w (txt l)
  have HO := Lib.hid (convW_own 5 w l (by simp only [maxLen]; omega))
  have hts : (txt l).size = l.length := rfl
  go_enter Try.func17, Try.ntmps17
  go_wp2_with fail
  refine (refsum_any _ l.length _ l _ rfl HO.out.bytes (by omega)).mono ?_
  rintro e w1 ⟨rfl, rfl⟩
  go_wp2_with fail
  go_ret
  exact ⟨rfl, convW_below _ _ _⟩
end Go.Proofs.Ytflgelkpblnkcaa
