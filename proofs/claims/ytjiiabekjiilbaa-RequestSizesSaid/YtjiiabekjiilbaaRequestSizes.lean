/- RequestSizes: how many bytes an answer has. -/
import Derived.Test.YtjiiabekjiilbaaReqAns
import Derived.Test.YtjiiabekjiilbaaReqWorks
import Derived.Deep.Cut
set_option linter.unusedSimpArgs false
set_option linter.unusedVariables false
namespace Go.Proofs.Ytjiiabekjiilbaa
open Go.RowKit Mp

set_option maxRecDepth 100000 in
set_option maxHeartbeats 3200000 in
theorem law_sizes (k : Nat) (err : Int) (fd : Bool) (ds : Nat) (A : Option Addr) (n c : Nat) (ws : List Ed) (st : Nat) (w : World) (hk : k ≤ 255) (herr : -9223372036854775808 ≤ err ∧ err ≤ 9223372036854775807) (hds : ds ≤ 18446744073709551615) (hst : st ≤ 255)
    (hway : ws.length = n ∧ WayAt w w.heap.size A ws ∧ n ≤ c ∧ c ≤ maxLen ∧ ∀ x ∈ ws, x.ok) :
    Calls Try.prog 7 #[.int .u8 k, .agg (repC err fd ds (.slice A n c) st)] w fun e w' => e = .returned (.bool true) ∧ Below w.heap.size w w' := by
  obtain ⟨hws, hW, hnc, hcm, hok⟩ := hway
  obtain ⟨eb, heb⟩ := low_byte err
  have HWS := Lib.hid hws
  have HOK := Lib.hid hok
  have hnm : n ≤ 9223372036854775807 := by simp only [maxLen] at hcm; omega
  have K0 := Lib.hid (Blk.new w 37 (repC err fd ds (.slice A n c) st))
  have Z0 : Hid (Below w.heap.size w (w.alloc (.cells (repC err fd ds (.slice A n c) st) 37))) := (Below.refl w.heap.size w).alloc (Nat.le_refl _) _
  have HW := Lib.hid (hW.below Z0.out (Nat.le_refl _))
  clear hws hW hok hcm
  go_enter Try.func7, Try.ntmps7
  by_cases hbig : 4096 < n
  · unfold repC at *
    go_wp2_with fail
    refine (works_any _).mono ?_
    rintro e w1 ⟨rfl, hb1⟩
    go_wp2_with fail
    go_ret
    exact ⟨rfl, Z0.out.trans (hb1.mono Z0.out.size)⟩
  · have hn : n ≤ 4096 := by omega
    clear hbig hnm
    unfold repC at *
    go_upto_region 3 with (fail)
    generalize hg0 : w.alloc (.cells _ 37) = w0 at *
    clear hg0
    have p0 : w0.cell? ⟨w.heap.size, 0, none⟩ = some (.int .i64 err) := (K0.out.cell 0).trans rfl
    have p1 : w0.cell? ⟨w.heap.size, 1, none⟩ = some (.bool fd) := (K0.out.cell 1).trans rfl
    have p2 : w0.cell? ⟨w.heap.size, 2, none⟩ = some (.int .u64 ds) := (K0.out.cell 2).trans rfl
    have p3 : w0.cell? ⟨w.heap.size, 3, none⟩ = some (.slice A n c) := (K0.out.cell 3).trans rfl
    have p4 : w0.cell? ⟨w.heap.size, 4, none⟩ = some (.int .u8 st) := (K0.out.cell 4).trans rfl
    go_wp2_with fail
    refine (answer_any k err fd ds n c st A ws eb _ heb herr hds hst HWS.out (HW.out.more' Z0.out.size) HOK.out (by omega)).mono ?_
    rintro e w1 ⟨A1, m, c1, rfl, hO1, hb1⟩
    have K1 := Lib.hid (K0.out.below hb1 K0.out.lt)
    have Z1 : Hid (Below w.heap.size w w1) := Z0.out.trans (hb1.mono Z0.out.size)
    clear p0 p1 p2 p3 p4
    have p0 : w1.cell? ⟨w.heap.size, 0, none⟩ = some (.int .i64 err) := (K1.out.cell 0).trans rfl
    have p3 : w1.cell? ⟨w.heap.size, 3, none⟩ = some (.slice A n c) := (K1.out.cell 3).trans rfl
    have hm : m = (ansL eb (bodyL k fd ds st n ws)).length := hO1.1.symm
    clear K0 HW HOK
    by_cases he : eb = 0
    · subst he
      have he0 : err % 256 = 0 := heb
      by_cases h1 : k = 1
      · subst h1
        have hm' : m = 10 := by rw [hm, ansL_zero rfl, body1]; simp [distL, flagL, le_length]
        clear hm
        subst hm'
        obtain ⟨g1, rfl, _, hlt1, b0⟩ := ans_head hO1
        have b0' : w1.cell? ⟨g1, 0, none⟩ = some (.int .u8 0) := b0
        have hwr : IntKind.u8.wrap err = (0 : Int) := by simp [IntKind.wrap, IntKind.signed, IntKind.bits]; exact he0
        clear hO1 b0 heb
        go_wp2_with fail
        have hst1 := Since.drew (Since.refl w1)
        have KS : Hid (∀ W, Since w1 W → (W.cell? ⟨g1, 0, none⟩ = some (.int .u8 0) ∧ W.cell? ⟨w.heap.size, 0, none⟩ = some (.int .i64 err) ∧ Since w1 W)) := Lib.hid fun W hS => ⟨(hS.cell (p := ⟨g1, 0, none⟩) hlt1).trans b0', (hS.cell (p := ⟨w.heap.size, 0, none⟩) K1.out.lt).trans p0, hS⟩
        have PV : Hid (∀ W, Since w1 W → Calls Try.prog 10 #[] W fun e w' => e = .returned (.bool true) ∧ Since w1 w') := Lib.hid fun W hS => works_since W hS
        go_region_held3 (fun W => (W.cell? ⟨g1, 0, none⟩ = some (.int .u8 0) ∧ W.cell? ⟨w.heap.size, 0, none⟩ = some (.int .i64 err) ∧ Since w1 W)) (first | ((with_reducible refine KS.out _ ?_); (with_reducible assumption)) | ((with_reducible refine KS.out _ (Since.drew ?_)); (with_reducible assumption))) (first | (go_at_call 10; (with_reducible refine Calls.mono (PV.out _ ?_) ?_); (with_reducible assumption); rintro e wv ⟨rfl, hsv⟩))
        go_wp2_with fail
        go_ret
        exact ⟨rfl, Z1.out.trans (hsv.mono Z1.out.size)⟩
      by_cases h2 : k = 2
      · subst h2
        have hm' : m = 6 + 16 * n := by rw [hm, ansL_zero rfl, body2]; simp [flagL, le_length, wayL_length, HWS.out]; omega
        clear hm
        have hmi : (6 : Int) + 16 * (n : Int) = (m : Int) := by omega
        have HMI := Lib.hid hmi
        clear hmi hm'
        obtain ⟨g1, rfl, _, hlt1, b0⟩ := ans_head hO1
        have b0' : w1.cell? ⟨g1, 0, none⟩ = some (.int .u8 0) := b0
        have hwr : IntKind.u8.wrap err = (0 : Int) := by simp [IntKind.wrap, IntKind.signed, IntKind.bits]; exact he0
        clear hO1 b0 heb
        go_wp2_with fail
        rw [HMI.out]
        have hm0 : (0 : Int) < (m : Int) := by have := HMI.out; omega
        have hm1 : 0 < m := by omega
        have hst1 := Since.drew (Since.refl w1)
        have KS : Hid (∀ W, Since w1 W → (W.cell? ⟨g1, 0, none⟩ = some (.int .u8 0) ∧ W.cell? ⟨w.heap.size, 0, none⟩ = some (.int .i64 err) ∧ Since w1 W)) := Lib.hid fun W hS => ⟨(hS.cell (p := ⟨g1, 0, none⟩) hlt1).trans b0', (hS.cell (p := ⟨w.heap.size, 0, none⟩) K1.out.lt).trans p0, hS⟩
        have PV : Hid (∀ W, Since w1 W → Calls Try.prog 10 #[] W fun e w' => e = .returned (.bool true) ∧ Since w1 w') := Lib.hid fun W hS => works_since W hS
        go_region_held3 (fun W => (W.cell? ⟨g1, 0, none⟩ = some (.int .u8 0) ∧ W.cell? ⟨w.heap.size, 0, none⟩ = some (.int .i64 err) ∧ Since w1 W)) (first | ((with_reducible refine KS.out _ ?_); (with_reducible assumption)) | ((with_reducible refine KS.out _ (Since.drew ?_)); (with_reducible assumption))) (first | (go_at_call 10; (with_reducible refine Calls.mono (PV.out _ ?_) ?_); (with_reducible assumption); rintro e wv ⟨rfl, hsv⟩))
        go_wp2_with fail
        go_ret
        exact ⟨rfl, Z1.out.trans (hsv.mono Z1.out.size)⟩
      by_cases h3 : k = 3
      · subst h3
        have hm' : m = 2 := by rw [hm, ansL_zero rfl, body3]; simp [le_length]
        clear hm
        subst hm'
        obtain ⟨g1, rfl, _, hlt1, b0⟩ := ans_head hO1
        have b0' : w1.cell? ⟨g1, 0, none⟩ = some (.int .u8 0) := b0
        have hwr : IntKind.u8.wrap err = (0 : Int) := by simp [IntKind.wrap, IntKind.signed, IntKind.bits]; exact he0
        clear hO1 b0 heb
        go_wp2_with fail
        have hst1 := Since.drew (Since.refl w1)
        have KS : Hid (∀ W, Since w1 W → (W.cell? ⟨g1, 0, none⟩ = some (.int .u8 0) ∧ W.cell? ⟨w.heap.size, 0, none⟩ = some (.int .i64 err) ∧ Since w1 W)) := Lib.hid fun W hS => ⟨(hS.cell (p := ⟨g1, 0, none⟩) hlt1).trans b0', (hS.cell (p := ⟨w.heap.size, 0, none⟩) K1.out.lt).trans p0, hS⟩
        have PV : Hid (∀ W, Since w1 W → Calls Try.prog 10 #[] W fun e w' => e = .returned (.bool true) ∧ Since w1 w') := Lib.hid fun W hS => works_since W hS
        go_region_held3 (fun W => (W.cell? ⟨g1, 0, none⟩ = some (.int .u8 0) ∧ W.cell? ⟨w.heap.size, 0, none⟩ = some (.int .i64 err) ∧ Since w1 W)) (first | ((with_reducible refine KS.out _ ?_); (with_reducible assumption)) | ((with_reducible refine KS.out _ (Since.drew ?_)); (with_reducible assumption))) (first | (go_at_call 10; (with_reducible refine Calls.mono (PV.out _ ?_) ?_); (with_reducible assumption); rintro e wv ⟨rfl, hsv⟩))
        go_wp2_with fail
        go_ret
        exact ⟨rfl, Z1.out.trans (hsv.mono Z1.out.size)⟩
      · have hm' : m = 1 := by rw [hm, ansL_zero rfl, body0 h1 h2 h3]; rfl
        clear hm
        subst hm'
        have n1 : ¬ (k : Int) = 1 := by omega
        have n2 : ¬ (k : Int) = 2 := by omega
        have n3 : ¬ (k : Int) = 3 := by omega
        obtain ⟨g1, rfl, _, hlt1, b0⟩ := ans_head hO1
        have b0' : w1.cell? ⟨g1, 0, none⟩ = some (.int .u8 0) := b0
        have hwr : IntKind.u8.wrap err = (0 : Int) := by simp [IntKind.wrap, IntKind.signed, IntKind.bits]; exact he0
        clear hO1 b0 heb
        go_wp2_with fail
        have hst1 := Since.drew (Since.refl w1)
        have KS : Hid (∀ W, Since w1 W → (W.cell? ⟨g1, 0, none⟩ = some (.int .u8 0) ∧ W.cell? ⟨w.heap.size, 0, none⟩ = some (.int .i64 err) ∧ Since w1 W)) := Lib.hid fun W hS => ⟨(hS.cell (p := ⟨g1, 0, none⟩) hlt1).trans b0', (hS.cell (p := ⟨w.heap.size, 0, none⟩) K1.out.lt).trans p0, hS⟩
        have PV : Hid (∀ W, Since w1 W → Calls Try.prog 10 #[] W fun e w' => e = .returned (.bool true) ∧ Since w1 w') := Lib.hid fun W hS => works_since W hS
        go_region_held3 (fun W => (W.cell? ⟨g1, 0, none⟩ = some (.int .u8 0) ∧ W.cell? ⟨w.heap.size, 0, none⟩ = some (.int .i64 err) ∧ Since w1 W)) (first | ((with_reducible refine KS.out _ ?_); (with_reducible assumption)) | ((with_reducible refine KS.out _ (Since.drew ?_)); (with_reducible assumption))) (first | (go_at_call 10; (with_reducible refine Calls.mono (PV.out _ ?_) ?_); (with_reducible assumption); rintro e wv ⟨rfl, hsv⟩))
        go_wp2_with fail
        go_ret
        exact ⟨rfl, Z1.out.trans (hsv.mono Z1.out.size)⟩
    · have he0 : ¬ err % 256 = 0 := by
        rw [heb]
        intro h
        exact he (UInt8.toNat_inj.1 (by simpa using h))
      have hm' : m = 1 := by rw [hm, ansL_other he]; rfl
      clear hm
      subst hm'
      obtain ⟨g1, rfl, _, hlt1, b0⟩ := ans_head hO1
      have b0' : w1.cell? ⟨g1, 0, none⟩ = some (.int .u8 (eb.toNat : Int)) := b0
      have hwr : IntKind.u8.wrap err = ((eb.toNat : Int) : Int) := by simp [IntKind.wrap, IntKind.signed, IntKind.bits]; exact heb
      have hbq : (((eb.toNat : Int)) == 0) = false := by rw [← heb]; simp [he0]
      clear hO1 b0 heb
      go_wp2_with fail
      have hst1 := Since.drew (Since.refl w1)
      have KS : Hid (∀ W, Since w1 W → (W.cell? ⟨g1, 0, none⟩ = some (.int .u8 (eb.toNat : Int)) ∧ W.cell? ⟨w.heap.size, 0, none⟩ = some (.int .i64 err) ∧ Since w1 W)) := Lib.hid fun W hS => ⟨(hS.cell (p := ⟨g1, 0, none⟩) hlt1).trans b0', (hS.cell (p := ⟨w.heap.size, 0, none⟩) K1.out.lt).trans p0, hS⟩
      have PV : Hid (∀ W, Since w1 W → Calls Try.prog 10 #[] W fun e w' => e = .returned (.bool true) ∧ Since w1 w') := Lib.hid fun W hS => works_since W hS
      go_region_held3 (fun W => (W.cell? ⟨g1, 0, none⟩ = some (.int .u8 (eb.toNat : Int)) ∧ W.cell? ⟨w.heap.size, 0, none⟩ = some (.int .i64 err) ∧ Since w1 W)) (first | ((with_reducible refine KS.out _ ?_); (with_reducible assumption)) | ((with_reducible refine KS.out _ (Since.drew ?_)); (with_reducible assumption))) (first | (go_at_call 10; (with_reducible refine Calls.mono (PV.out _ ?_) ?_); (with_reducible assumption); rintro e wv ⟨rfl, hsv⟩))
      go_wp2_with fail
      go_ret
      exact ⟨rfl, Z1.out.trans (hsv.mono Z1.out.size)⟩
end Go.Proofs.Ytjiiabekjiilbaa
