/- RequestAsks: Read tells the question that any bytes ask, as the document's Read does, and the bytes stay; Write writes the bytes of any question, as the document's does. -/
import Derived.Test.YtjiiabekjiilbaaReqWorks
import Derived.Test.YtjiiabekjiilbaaReqRef
import Derived.Deep.Cut
set_option linter.unusedSimpArgs false
set_option linter.unusedVariables false
namespace Go.Proofs.Ytjiiabekjiilbaa
open Go.RowKit Mp

set_option maxRecDepth 100000 in
set_option maxHeartbeats 6400000 in
theorem law_asks (A : Option Addr) (n c : Nat) (l : List UInt8) (k s t : Nat) (w : World) (hl : l.length = n) (hb : Bytes w w.heap.size A l) (hcap : n ≤ c ∧ c ≤ maxLen) (hk : k ≤ 255) (hs : s ≤ 4294967295) (ht : t ≤ 4294967295) :
    Calls Try.prog 3 #[.slice A n c, .agg #[.int .u8 k, .int .u32 s, .int .u32 t]] w fun e w' => e = .returned (.bool true) ∧ Below w.heap.size w w' := by
  have HL := Lib.hid hl
  have HB := Lib.hid hb
  clear hl hb
  obtain ⟨kb, rfl⟩ : ∃ kb : UInt8, k = kb.toNat := ⟨UInt8.ofNat k, by simp; omega⟩
  have Z0 : Hid (Below w.heap.size w (w.alloc (.cells #[.int .u8 (kb.toNat : Int), .int .u32 s, .int .u32 t] 25))) := by
    have h : Below w.heap.size w (w.alloc (.cells #[.int .u8 (kb.toNat : Int), .int .u32 s, .int .u32 t] 25)) := (Below.refl _ _).alloc (Nat.le_refl _) _
    exact h
  have K0 : Hid (Blk (w.alloc (.cells #[.int .u8 (kb.toNat : Int), .int .u32 s, .int .u32 t] 25)) w.heap.size 25 #[.int .u8 (kb.toNat : Int), .int .u32 s, .int .u32 t]) := Lib.hid (Blk.new _ _ _)
  go_enter Try.func3, Try.ntmps3
  go_upto_region 1 with (fail)
  generalize w.alloc (.cells #[.int .u8 (kb.toNat : Int), .int .u32 s, .int .u32 t] 25) = w0 at *
  by_cases hbig : 131072 < n
  · go_wp2_with fail
    refine (works_any _).mono ?_
    rintro e w1 ⟨rfl, hb1⟩
    go_wp2_with fail
    go_ret
    exact ⟨rfl, Z0.out.trans (hb1.mono Z0.out.size)⟩
  obtain ⟨K, S, T, E, hA⟩ := askAns l
  have HA := Lib.hid hA
  clear hA
  have HB0 : Hid (Bytes w0 w0.heap.size A l) := by
    have h := (HB.out.below Z0.out).more Z0.out.size
    exact h
  go_wp2_with fail
  refine (roomy_any A n c l _ HL.out HB0.out (by omega)).mono ?_
  rintro e w1 ⟨A1, c1, rfl, hO1, hc1, hb1⟩
  have HO1 := Lib.hid hO1
  have K1 := Lib.hid (K0.out.below hb1 K0.out.lt)
  have Z1 := Lib.hid (Z0.out.trans (hb1.mono Z0.out.size))
  clear hO1 hb1
  have HIN : Hid (Bytes w1 w1.heap.size A1 l) := by
    have h := (HO1.out.take n (by omega)).bytes
    rw [List.take_append_of_le_length (by have := HL.out; omega), List.take_of_length_le (by have := HL.out; omega)] at h
    exact h
  go_wp2_with fail
  refine (read_ans A1 n c1 l K S T E _ HA.out HL.out HIN.out (by omega) (by omega)).mono ?_
  rintro e w2 ⟨rfl, hb2⟩
  have K2 := Lib.hid ((K1.out.below hb2 K1.out.lt).alloc (.cells #[.int .u8 K, .int .u32 S, .int .u32 T] 25))
  have X2 := Lib.hid (Blk.new w2 25 #[.int .u8 K, .int .u32 S, .int .u32 T])
  have HO2 := Lib.hid ((HO1.out.below hb2).alloc (.cells #[.int .u8 K, .int .u32 S, .int .u32 T] 25))
  have Z2 : Hid (Below w.heap.size w (w2.alloc (.cells #[.int .u8 K, .int .u32 S, .int .u32 T] 25))) := by
    have h0 := Z1.out.trans (hb2.mono Z1.out.size)
    have h := h0.alloc h0.size (.cells #[.int .u8 K, .int .u32 S, .int .u32 T] 25)
    exact h
  clear hb2
  go_upto_region 5 with (fail)
  generalize hg2 : w2.alloc (.cells #[.int .u8 K, .int .u32 S, .int .u32 T] 25) = w3 at *
  clear hg2
  go_wp2_with fail
  refine (refread_ans A n c l K S T E _ HA.out HL.out ((HB.out.below Z2.out).more Z2.out.size) (by omega) hcap.1).mono ?_
  rintro e w4 ⟨rfl, hb4⟩
  have K4 := Lib.hid ((K2.out.below hb4 K2.out.lt).alloc (.cells #[.int .u8 K, .int .u32 S, .int .u32 T] 25))
  have X4 := Lib.hid ((X2.out.below hb4 X2.out.lt).alloc (.cells #[.int .u8 K, .int .u32 S, .int .u32 T] 25))
  have Y4 := Lib.hid (Blk.new w4 25 #[.int .u8 K, .int .u32 S, .int .u32 T])
  have HO4 := Lib.hid ((HO2.out.below hb4).alloc (.cells #[.int .u8 K, .int .u32 S, .int .u32 T] 25))
  have Z4 : Hid (Below w.heap.size w (w4.alloc (.cells #[.int .u8 K, .int .u32 S, .int .u32 T] 25))) := by
    have h0 := Z2.out.trans (hb4.mono Z2.out.size)
    have h := h0.alloc h0.size (.cells #[.int .u8 K, .int .u32 S, .int .u32 T] 25)
    exact h
  clear hb4
  go_upto_region 6 with (fail)
  generalize hg4 : w4.alloc (.cells #[.int .u8 K, .int .u32 S, .int .u32 T] 25) = w5 at *
  clear hg4
  have hst := Since.refl w5
  have hst1 := Since.drew hst
  have KS : Hid (∀ W, Since w5 W → (W.cell? ⟨w.heap.size, 0, none⟩ = some (.int .u8 (kb.toNat : Int)) ∧ W.cell? ⟨w.heap.size, 1, none⟩ = some (.int .u32 s) ∧ W.cell? ⟨w.heap.size, 2, none⟩ = some (.int .u32 t) ∧ W.cell? ⟨w2.heap.size, 0, none⟩ = some (.int .u8 K) ∧ W.cell? ⟨w2.heap.size, 1, none⟩ = some (.int .u32 S) ∧ W.cell? ⟨w2.heap.size, 2, none⟩ = some (.int .u32 T) ∧ W.cell? ⟨w4.heap.size, 0, none⟩ = some (.int .u8 K) ∧ W.cell? ⟨w4.heap.size, 1, none⟩ = some (.int .u32 S) ∧ W.cell? ⟨w4.heap.size, 2, none⟩ = some (.int .u32 T) ∧ Since w5 W)) := by
    have h : ∀ W, Since w5 W → (W.cell? ⟨w.heap.size, 0, none⟩ = some (.int .u8 (kb.toNat : Int)) ∧ W.cell? ⟨w.heap.size, 1, none⟩ = some (.int .u32 s) ∧ W.cell? ⟨w.heap.size, 2, none⟩ = some (.int .u32 t) ∧ W.cell? ⟨w2.heap.size, 0, none⟩ = some (.int .u8 K) ∧ W.cell? ⟨w2.heap.size, 1, none⟩ = some (.int .u32 S) ∧ W.cell? ⟨w2.heap.size, 2, none⟩ = some (.int .u32 T) ∧ W.cell? ⟨w4.heap.size, 0, none⟩ = some (.int .u8 K) ∧ W.cell? ⟨w4.heap.size, 1, none⟩ = some (.int .u32 S) ∧ W.cell? ⟨w4.heap.size, 2, none⟩ = some (.int .u32 T) ∧ Since w5 W) := fun W hS => by
      have k := K4.out.below hS K4.out.lt
      have x := X4.out.below hS X4.out.lt
      have y := Y4.out.below hS Y4.out.lt
      exact ⟨(k.cell 0).trans rfl, (k.cell 1).trans rfl, (k.cell 2).trans rfl, (x.cell 0).trans rfl, (x.cell 1).trans rfl, (x.cell 2).trans rfl, (y.cell 0).trans rfl, (y.cell 1).trans rfl, (y.cell 2).trans rfl, hS⟩
    exact h
  have PK : Hid (∀ W, Since w5 W → Calls Try.prog 14 #[.slice A1 n c1, .slice A n c] W fun e w' => e = .returned (.bool true) ∧ Since w5 w') := by
    have h : ∀ W, Since w5 W → Calls Try.prog 14 #[.slice A1 n c1, .slice A n c] W fun e w' => e = .returned (.bool true) ∧ Since w5 w' := fun W hS =>
      (kept_any A1 n c1 A n c l guardL l W HL.out hc1 (HO4.out.below hS).bytes rfl HL.out ((((HB.out.below Z4.out).more Z4.out.size).below hS).more (Below.size hS)) (by omega) (by omega)).mono fun e w' h => ⟨by have := h.1; simpa using this, hS.step h.2⟩
    exact h
  have PW : Hid (∀ W, Since w5 W → Calls Try.prog 16 #[.agg #[.int .u8 (kb.toNat : Int), .int .u32 s, .int .u32 t]] W fun e w' => ∃ A' c', e = .returned (.slice A' 9 c') ∧ OwnB w' w5.heap.size 5 A' 9 c' (askL kb s t) ∧ Since w5 w') := by
    have h : ∀ W, Since w5 W → Calls Try.prog 16 #[.agg #[.int .u8 (kb.toNat : Int), .int .u32 s, .int .u32 t]] W fun e w' => ∃ A' c', e = .returned (.slice A' 9 c') ∧ OwnB w' w5.heap.size 5 A' 9 c' (askL kb s t) ∧ Since w5 w' := fun W hS =>
      (write_any kb s t W hs ht).mono fun e w' ⟨A', c', h1, h2, h3⟩ => ⟨A', c', h1, h2.mono (Below.size hS), hS.step h3⟩
    exact h
  have PR : Hid (∀ W A c, OwnB W w5.heap.size 5 A 9 c (askL kb s t) → Since w5 W → Calls Try.prog 17 #[.agg #[.int .u8 (kb.toNat : Int), .int .u32 s, .int .u32 t]] W fun e w' => ∃ A' c', e = .returned (.slice A' 9 c') ∧ OwnB w' w5.heap.size 5 A' 9 c' (askL kb s t) ∧ OwnB w' w5.heap.size 5 A 9 c (askL kb s t) ∧ Since w5 w') := by
    have h : ∀ W A c, OwnB W w5.heap.size 5 A 9 c (askL kb s t) → Since w5 W → Calls Try.prog 17 #[.agg #[.int .u8 (kb.toNat : Int), .int .u32 s, .int .u32 t]] W fun e w' => ∃ A' c', e = .returned (.slice A' 9 c') ∧ OwnB w' w5.heap.size 5 A' 9 c' (askL kb s t) ∧ OwnB w' w5.heap.size 5 A 9 c (askL kb s t) ∧ Since w5 w' := fun W A c hO hS =>
      (refwrite_any kb s t W hs ht).mono fun e w' ⟨A', c', h1, h2, h3⟩ => ⟨A', c', h1, h2.mono (Below.size hS), hO.below h3, hS.step h3⟩
    exact h
  have PE : Hid (∀ W A c A' c', OwnB W w5.heap.size 5 A 9 c (askL kb s t) → OwnB W w5.heap.size 5 A' 9 c' (askL kb s t) → Since w5 W → Calls Try.prog 15 #[.slice A 9 c, .slice A' 9 c'] W fun e w' => e = .returned (.bool true) ∧ Since w5 w') := by
    have h : ∀ W A c A' c', OwnB W w5.heap.size 5 A 9 c (askL kb s t) → OwnB W w5.heap.size 5 A' 9 c' (askL kb s t) → Since w5 W → Calls Try.prog 15 #[.slice A 9 c, .slice A' 9 c'] W fun e w' => e = .returned (.bool true) ∧ Since w5 w' := fun W A c A' c' hO hO' hS =>
      (eq_any A 9 c A' 9 c' _ _ W hO.1 hO.bytes hO'.1 hO'.bytes).mono fun e w' h => ⟨by have := h.1; simpa using this, by obtain ⟨_, rfl⟩ := h; exact hS⟩
    exact h
  have PV : Hid (∀ W, Since w5 W → Calls Try.prog 10 #[] W fun e w' => e = .returned (.bool true) ∧ Since w5 w') := Lib.hid fun W hS => works_since W hS
  go_region_held3 (fun W => (W.cell? ⟨w.heap.size, 0, none⟩ = some (.int .u8 (kb.toNat : Int)) ∧ W.cell? ⟨w.heap.size, 1, none⟩ = some (.int .u32 s) ∧ W.cell? ⟨w.heap.size, 2, none⟩ = some (.int .u32 t) ∧ W.cell? ⟨w2.heap.size, 0, none⟩ = some (.int .u8 K) ∧ W.cell? ⟨w2.heap.size, 1, none⟩ = some (.int .u32 S) ∧ W.cell? ⟨w2.heap.size, 2, none⟩ = some (.int .u32 T) ∧ W.cell? ⟨w4.heap.size, 0, none⟩ = some (.int .u8 K) ∧ W.cell? ⟨w4.heap.size, 1, none⟩ = some (.int .u32 S) ∧ W.cell? ⟨w4.heap.size, 2, none⟩ = some (.int .u32 T) ∧ Since w5 W)) (first | ((with_reducible refine KS.out _ ?_); (with_reducible assumption)) | ((with_reducible refine KS.out _ (Since.drew ?_)); (with_reducible assumption))) (first | (go_at_call 14; (with_reducible refine Calls.mono (PK.out _ ?_) ?_); (with_reducible assumption); rintro e wk ⟨rfl, hsk⟩) | (go_at_call 16; (with_reducible refine Calls.mono (PW.out _ ?_) ?_); (with_reducible assumption); rintro e wq ⟨Aw, cw, rfl, hOw, hsw⟩) | (go_at_call 17; (with_reducible refine Calls.mono (PR.out _ _ _ hOw hsw) ?_); rintro e wr ⟨Ar, cr, rfl, hOr, hOw2, hsr⟩) | (go_at_call_of 15 Ar; (with_reducible refine Calls.mono (PE.out _ _ _ _ _ hOw2 hOr hsr) ?_); rintro e we ⟨rfl, hse⟩) | (go_at_call 10; (with_reducible refine Calls.mono (PV.out _ hse) ?_); rintro e wv ⟨rfl, hsv⟩))
  go_wp2_with fail
  go_ret
  exact ⟨rfl, Z4.out.trans (Below.mono hsv Z4.out.size)⟩
end Go.Proofs.Ytjiiabekjiilbaa
