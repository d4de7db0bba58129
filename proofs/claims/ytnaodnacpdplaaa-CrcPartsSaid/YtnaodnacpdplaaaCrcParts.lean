/- CrcParts: bytes may be summed in parts, cut anywhere. -/
import Derived.Test.YtnaodnacpdplaaaCrcSince
set_option linter.unusedSimpArgs false
set_option linter.unusedVariables false
namespace Go.Proofs.Ytnaodnacpdplaaa
open Go.RowKit Mp

theorem ext_le {s : Nat} (h : s ≤ 4294967295) (l : List UInt8) : ext s l ≤ 4294967295 := by
  have := ext_lt (s := s) (by omega) l; omega

set_option maxRecDepth 100000 in
set_option maxHeartbeats 1600000 in
theorem parts_walk (s : Nat) (A A2 : Option Addr) (n c : Nat) (k : Nat) (w : World) (x1 x2 x3 x4 : Nat) (hbig : n ≤ 65536) (hk : k ≤ n) (hnc : n ≤ c)
    (m2 c2 : Nat) (hA2 : Hid (c = k → A2 = A ∧ m2 = 0 ∧ c2 = 0 ∧ x1 = x3 ∧ x2 = x4)) (hA3 : Hid (c ≠ k → A2 = A.map (·.add k) ∧ m2 = n - k ∧ c2 = c - k))
    (Ha : Hid (∀ W, Since w W → Calls Try.prog 11 #[.int .u32 s, .slice A k c] W fun e w' => e = .returned (.int .u32 x1) ∧ Since w w'))
    (Hb : Hid (∀ W, Since w W → Calls Try.prog 11 #[.int .u32 x1, .slice A2 m2 c2] W fun e w' => e = .returned (.int .u32 x3) ∧ Since w w'))
    (Hc : Hid (∀ W, Since w W → Calls Try.prog 11 #[.int .u32 s, .slice A n c] W fun e w' => e = .returned (.int .u32 x3) ∧ Since w w'))
    (Hd : Hid (∀ W, Since w W → Calls Try.prog 13 #[.slice A k c] W fun e w' => e = .returned (.int .u32 x2) ∧ Since w w'))
    (He : Hid (∀ W, Since w W → Calls Try.prog 11 #[.int .u32 x2, .slice A2 m2 c2] W fun e w' => e = .returned (.int .u32 x4) ∧ Since w w'))
    (Hf : Hid (∀ W, Since w W → Calls Try.prog 13 #[.slice A n c] W fun e w' => e = .returned (.int .u32 x4) ∧ Since w w')) :
    Calls Try.prog 4 #[.int .u32 s, .slice A n c, .int .i64 k] w fun e w' => e = .returned (.bool true) ∧ Below w.heap.size w w' := by
  have hkc : k ≤ c := by omega
  have hk0 : (0 : Int) ≤ (k : Int) := by omega
  have hkn : (k : Int) ≤ (n : Int) := by omega
  have hkc' : (k : Int) ≤ (c : Int) := by omega
  have hnc' : (n : Int) ≤ (c : Int) := by omega
  by_cases hck : c = k
  · obtain ⟨rfl, rfl, rfl, rfl, rfl⟩ := hA2.out hck
    obtain rfl : n = k := by omega
    subst hck
    clear hA2 hA3
    go_enter Try.func4, Try.ntmps4
    go_wp2_with fail
    go_region_held3 (fun w' => Since w w') (first | assumption | exact (Since.refl _).drew) (first | (go_at_call 9; (with_reducible refine (works_since _ (by assumption)).mono ?_); rintro e wq ⟨rfl, hsq⟩) | (go_at_call 11; (with_reducible refine (Ha.out _ (by assumption)).mono ?_); rintro e wq ⟨rfl, hsq⟩) | (go_at_call 11; (with_reducible refine (Hb.out _ (by assumption)).mono ?_); rintro e wq ⟨rfl, hsq⟩) | (go_at_call 11; (with_reducible refine (Hc.out _ (by assumption)).mono ?_); rintro e wq ⟨rfl, hsq⟩) | (go_at_call 11; (with_reducible refine (He.out _ (by assumption)).mono ?_); rintro e wq ⟨rfl, hsq⟩) | (go_at_call 13; (with_reducible refine (Hf.out _ (by assumption)).mono ?_); rintro e wq ⟨rfl, hsq⟩) | (go_at_call 13; (with_reducible refine (Hd.out _ (by assumption)).mono ?_); rintro e wq ⟨rfl, hsq⟩))
    go_wp2_with fail
    go_ret
    exact ⟨rfl, ‹Since w _›⟩
  · obtain ⟨rfl, rfl, rfl⟩ := hA3.out hck
    clear hA2 hA3
    go_enter Try.func4, Try.ntmps4
    go_wp2_with fail
    go_region_held3 (fun w' => Since w w') (first | assumption | exact (Since.refl _).drew) (first | (go_at_call 9; (with_reducible refine (works_since _ (by assumption)).mono ?_); rintro e wq ⟨rfl, hsq⟩) | (go_at_call 11; (with_reducible refine (Ha.out _ (by assumption)).mono ?_); rintro e wq ⟨rfl, hsq⟩) | (go_at_call 11; (with_reducible refine (Hb.out _ (by assumption)).mono ?_); rintro e wq ⟨rfl, hsq⟩) | (go_at_call 11; (with_reducible refine (Hc.out _ (by assumption)).mono ?_); rintro e wq ⟨rfl, hsq⟩) | (go_at_call 11; (with_reducible refine (He.out _ (by assumption)).mono ?_); rintro e wq ⟨rfl, hsq⟩) | (go_at_call 13; (with_reducible refine (Hf.out _ (by assumption)).mono ?_); rintro e wq ⟨rfl, hsq⟩) | (go_at_call 13; (with_reducible refine (Hd.out _ (by assumption)).mono ?_); rintro e wq ⟨rfl, hsq⟩))
    go_wp2_with fail
    go_ret
    exact ⟨rfl, ‹Since w _›⟩

theorem law_parts (s : Nat) (A : Option Addr) (n c : Nat) (l : List UInt8) (k : Int) (w : World) (hs : s ≤ 4294967295) (hl : l.length = n) (hb : Bytes w w.heap.size A l) (hcap : n ≤ c ∧ c ≤ maxLen) (hk1 : -9223372036854775808 ≤ k) (hk2 : k ≤ 9223372036854775807) :
    Calls Try.prog 4 #[.int .u32 s, .slice A n c, .int .i64 k] w fun e w' => e = .returned (.bool true) ∧ Below w.heap.size w w' := by
  by_cases hin : n ≤ 65536 ∧ 0 ≤ k ∧ k ≤ n
  · obtain ⟨hbig, h0, hkn⟩ := hin
    obtain ⟨k, rfl⟩ := Int.eq_ofNat_of_zero_le h0
    have hk : k ≤ n := by omega
    have h1 := hb.cut 0 k c (by omega) (by omega) (by omega)
    have h2 := hb.cut k n c hk (by omega) (by omega)
    have hA1 : Bytes w w.heap.size A (l.take k) := by
      have e : (if c = 0 then A else A.map (·.add (0 * 1))) = A := by
        split
        · rfl
        · cases A <;> simp [Addr.add]
      rw [e] at h1
      simpa using h1
    have e2 : (l.drop k).take (n - k) = l.drop k := List.take_of_length_le (by simp; omega)
    rw [e2] at h2
    have hp1 : ext (ext s (l.take k)) (l.drop k) = ext s l := by rw [ext_append, List.take_append_drop]
    have hp2 : ext (ext 0 (l.take k)) (l.drop k) = ext 0 l := by rw [ext_append, List.take_append_drop]
    have hs1 := ext_le hs (l.take k)
    have hs0 := ext_le (s := 0) (by omega) (l.take k)
    have hl1 : (l.take k).length = k := by simp; omega
    have hl2 : (l.drop k).length = n - k := by simp; omega
    refine parts_walk s A (if c = k then A else A.map (·.add (k * 1))) n c k w (ext s (l.take k)) (ext 0 (l.take k)) (ext s l) (ext 0 l) hbig hk hcap.1 (n - k) (c - k) ?_ ?_
      (Lib.hid fun W hS => extend_since s A k c (l.take k) hs hl1 hA1 (by omega) W hS)
      (Lib.hid fun W hS => by have := extend_since (ext s (l.take k)) _ (n - k) (c - k) (l.drop k) hs1 hl2 h2 (by omega) W hS; rwa [hp1] at this)
      (Lib.hid fun W hS => extend_since s A n c l hs hl hb (by omega) W hS)
      (Lib.hid fun W hS => sum_since A k c (l.take k) hl1 hA1 (by omega) W hS)
      (Lib.hid fun W hS => by have := extend_since (ext 0 (l.take k)) _ (n - k) (c - k) (l.drop k) hs0 hl2 h2 (by omega) W hS; rwa [hp2] at this)
      (Lib.hid fun W hS => sum_since A n c l hl hb (by omega) W hS)
    · intro hck
      have hkn' : k = n := by omega
      exact ⟨by rw [if_pos hck], by omega, by omega, by rw [List.take_of_length_le (by omega)], by rw [List.take_of_length_le (by omega)]⟩
    · intro hck
      exact ⟨by rw [if_neg hck, Nat.mul_one], rfl, rfl⟩
  · clear hl hb
    by_cases hb1 : 65536 < n
    · go_enter Try.func4, Try.ntmps4
      go_wp2_with (go_at_call 9; refine (works_any _).mono ?_; rintro e w1 ⟨rfl, hb1⟩)
      go_ret
      exact ⟨rfl, ‹_›⟩
    · by_cases hb2 : k < 0
      · go_enter Try.func4, Try.ntmps4
        go_wp2_with (go_at_call 9; refine (works_any _).mono ?_; rintro e w1 ⟨rfl, hb1⟩)
        go_ret
        exact ⟨rfl, ‹_›⟩
      · have hb3 : (n : Int) < k := by omega
        clear hin
        go_enter Try.func4, Try.ntmps4
        go_wp2_with (go_at_call 9; refine (works_any _).mono ?_; rintro e w1 ⟨rfl, hb1⟩)
        go_ret
        exact ⟨rfl, ‹_›⟩
end Go.Proofs.Ytnaodnacpdplaaa
