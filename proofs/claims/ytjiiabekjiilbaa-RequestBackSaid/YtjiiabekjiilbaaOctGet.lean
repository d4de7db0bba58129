/- What Get tells: the number that stands at a place, or that there is none; in the program and in the reference. -/
import Derived.Test.YtjiiabekjiilbaaOctTake
set_option linter.unusedSimpArgs false
set_option linter.unusedVariables false
namespace Go.Proofs.Ytjiiabekjiilbaa
open Go.RowKit Mp

theorem num_drop (l : List UInt8) (a s : Nat) : num (l.drop a) 0 s = num l a s := by simp [num]

theorem Sz.nat {s : Int} (h : Sz s) : ∃ k : Nat, s = (k : Int) ∧ 1 ≤ k ∧ k ≤ 8 := by
  unfold Sz at h
  exact ⟨s.toNat, by omega, by omega, by omega⟩

/-- is there a number of that size at that place? -/
def GetOk (n : Nat) (a s : Int) : Prop := Sz s ∧ 0 ≤ a ∧ a ≤ (n : Int) - s
instance (n : Nat) (a s : Int) : Decidable (GetOk n a s) := by unfold GetOk; infer_instance

set_option maxRecDepth 100000 in
set_option maxHeartbeats 1600000 in
theorem get_ok (A : Option Addr) (n c a s : Nat) (l : List UInt8) (w : World) (hl : l.length = n) (hb : Bytes w w.heap.size A l) (hn : n ≤ 1099511627776) (hnc : n ≤ c) (hs : Sz s) (ha : a + s ≤ n) :
    Calls Try.prog 30 #[.slice A n c, .int .i64 a, .int .i64 s] w fun e w' => e = .returned (.tuple #[.int .u64 (num l a s : Nat), .int .i64 0]) ∧ Below w.heap.size w w' := by
  obtain ⟨k, hk, hk1, hk8⟩ := hs.nat
  obtain rfl : s = k := by omega
  have hd : decide (Sz (s : Int)) = true := by simpa using hs
  have HL := Lib.hid hl
  have HB := Lib.hid hb
  have HD := Lib.hid hd
  clear hl hb hs hk hd
  have hac : ¬ c = a := by omega
  have h1 : (0 : Int) ≤ (a : Int) := by omega
  have h2 : (a : Int) ≤ (n : Int) - (s : Int) := by omega
  have h3 : (a : Int) ≤ (c : Int) := by omega
  have h4 : (a : Int) ≤ (n : Int) := by omega
  have hcut := HB.out.cut a n c (by omega) (by have := HL.out; omega) (by have := HL.out; omega)
  rw [if_neg hac, List.take_of_length_le (by simp; have := HL.out; omega), Nat.mul_one] at hcut
  have HCUT := Lib.hid hcut
  have hdl : (l.drop a).length = n - a := by simp; have := HL.out; omega
  have HDL := Lib.hid hdl
  have hnd := num_drop l a s
  have HND := Lib.hid hnd
  clear hcut hdl hnd
  generalize num l a s = v at *
  go_enter Try.func30, Try.ntmps30
  go_wp2_with fail
  refine (sized_any s _).mono ?_
  rintro e w1 ⟨rfl, hb1⟩
  rw [HD.out]
  have Hb1 := Lib.hid hb1
  clear hb1
  go_wp2_with fail
  refine (take64_any _ (n - a) (c - a) s (l.drop a) _ HDL.out ((HCUT.out.below Hb1.out).more Hb1.out.size) (by omega) (by omega) hk8 (by omega)).mono ?_
  rintro e w2 ⟨rfl, hb2⟩
  rw [HND.out]
  have Hb2 := Lib.hid hb2
  clear hb2
  go_wp2_with fail
  go_ret2
  exact ⟨rfl, Hb1.out.trans (Hb2.out.mono Hb1.out.size)⟩

set_option maxRecDepth 100000 in
set_option maxHeartbeats 1600000 in
theorem get_no (A : Option Addr) (n c : Nat) (a s : Int) (w : World) (hn : n ≤ 1099511627776) (h : ¬ GetOk n a s) :
    Calls Try.prog 30 #[.slice A n c, .int .i64 a, .int .i64 s] w fun e w' => e = .returned (.tuple #[.int .u64 0, .int .i64 1]) ∧ Below w.heap.size w w' := by
  by_cases hs : Sz s
  · have hd : decide (Sz s) = true := by simpa using hs
    obtain ⟨k, rfl, hk1, hk8⟩ := hs.nat
    have HD := Lib.hid hd
    clear hd
    by_cases ha : a < 0
    · clear h hs
      go_enter Try.func30, Try.ntmps30
      go_wp2_with fail
      refine (sized_any k _).mono ?_
      rintro e w1 ⟨rfl, hb1⟩
      rw [HD.out]
      go_wp2_with fail
      go_ret2
      exact ⟨rfl, hb1⟩
    · have ha2 : (n : Int) - (k : Int) < a := by
        unfold GetOk at h
        have : ¬ (0 ≤ a ∧ a ≤ (n : Int) - k) := fun h' => h ⟨hs, h'.1, h'.2⟩
        omega
      clear h hs
      go_enter Try.func30, Try.ntmps30
      go_wp2_with fail
      refine (sized_any k _).mono ?_
      rintro e w1 ⟨rfl, hb1⟩
      rw [HD.out]
      go_wp2_with fail
      go_ret2
      exact ⟨rfl, hb1⟩
  · have hd : decide (Sz s) = false := by simpa using hs
    have HD := Lib.hid hd
    clear hd hs h
    go_enter Try.func30, Try.ntmps30
    go_wp2_with fail
    refine (sized_any s _).mono ?_
    rintro e w1 ⟨rfl, hb1⟩
    rw [HD.out]
    go_wp2_with fail
    go_ret2
    exact ⟨rfl, hb1⟩

/-- from the highest byte down. -/
theorem num_down (l : List UInt8) (a s j : Nat) (h : a + s ≤ l.length) (hj : j < s) : num l (a + (s - (j + 1))) (j + 1) = 256 * num l (a + (s - j)) j + (l[a + (s - (j + 1))]'(by omega)).toNat := by
  unfold num
  rw [List.drop_eq_getElem_cons (by omega), List.take_succ_cons]
  simp only [bval]
  rw [show a + (s - (j + 1)) + 1 = a + (s - j) by omega]
  omega
theorem num_le (l : List UInt8) (a j : Nat) (hj : j < 8) : num l a j ≤ 72057594037927935 := by
  have h := num_lt l a j
  have h2 : 2 ^ (8 * j) ≤ 2 ^ 56 := Nat.pow_le_pow_right (by decide) (by omega)
  omega

set_option maxRecDepth 100000 in
set_option maxHeartbeats 1600000 in
theorem refget_ok (A : Option Addr) (n c a s : Nat) (l : List UInt8) (w : World) (hl : l.length = n) (hb : Bytes w w.heap.size A l) (hn : n ≤ 1099511627776) (hs : Sz s) (ha : a + s ≤ n) :
    Calls Try.prog 49 #[.slice A n c, .int .i64 a, .int .i64 s] w fun e w' => e = .returned (.tuple #[.int .u64 (num l a s : Nat), .int .i64 0]) ∧ w = w' := by
  obtain ⟨k, hk, hk1, hk8⟩ := hs.nat
  obtain rfl : s = k := by omega
  have hd : decide (Sz (s : Int)) = true := by simpa using hs
  have HL := Lib.hid hl
  have HB := Lib.hid hb
  have HD := Lib.hid hd
  clear hl hb hs hk hd
  have h1 : (0 : Int) ≤ (a : Int) := by omega
  have h2 : (s : Int) ≤ (n : Int) - (a : Int) := by omega
  have h4 : (a : Int) ≤ (n : Int) := by omega
  go_enter Try.func49, Try.ntmps49
  go_wp2_with fail
  refine (refsized_any s _).mono ?_
  rintro e w1 ⟨rfl, rfl⟩
  rw [HD.out]
  go_wp2_with fail
  go_loop [8, 9] (fun x i => ∃ j : Nat, j ≤ s ∧ i = .int .i64 ((s : Int) - 1 - j) ∧ x = .int .u64 (num l (a + (s - j)) j : Nat)) (fun _ i => (intOf i + 1).toNat)
  case atStart => exact ⟨0, by omega, by go_num, by simp [num, bval]⟩
  case round =>
    obtain ⟨j, hj, rfl, rfl⟩ := hrel
    by_cases hlt : j < s
    · obtain ⟨b, off, rfl, hbB, hcell⟩ := HB.out.open_ HL.out (by omega)
      have hkl : a + (s - (j + 1)) < l.length := by have := HL.out; omega
      have hc0 := hcell _ hkl
      have hnd := Lib.hid (num_down l a s j (by have := HL.out; omega) hlt)
      have hby := byte_le l[a + (s - (j + 1))]
      have hle := num_le l (a + (s - j)) j (by omega)
      have hi0 : (0 : Int) ≤ (s : Int) - 1 - (j : Int) := by omega
      have e1 : (s : Int) - 1 - (j : Int) = ((s - (j + 1) : Nat) : Int) := by omega
      clear hcell
      go_wp2_with fail
      go_round
      case rel => exact ⟨j + 1, by omega, iv (by omega), iv (by rw [hnd.out]; omega)⟩
      case measure => simp [intOf]; omega
    · obtain rfl : j = s := by omega
      go_wp2_with fail
      go_ret2
      exact ⟨by simp, rfl⟩

set_option maxRecDepth 100000 in
set_option maxHeartbeats 1600000 in
theorem refget_no (A : Option Addr) (n c : Nat) (a s : Int) (w : World) (hn : n ≤ 1099511627776) (ha1 : -9223372036854775808 ≤ a) (ha2 : a ≤ 9223372036854775807) (h : ¬ GetOk n a s) :
    Calls Try.prog 49 #[.slice A n c, .int .i64 a, .int .i64 s] w fun e w' => e = .returned (.tuple #[.int .u64 0, .int .i64 1]) ∧ w = w' := by
  by_cases hs : Sz s
  · have hd : decide (Sz s) = true := by simpa using hs
    obtain ⟨k, rfl, hk1, hk8⟩ := hs.nat
    have HD := Lib.hid hd
    clear hd
    by_cases ha : a < 0
    · clear h hs
      go_enter Try.func49, Try.ntmps49
      go_wp2_with fail
      refine (refsized_any k _).mono ?_
      rintro e w1 ⟨rfl, rfl⟩
      rw [HD.out]
      go_wp2_with fail
      go_ret2
      exact ⟨rfl, rfl⟩
    · have ha3 : (n : Int) - (k : Int) < a := by
        unfold GetOk at h
        have : ¬ (0 ≤ a ∧ a ≤ (n : Int) - k) := fun h' => h ⟨hs, h'.1, h'.2⟩
        omega
      clear h hs
      by_cases hn2 : (n : Int) < a
      · go_enter Try.func49, Try.ntmps49
        go_wp2_with fail
        refine (refsized_any k _).mono ?_
        rintro e w1 ⟨rfl, rfl⟩
        rw [HD.out]
        go_wp2_with fail
        go_ret2
        exact ⟨rfl, rfl⟩
      · have hk2 : (n : Int) - a < (k : Int) := by omega
        clear ha3
        go_enter Try.func49, Try.ntmps49
        go_wp2_with fail
        refine (refsized_any k _).mono ?_
        rintro e w1 ⟨rfl, rfl⟩
        rw [HD.out]
        go_wp2_with fail
        go_ret2
        exact ⟨rfl, rfl⟩
  · have hd : decide (Sz s) = false := by simpa using hs
    have HD := Lib.hid hd
    clear hd hs h
    go_enter Try.func49, Try.ntmps49
    go_wp2_with fail
    refine (refsized_any s _).mono ?_
    rintro e w1 ⟨rfl, rfl⟩
    rw [HD.out]
    go_wp2_with fail
    go_ret2
    exact ⟨rfl, rfl⟩
end Go.Proofs.Ytjiiabekjiilbaa
