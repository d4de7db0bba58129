/- The reference's Put: the bytes and the number behind them. -/
import Derived.Test.YtjiiabekjiilbaaOctPut
import Derived.Test.YtjiiabekjiilbaaSame
set_option linter.unusedSimpArgs false
set_option linter.unusedVariables false
namespace Go.Proofs.Ytjiiabekjiilbaa
open Go.RowKit Mp

set_option maxRecDepth 100000 in
set_option maxHeartbeats 1600000 in
theorem refput_any (A : Option Addr) (n c x : Nat) (s : Int) (l : List UInt8) (w : World) (hl : l.length = n) (hb : Bytes w w.heap.size A l) (hn : n ≤ 536870912) (hx : x ≤ 18446744073709551615) :
    Calls Try.prog 34 #[.slice A n c, .int .u64 x, .int .i64 s] w fun e w' => ∃ A' m c', e = .returned (.slice A' m c') ∧ OwnB w' w.heap.size 5 A' m c' (putL l x s) ∧ Below w.heap.size w w' := by
  obtain ⟨i0, hi0, hz0, hz1, hz2⟩ := info_parts info_u8
  have HL := Lib.hid hl
  have HB := Lib.hid hb
  clear hl hb
  by_cases hs : Sz s
  · have hd : decide (Sz s) = true := by simpa using hs
    obtain ⟨s, rfl, hk1, hk8⟩ := hs.nat'
    have HP := Lib.hid (putL_yes l x hs)
    have HD := Lib.hid hd
    clear hs hd
    go_enter Try.func34, Try.ntmps34
    go_wp2_with fail
    refine (copy_any A n c l _ HL.out HB.out (by omega)).mono ?_
    rintro e w1 ⟨A1, c1, rfl, hO1, hb1⟩
    have HO1 := Lib.hid hO1
    have Hb1 := Lib.hid hb1
    clear hO1 hb1
    go_wp2_with fail
    go_loopw [1, 7, 8] (fun v o i wr => ∃ (k y : Nat) (A' : Option Addr) (c' : Nat), k ≤ s ∧ i = .int .i64 k ∧ v = .int .u64 y ∧ y = x / 2 ^ (8 * k) ∧ y ≤ 18446744073709551615 ∧ o = .slice A' (n + k) c' ∧ OwnB wr w.heap.size 5 A' (n + k) c' (l ++ le k x) ∧ Below w.heap.size w wr) (fun _ _ i _ => s - (intOf i).toNat)
    case atStart => exact ⟨0, x, A1, c1, by omega, rfl, rfl, by simp, hx, rfl, by simpa [le] using HO1.out, Hb1.out⟩
    case round =>
      obtain ⟨k, y, A', c', hk, rfl, rfl, hy, hyb, rfl, hO, hbl⟩ := hrel
      have HY := Lib.hid hy
      have HO := Lib.hid hO
      have HBL := Lib.hid hbl
      clear hO hbl hy
      by_cases hlt : k < s
      · have hbyte : Hid (((y : Int) % 256) = ((UInt8.ofNat y).toNat : Int)) := by
          have h : ((y : Int) % 256) = ((UInt8.ofNat y).toNat : Int) := by simp
          exact h
        go_wp2_with fail
        refine (refsized_any s _).mono ?_
        rintro e w2 ⟨rfl, rfl⟩
        rw [HD.out]
        go_wp2_with (at_builtin; refine wpList_append_b rfl (.tmp 20) (.tmp 24) _ rfl 5 i0 Try.underlying22 hi0 hz0 hz1 hz2 rfl (HO.out.alloc _) rfl (bytes_one wr _ _ _ hbyte.out) rfl (by omega) (by have := HBL.out.size; simp; omega) ?_; intro A2 c2 w3 hO3 hg3 hd3; have HO3 := Lib.hid hO3; have HG3 := Lib.hid hg3; clear hO3 hg3 hd3)
        go_roundw
        case rel =>
          exact ⟨k + 1, y / 256, A2, c2, by omega, by go_num, by go_num, by rw [HY.out, Nat.div_div_eq_div_mul, show (256 : Nat) = 2 ^ 8 by rfl, ← Nat.pow_add, show 8 * k + 8 = 8 * (k + 1) by omega], by omega, rfl, by rw [le_snoc, ← HY.out, ← List.append_assoc]; exact HO3.out, below_grown ((HBL.out.alloc HBL.out.size _)) (HO.out.alloc _) HG3.out (by have := HBL.out.size; simp; omega)⟩
        case measure => simp [intOf]; omega
      · obtain rfl : k = s := by omega
        go_wp2_with fail
        go_ret
        exact ⟨A', n + k, c', rfl, by rw [HP.out]; exact HO.out, HBL.out⟩
  · have hd : decide (Sz s) = false := by simpa using hs
    have HP := Lib.hid (putL_no l x hs)
    have HD := Lib.hid hd
    clear hs hd
    by_cases hpos : 0 < s
    · go_enter Try.func34, Try.ntmps34
      go_wp2_with fail
      refine (copy_any A n c l _ HL.out HB.out (by omega)).mono ?_
      rintro e w1 ⟨A1, c1, rfl, hO1, hb1⟩
      have HO1 := Lib.hid hO1
      have Hb1 := Lib.hid hb1
      clear hO1 hb1
      go_wp2_with fail
      go_loopw [1, 7, 8] (fun v o i wr => i = .int .i64 0 ∧ v = .int .u64 x ∧ o = .slice A1 n c1 ∧ wr = w1) (fun _ _ i _ => 0)
      case atStart => exact ⟨rfl, rfl, rfl, rfl⟩
      case round =>
        obtain ⟨rfl, rfl, rfl, rfl⟩ := hrel
        go_wp2_with fail
        refine (refsized_any s _).mono ?_
        rintro e w2 ⟨rfl, rfl⟩
        rw [HD.out]
        go_wp2_with fail
        go_ret
        exact ⟨A1, n, c1, rfl, by rw [HP.out]; exact HO1.out, Hb1.out⟩
    · go_enter Try.func34, Try.ntmps34
      go_wp2_with fail
      refine (copy_any A n c l _ HL.out HB.out (by omega)).mono ?_
      rintro e w1 ⟨A1, c1, rfl, hO1, hb1⟩
      have HO1 := Lib.hid hO1
      have Hb1 := Lib.hid hb1
      clear hO1 hb1
      go_wp2_with fail
      go_loopw [1, 7, 8] (fun v o i wr => i = .int .i64 0 ∧ v = .int .u64 x ∧ o = .slice A1 n c1 ∧ wr = w1) (fun _ _ i _ => 0)
      case atStart => exact ⟨rfl, rfl, rfl, rfl⟩
      case round =>
        obtain ⟨rfl, rfl, rfl, rfl⟩ := hrel
        go_wp2_with fail
        go_ret
        exact ⟨A1, n, c1, rfl, by rw [HP.out]; exact HO1.out, Hb1.out⟩
end Go.Proofs.Ytjiiabekjiilbaa
