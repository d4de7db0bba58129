/- What Put, put and Clone make: bytes with a number behind them, in new memory; in the program and in the reference. -/
import Derived.Test.YtjiiabekjiilbaaOctSized
import Derived.Test.YtjiiabekjiilbaaBits
import Derived.Test.YtjiiabekjiilbaaAppend
import Derived.Test.YtjiiabekjiilbaaSame
import Derived.Lib.LazyBuf
set_option linter.unusedSimpArgs false
set_option linter.unusedVariables false
namespace Go.Proofs.Ytjiiabekjiilbaa
open Go.RowKit Mp

theorem info_u8 : (Try.prog.info? 5).map (fun i => (i.zero, i.size, i.bytes)) = some (some (.int .u8 0), 1, 1) := by kernel_rfl

set_option maxRecDepth 100000 in
set_option maxHeartbeats 1600000 in
theorem clone_any (A : Option Addr) (n c : Nat) (l : List UInt8) (w : World) (hl : l.length = n) (hb : Bytes w w.heap.size A l) (hn : n ≤ 1073741824) (hnc : n ≤ c) :
    Calls Try.prog 50 #[.slice A n c] w fun e w' => ∃ A' c', e = .returned (.slice A' n c') ∧ OwnB w' w.heap.size 5 A' n c' l ∧ Below w.heap.size w w' := by
  obtain ⟨i0, hi0, hz0, hz1, hz2⟩ := info_parts info_u8
  have HL := Lib.hid hl
  have HB := Lib.hid hb
  clear hl hb
  rcases A with _ | ad
  · have hl0 : l = [] := by
      rcases HB.out with h | ⟨b, off, h, _⟩
      · exact h
      · cases h
    subst hl0
    have h0 := HL.out
    obtain rfl : n = 0 := by simpa using h0.symm
    have hnil := run_eql_slice_nil (P := Try.prog) w 22 5 none 0 c Try.underlying22
    go_enter Try.func50, Try.ntmps50
    go_wp2_with fail
    go_ret
    exact ⟨none, 0, rfl, OwnB.nil _ _ _ _, Below.refl _ _⟩
  · have hnil := run_eql_slice_nil (P := Try.prog) w 22 5 (some ad) n c Try.underlying22
    go_enter Try.func50, Try.ntmps50
    go_wp2_with (at_builtin; refine wpList_append_b rfl (.tmp 5) (.tmp 6) _ rfl 5 i0 Try.underlying22 hi0 hz0 hz1 hz2 rfl (OwnB.nil _ w.heap.size _ _) rfl (HB.out.below ((Below.refl _ _).alloc (Nat.le_refl _) _)) HL.out (by omega) (by simp) ?_; intro A2 c2 w3 hO3 hg3 hd3; have HO3 := Lib.hid hO3; have HG3 := Lib.hid hg3; clear hO3 hg3 hd3)
    go_ret
    have hO := HO3.out
    rw [Nat.zero_add, List.nil_append] at hO
    exact ⟨A2, c2, rfl, hO, ((Below.refl _ _).alloc (Nat.le_refl _) _).grown HG3.out (by simp) (by simp [blk])⟩

set_option maxRecDepth 100000 in
set_option maxHeartbeats 1600000 in
theorem put64_any (A : Option Addr) (n c x s lo : Nat) (l : List UInt8) (w : World) (hO : OwnB w lo 5 A n c l) (hn : n ≤ 1073741824) (hs8 : s ≤ 8) (hx : x ≤ 18446744073709551615) (hlo : lo ≤ w.heap.size) :
    Calls Try.prog 51 #[.slice A n c, .int .u64 x, .int .i64 s] w fun e w' => ∃ A' c', e = .returned (.slice A' (n + s) c') ∧ OwnB w' lo 5 A' (n + s) c' (l ++ le s x) ∧ Below lo w w' := by
  obtain ⟨i0, hi0, hz0, hz1, hz2⟩ := info_parts info_u8
  have HO0 := Lib.hid hO
  clear hO
  go_enter Try.func51, Try.ntmps51
  go_wp2_with fail
  go_loopw [0, 9] (fun v i wr => ∃ (k : Nat) (A' : Option Addr) (c' : Nat), k ≤ s ∧ i = .int .i64 k ∧ v = .slice A' (n + k) c' ∧ OwnB wr lo 5 A' (n + k) c' (l ++ le k x) ∧ Below lo w wr) (fun _ i _ => s - (intOf i).toNat)
  case atStart => exact ⟨0, A, c, by omega, rfl, rfl, by simpa [le] using HO0.out, Below.refl _ _⟩
  case round =>
    obtain ⟨k, A', c', hk, rfl, rfl, hO, hbl⟩ := hrel
    have HO := Lib.hid hO
    have HBL := Lib.hid hbl
    clear hO hbl
    by_cases hlt : k < s
    · have hbyte := Lib.hid (byte_of x k)
      go_wp2_with (at_builtin; refine wpList_append_b rfl (.tmp 12) (.tmp 18) _ rfl 5 i0 Try.underlying22 hi0 hz0 hz1 hz2 rfl (HO.out.alloc _) rfl (bytes_one wr _ _ _ hbyte.out) rfl (by omega) (by have := HBL.out.size; simp; omega) ?_; intro A2 c2 w3 hO3 hg3 hd3; have HO3 := Lib.hid hO3; have HG3 := Lib.hid hg3; clear hO3 hg3 hd3)
      go_roundw
      case rel =>
        exact ⟨k + 1, A2, c2, by omega, by go_num, rfl, by rw [le_snoc, ← List.append_assoc]; exact HO3.out, below_grown ((HBL.out.alloc (Nat.le_trans hlo HBL.out.size) _)) (HO.out.alloc _) HG3.out (by have := HBL.out.size; simp; omega)⟩
      case measure => simp [intOf]; omega
    · obtain rfl : k = s := by omega
      go_wp2_with fail
      go_ret
      exact ⟨A', c', rfl, HO.out, HBL.out⟩

set_option maxRecDepth 100000 in
set_option maxHeartbeats 1600000 in
theorem put32_any (A : Option Addr) (n c x s lo : Nat) (l : List UInt8) (w : World) (hO : OwnB w lo 5 A n c l) (hn : n ≤ 1073741824) (hs8 : s ≤ 4) (hx : x ≤ 4294967295) (hlo : lo ≤ w.heap.size) :
    Calls Try.prog 59 #[.slice A n c, .int .u32 x, .int .i64 s] w fun e w' => ∃ A' c', e = .returned (.slice A' (n + s) c') ∧ OwnB w' lo 5 A' (n + s) c' (l ++ le s x) ∧ Below lo w w' := by
  obtain ⟨i0, hi0, hz0, hz1, hz2⟩ := info_parts info_u8
  have HO0 := Lib.hid hO
  clear hO
  go_enter Try.func59, Try.ntmps59
  go_wp2_with fail
  go_loopw [0, 9] (fun v i wr => ∃ (k : Nat) (A' : Option Addr) (c' : Nat), k ≤ s ∧ i = .int .i64 k ∧ v = .slice A' (n + k) c' ∧ OwnB wr lo 5 A' (n + k) c' (l ++ le k x) ∧ Below lo w wr) (fun _ i _ => s - (intOf i).toNat)
  case atStart => exact ⟨0, A, c, by omega, rfl, rfl, by simpa [le] using HO0.out, Below.refl _ _⟩
  case round =>
    obtain ⟨k, A', c', hk, rfl, rfl, hO, hbl⟩ := hrel
    have HO := Lib.hid hO
    have HBL := Lib.hid hbl
    clear hO hbl
    by_cases hlt : k < s
    · have hbyte := Lib.hid (byte_of x k)
      go_wp2_with (at_builtin; refine wpList_append_b rfl (.tmp 12) (.tmp 18) _ rfl 5 i0 Try.underlying22 hi0 hz0 hz1 hz2 rfl (HO.out.alloc _) rfl (bytes_one wr _ _ _ hbyte.out) rfl (by omega) (by have := HBL.out.size; simp; omega) ?_; intro A2 c2 w3 hO3 hg3 hd3; have HO3 := Lib.hid hO3; have HG3 := Lib.hid hg3; clear hO3 hg3 hd3)
      go_roundw
      case rel =>
        exact ⟨k + 1, A2, c2, by omega, by go_num, rfl, by rw [le_snoc, ← List.append_assoc]; exact HO3.out, below_grown ((HBL.out.alloc (Nat.le_trans hlo HBL.out.size) _)) (HO.out.alloc _) HG3.out (by have := HBL.out.size; simp; omega)⟩
      case measure => simp [intOf]; omega
    · obtain rfl : k = s := by omega
      go_wp2_with fail
      go_ret
      exact ⟨A', c', rfl, HO.out, HBL.out⟩

/-- what Put answers: bytes with a number behind them, if it may have so many bytes. -/
def putL (l : List UInt8) (x : Nat) (s : Int) : List UInt8 := if Sz s then l ++ le s.toNat x else l
theorem putL_yes (l : List UInt8) (x : Nat) {k : Nat} (h : Sz (k : Int)) : putL l x k = l ++ le k x := by unfold putL; rw [if_pos h]; rfl
theorem putL_no (l : List UInt8) (x : Nat) {s : Int} (h : ¬ Sz s) : putL l x s = l := by unfold putL; rw [if_neg h]
theorem Sz.nat' {s : Int} (h : Sz s) : ∃ k : Nat, s = (k : Int) ∧ 1 ≤ k ∧ k ≤ 8 := by
  unfold Sz at h
  exact ⟨s.toNat, by omega, by omega, by omega⟩

set_option maxRecDepth 100000 in
set_option maxHeartbeats 1600000 in
theorem put_any (A : Option Addr) (n c x : Nat) (s : Int) (l : List UInt8) (w : World) (hl : l.length = n) (hb : Bytes w w.heap.size A l) (hn : n ≤ 536870912) (hnc : n ≤ c) (hx : x ≤ 18446744073709551615) :
    Calls Try.prog 33 #[.slice A n c, .int .u64 x, .int .i64 s] w fun e w' => ∃ A' m c', e = .returned (.slice A' m c') ∧ OwnB w' w.heap.size 5 A' m c' (putL l x s) ∧ Below w.heap.size w w' := by
  have HL := Lib.hid hl
  have HB := Lib.hid hb
  clear hl hb
  by_cases hs : Sz s
  · have hd : decide (Sz s) = true := by simpa using hs
    obtain ⟨k, rfl, hk1, hk8⟩ := hs.nat'
    have HP := Lib.hid (putL_yes l x hs)
    have HD := Lib.hid hd
    clear hs hd
    go_enter Try.func33, Try.ntmps33
    go_wp2_with fail
    refine (clone_any A n c l _ HL.out HB.out (by omega) hnc).mono ?_
    rintro e w1 ⟨A1, c1, rfl, hO1, hb1⟩
    have HO1 := Lib.hid hO1
    have Hb1 := Lib.hid hb1
    clear hO1 hb1
    go_wp2_with fail
    refine (sized_any k _).mono ?_
    rintro e w2 ⟨rfl, hb2⟩
    rw [HD.out]
    have HO2 := Lib.hid (HO1.out.below hb2)
    have Hb2 : Hid (Below w.heap.size w w2) := by
      have h := Hb1.out.trans (hb2.mono Hb1.out.size)
      exact h
    clear hb2
    go_wp2_with fail
    refine (put64_any A1 n c1 x k w.heap.size l _ HO2.out (by omega) hk8 hx Hb2.out.size).mono ?_
    rintro e w3 ⟨A3, c3, rfl, hO3, hb3⟩
    have HO3 := Lib.hid hO3
    have Hb3 := Lib.hid hb3
    clear hO3 hb3
    go_wp2_with fail
    go_ret
    exact ⟨A3, n + k, c3, rfl, by rw [HP.out]; exact HO3.out, Hb2.out.trans Hb3.out⟩
  · have hd : decide (Sz s) = false := by simpa using hs
    have HP := Lib.hid (putL_no l x hs)
    have HD := Lib.hid hd
    clear hs hd
    go_enter Try.func33, Try.ntmps33
    go_wp2_with fail
    refine (clone_any A n c l _ HL.out HB.out (by omega) hnc).mono ?_
    rintro e w1 ⟨A1, c1, rfl, hO1, hb1⟩
    have HO1 := Lib.hid hO1
    have Hb1 := Lib.hid hb1
    clear hO1 hb1
    go_wp2_with fail
    refine (sized_any s _).mono ?_
    rintro e w2 ⟨rfl, hb2⟩
    rw [HD.out]
    have HO2 := Lib.hid (HO1.out.below hb2)
    have Hb2 : Hid (Below w.heap.size w w2) := by
      have h := Hb1.out.trans (hb2.mono Hb1.out.size)
      exact h
    clear hb2
    go_wp2_with fail
    go_ret
    exact ⟨A1, n, c1, rfl, by rw [HP.out]; exact HO2.out, Hb2.out⟩
end Go.Proofs.Ytjiiabekjiilbaa
