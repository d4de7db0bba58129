/- CrcRest: a text with its sum behind it has one sum, whatever the text. -/
import Derived.Test.YtnaodnacpdplaaaCrcSince
import Derived.Test.YtnaodnacpdplaaaAppend
set_option linter.unusedSimpArgs false
set_option linter.unusedVariables false
namespace Go.Proofs.Ytnaodnacpdplaaa
open Go.RowKit Mp

theorem info_u8 : (Try.prog.info? 5).map (fun i => (i.zero, i.size, i.bytes)) = some (some (.int .u8 0), 1, 1) := by kernel_rfl

theorem ext_le {s : Nat} (h : s ≤ 4294967295) (l : List UInt8) : ext s l ≤ 4294967295 := by
  have := ext_lt (s := s) (by omega) l; omega

set_option maxRecDepth 100000 in
set_option maxHeartbeats 1600000 in
theorem law_rest (A : Option Addr) (n c : Nat) (l : List UInt8) (w : World) (hl : l.length = n) (hb : Bytes w w.heap.size A l) (hcap : n ≤ c ∧ c ≤ maxLen) :
    Calls Try.prog 6 #[.slice A n c] w fun e w' => e = .returned (.bool true) ∧ Below w.heap.size w w' := by
  obtain ⟨i0, hi0, hz0, hz1, hz2⟩ := info_parts info_u8
  by_cases hbig : n ≤ 16384
  · have HL := Lib.hid hl
    have HB := Lib.hid hb
    clear hl hb
    go_enter Try.func6, Try.ntmps6
    go_wp2_with fail
    refine (copy_any A n c l _ HL.out HB.out (by omega)).mono ?_
    rintro e w1 ⟨A1, c1, rfl, hO1, hb1⟩
    have HO1 := Lib.hid hO1
    have Hb1 := Lib.hid hb1
    clear hO1 hb1
    go_wp2_with fail
    refine (sum_any A n c l _ HL.out ((HB.out.below Hb1.out).more Hb1.out.size) (by omega)).mono ?_
    rintro e w2 ⟨rfl, hs2⟩
    have HS12 := Lib.hid hs2
    have HS2 : Hid (Below w.heap.size w w2) := by
      have h := Hb1.out.trans (hs2.mono Hb1.out.size)
      exact h
    clear hs2
    have hSl := ext_le (s := 0) (by omega) l
    obtain ⟨S, hS⟩ : ∃ S, S = ext 0 l := ⟨_, rfl⟩
    rw [← hS] at hSl ⊢
    have HSV := Lib.hid hS
    clear hS
    go_wp2_with fail
    go_loopw [3, 5] (fun v i wr => ∃ (k : Nat) (A' : Option Addr) (c' : Nat), k ≤ 4 ∧ i = .int .i64 k ∧ v = .slice A' (n + k) c' ∧ OwnB wr w.heap.size 5 A' (n + k) c' (l ++ le k S) ∧ Below w.heap.size w wr) (fun _ i _ => 4 - (intOf i).toNat)
    case atStart => exact ⟨0, A1, c1, by omega, rfl, rfl, by simpa [le] using HO1.out.below' HS12.out (fun g hg => (HO1.out.blk_lt hg).2), HS2.out⟩
    case round =>
      obtain ⟨k, A', c', hk, rfl, rfl, hO, hbl⟩ := hrel
      have HO := Lib.hid hO
      have HBL := Lib.hid hbl
      clear hO hbl
      by_cases hlt : k < 4
      · have hbyte := Lib.hid (byte_of S k)
        go_wp2_with (at_builtin; refine wpList_append_b rfl (.tmp 18) (.tmp 25) _ rfl 5 i0 Try.underlying23 hi0 hz0 hz1 hz2 rfl (HO.out.alloc _) rfl (bytes_one wr _ _ _ hbyte.out) rfl (by omega) (by have := HBL.out.size; simp; omega) ?_; intro A2 c2 w3 hO3 hg3 hd3; have HO3 := Lib.hid hO3; have HG3 := Lib.hid hg3; clear hO3 hg3 hd3)
        go_roundw
        case rel =>
          exact ⟨k + 1, A2, c2, by omega, by go_num, rfl, by rw [le_snoc, ← List.append_assoc]; exact HO3.out, below_grown ((HBL.out.alloc HBL.out.size _)) (HO.out.alloc _) HG3.out (by have := HBL.out.size; simp; omega)⟩
        case measure => simp [intOf]; omega
      · obtain rfl : k = 4 := by omega
        have hsum : ext 0 (l ++ le 4 S) = 1214729159 := by
          rw [HSV.out]
          exact ext_rest l _ (le_length _ _) (bval_le_lt (ext_lt (by decide) l))
        have hlen : (l ++ le 4 S).length = n + 4 := by rw [List.length_append, le_length, HL.out]
        have HLEN := Lib.hid hlen
        have HSUM := Lib.hid hsum
        clear hlen hsum
        go_wp2_with fail
        refine (sum_any A' (n + 4) c' _ _ HLEN.out HO.out.bytes (by omega)).mono ?_
        rintro e w4 ⟨rfl, hb4⟩
        rw [HSUM.out]
        go_wp2_with fail
        refine (works_any _).mono ?_
        rintro e w5 ⟨rfl, hb5⟩
        go_wp2_with fail
        go_ret
        have h4 := HBL.out.trans (hb4.mono HBL.out.size)
        exact ⟨rfl, h4.trans (hb5.mono h4.size)⟩
  · clear hl hb
    go_enter Try.func6, Try.ntmps6
    go_wp2_with (go_at_call 9; refine (works_any _).mono ?_; rintro e w1 ⟨rfl, hb1⟩)
    go_ret
    exact ⟨rfl, ‹_›⟩
end Go.Proofs.Ytnaodnacpdplaaa
