/- The parts of page.Open: a number at a place, whether noughts are all there is; the document's Make. -/
import Derived.Test.YtflgelkpblnkcaaPageMake
import Derived.Test.YtflgelkpblnkcaaOctGet
set_option linter.unusedSimpArgs false
set_option linter.unusedVariables false
namespace Go.Proofs.Ytflgelkpblnkcaa
open Go.RowKit Mp

theorem number_any (A : Option Addr) (n c a s : Nat) (l : List UInt8) (w : World) (hl : l.length = n) (hb : Bytes w w.heap.size A l) (hn : n ≤ 1099511627776) (hnc : n ≤ c) (hs : Sz s) (ha : a + s ≤ n) :
    Calls Try.prog 33 #[.slice A n c, .int .i64 a, .int .i64 s] w fun e w' => e = .returned (.int .u64 (num l a s : Nat)) ∧ Below w.heap.size w w' := by
  have G := Lib.hid (get_ok A n c a s l w hl hb hn hnc hs ha)
  clear hl hb hs
  generalize num l a s = v at *
  go_enter Try.func33, Try.ntmps33
  go_wp2_with fail
  refine G.out.mono ?_
  rintro e w1 ⟨rfl, hb1⟩
  go_wp2_with fail
  go_ret
  exact ⟨rfl, hb1⟩

theorem nonzero_any (b : UInt8) (w : World) : Calls Try.prog 35 #[.int .u8 (b.toNat : Int)] w fun e w' => e = .returned (.bool (!((b.toNat : Int) == 0))) ∧ w = w' := by
  go_enter Try.func35, Try.ntmps35
  go_wp2_with fail
  go_ret
  exact ⟨rfl, rfl⟩

set_option maxRecDepth 100000 in
set_option maxHeartbeats 1600000 in
theorem index_noughts (A : Option Addr) (n c : Nat) (w : World) (hb : Bytes w w.heap.size A (List.replicate n 0)) (hn : n ≤ 1099511627776) :
    Calls Try.prog 45 #[.slice A n c, .func (.func 35) #[] #[]] w fun e w' => e = .returned (.int .i64 (-1)) ∧ w = w' := by
  have HB := Lib.hid hb
  clear hb
  go_enter Try.func45, Try.ntmps45
  go_wp2_with fail
  go_loop [8] (fun i => ∃ k : Nat, k ≤ n ∧ i = .int .i64 k) (fun i => n - (intOf i).toNat)
  case atStart => exact ⟨0, by omega, rfl⟩
  case round =>
    obtain ⟨k, hk, rfl⟩ := hrel
    by_cases hlt : k < n
    · obtain ⟨b, off, rfl, hbB, hcell⟩ := HB.out.open_ (List.length_replicate) (by omega)
      have hc0 := hcell k (by simpa using hlt)
      rw [List.getElem_replicate] at hc0
      clear hcell
      have hz : (0 : UInt8).toNat = 0 := rfl
      rw [show bv 0 = .int .u8 (((0 : UInt8).toNat : Nat) : Int) by rfl] at hc0
      obtain ⟨q, hq⟩ : ∃ q : UInt8, q = 0 := ⟨_, rfl⟩
      rw [← hq] at hc0
      have hqz : ((q.toNat : Int) == 0) = true := by rw [hq]; rfl
      have HQ := Lib.hid hqz
      clear hz hq hqz
      go_wp2_with fail
      refine (nonzero_any q _).mono ?_
      rintro e w' ⟨rfl, rfl⟩
      rw [HQ.out]
      go_wp2_with fail
      go_round
      case rel => exact ⟨k + 1, by omega, by go_num⟩
      case measure => simp [intOf]; omega
    · obtain rfl : k = n := by omega
      go_wp2_with fail
      go_ret
      exact ⟨rfl, rfl⟩
set_option maxRecDepth 100000 in
set_option maxHeartbeats 1600000 in
theorem index_other (A : Option Addr) (n c : Nat) (l : List UInt8) (w : World) (hl : l.length = n) (hb : Bytes w w.heap.size A l) (hn : n ≤ 1099511627776) (hno : l ≠ List.replicate n 0) :
    Calls Try.prog 45 #[.slice A n c, .func (.func 35) #[] #[]] w fun e w' => ∃ k : Nat, k < n ∧ e = .returned (.int .i64 k) ∧ w = w' := by
  have HL := Lib.hid hl
  have HB := Lib.hid hb
  have HNO := Lib.hid hno
  clear hl hb hno
  go_enter Try.func45, Try.ntmps45
  go_wp2_with fail
  go_loop [8] (fun i => ∃ k : Nat, k ≤ n ∧ i = .int .i64 k ∧ l.take k = List.replicate k 0) (fun i => n - (intOf i).toNat)
  case atStart => exact ⟨0, by omega, rfl, rfl⟩
  case round =>
    obtain ⟨k, hk, rfl, hT⟩ := hrel
    have HT := Lib.hid hT
    clear hT
    by_cases hlt : k < n
    · obtain ⟨b, off, rfl, hbB, hcell⟩ := HB.out.open_ HL.out (by omega)
      have hkl : k < l.length := by have := HL.out; omega
      have hc0 := hcell k hkl
      clear hcell
      by_cases hz : l[k] = 0
      · have HQ : Hid ((((l[k]).toNat : Int) == 0) = true) := by
          have h : (((l[k]).toNat : Int) == 0) = true := by rw [hz]; rfl
          exact h
        have HZ := Lib.hid hz
        clear hz
        go_wp2_with fail
        refine (nonzero_any l[k] _).mono ?_
        rintro e w' ⟨rfl, rfl⟩
        rw [HQ.out]
        go_wp2_with fail
        go_round
        case rel => exact ⟨k + 1, by omega, by go_num, by rw [List.take_succ_eq_append_getElem hkl, HT.out, HZ.out, ← List.replicate_succ']⟩
        case measure => simp [intOf]; omega
      · have HQ : Hid ((((l[k]).toNat : Int) == 0) = false) := by
          have h : (((l[k]).toNat : Int) == 0) = false := by
            rw [beq_eq_false_iff_ne]
            intro e
            apply hz
            apply UInt8.toNat_inj.1
            show (l[k]).toNat = 0
            omega
          exact h
        clear hz
        go_wp2_with fail
        refine (nonzero_any l[k] _).mono ?_
        rintro e w' ⟨rfl, rfl⟩
        rw [HQ.out]
        go_wp2_with fail
        go_ret
        exact ⟨k, hlt, rfl, rfl⟩
    · obtain rfl : k = n := by omega
      exact absurd ((List.take_of_length_le (by have := HL.out; omega)).symm.trans HT.out) HNO.out
theorem contains_noughts (A : Option Addr) (n c : Nat) (l : List UInt8) (w : World) (hl : l = List.replicate n 0) (hb : Bytes w w.heap.size A l) (hn : n ≤ 1099511627776) :
    Calls Try.prog 34 #[.slice A n c, .func (.func 35) #[] #[]] w fun e w' => e = .returned (.bool false) ∧ w = w' := by
  rw [hl] at hb
  have G := Lib.hid (index_noughts A n c w hb hn)
  clear hb hl
  go_enter Try.func34, Try.ntmps34
  go_wp2_with fail
  refine G.out.mono ?_
  rintro e w1 ⟨rfl, rfl⟩
  go_wp2_with fail
  go_ret
  exact ⟨rfl, rfl⟩
theorem contains_other (A : Option Addr) (n c : Nat) (l : List UInt8) (w : World) (hl : l.length = n) (hb : Bytes w w.heap.size A l) (hn : n ≤ 1099511627776) (hno : l ≠ List.replicate n 0) :
    Calls Try.prog 34 #[.slice A n c, .func (.func 35) #[] #[]] w fun e w' => e = .returned (.bool true) ∧ w = w' := by
  have G := Lib.hid (index_other A n c l w hl hb hn hno)
  clear hb hl hno
  go_enter Try.func34, Try.ntmps34
  go_wp2_with fail
  refine G.out.mono ?_
  rintro e w1 ⟨k, hk, rfl, rfl⟩
  go_wp2_with fail
  go_ret
  exact ⟨rfl, rfl⟩

set_option maxRecDepth 100000 in
set_option maxHeartbeats 1600000 in
theorem refmake_ok (t nb : Nat) (A : Option Addr) (n c : Nat) (l : List UInt8) (w : World) (ht : t ≤ 4294967295) (hnb : nb ≤ 4294967295) (hl : l.length = n) (hb : Bytes w w.heap.size A l) (hn : n ≤ 240) :
    Calls Try.prog 13 #[.int .u32 t, .int .u32 nb, .slice A n c] w fun e w' => ∃ A' c', e = .returned (.tuple #[.slice A' 256 c', .int .i64 0]) ∧ OwnB w' w.heap.size 5 A' 256 c' (pageL t nb l) ∧ Below w.heap.size w w' := by
  obtain ⟨i0, hi0, hz0, hz1, hz2⟩ := info_parts info_u8
  have HL := Lib.hid hl
  have HB := Lib.hid hb
  clear hl hb
  go_enter Try.func13, Try.ntmps13
  go_wp2_with fail
  refine (refputk_any none 0 0 t 4 [] _ sz4 rfl (Bytes.nil _ _ _) (by omega) (by omega)).mono ?_
  rintro e w1 ⟨A1, c1, rfl, hO1, hb1⟩
  have HO1 := Lib.hid hO1
  have Hb1 := Lib.hid hb1
  clear hO1 hb1
  go_wp2_with fail
  refine (refputk_any A1 4 c1 nb 4 _ _ sz4 HO1.out.1 HO1.out.bytes (by omega) (by omega)).mono ?_
  rintro e w2 ⟨A2, c2, rfl, hO2, hb2⟩
  have HO2 := Lib.hid hO2
  have Hb2 := Lib.hid (Hb1.out.trans (hb2.mono Hb1.out.size))
  clear hO2 hb2
  go_wp2_with fail
  refine (refputk_any A2 8 c2 n 4 _ _ sz4 HO2.out.1 HO2.out.bytes (by omega) (by omega)).mono ?_
  rintro e w3 ⟨A3, c3, rfl, hO3, hb3⟩
  have HO3 : Hid (OwnB w3 w.heap.size 5 A3 12 c3 (headL t nb l.length)) := by
    have h := hO3.mono Hb2.out.size
    rw [le4_small n hn, ← List.append_assoc] at h
    rw [HL.out]
    exact h
  have Hb3 := Lib.hid (Hb2.out.trans (hb3.mono Hb2.out.size))
  clear hO3 hb3
  go_wp2_with (at_builtin; refine wpList_append_b rfl (.tmp 24) (.tmp 25) _ rfl 5 i0 Try.underlying23 hi0 hz0 hz1 hz2 rfl HO3.out rfl (HB.out.below Hb3.out) HL.out (by omega) Hb3.out.size ?_; intro A4 c4 w4 hO4 hg4 hd4; have HO4 := Lib.hid hO4; have Hb4 := Lib.hid (below_grown Hb3.out HO3.out hg4 Hb3.out.size); clear hO4 hg4 hd4)
  go_loopw [8] (fun v wr => ∃ (k : Nat) (A' : Option Addr) (c' : Nat), 12 + n + k ≤ 252 ∧ v = .slice A' (12 + n + k) c' ∧ OwnB wr w.heap.size 5 A' (12 + n + k) c' (headL t nb l.length ++ l ++ List.replicate k 0) ∧ Below w.heap.size w wr) (fun v _ => match v with | .slice _ m _ => 252 - m | _ => 0)
  case atStart => exact ⟨0, A4, c4, by omega, rfl, by simpa using HO4.out, Hb4.out⟩
  case round =>
    obtain ⟨k, A', c', hk, rfl, hO, hbl⟩ := hrel
    have HO := Lib.hid hO
    have HBL := Lib.hid hbl
    clear hO hbl
    by_cases hlt : 12 + n + k < 252
    · go_wp2_with (at_builtin; refine wpList_append_b rfl (.tmp 30) (.tmp 31) _ rfl 5 i0 Try.underlying23 hi0 hz0 hz1 hz2 rfl (HO.out.alloc _) rfl (bytes_one wr _ _ 0 rfl) rfl (by omega) (by have := HBL.out.size; simp; omega) ?_; intro A6 c6 w6 hO6 hg6 hd6; have HO6 := Lib.hid hO6; have HB6 := Lib.hid (below_grown (HBL.out.alloc HBL.out.size _) (HO.out.alloc _) hg6 (by have := HBL.out.size; simp; omega)); clear hO6 hg6 hd6)
      go_roundw
      case rel =>
        exact ⟨k + 1, A6, c6, by omega, rfl, by rw [List.replicate_succ', ← List.append_assoc]; exact HO6.out, HB6.out⟩
      case measure => simp; omega
    · have HBODY : Hid (OwnB wr w.heap.size 5 A' (12 + n + k) c' (bodyL t nb l)) := by
        have h := HO.out
        rw [show k = 240 - l.length by rw [HL.out]; omega] at h
        rw [show k = 240 - l.length by rw [HL.out]; omega]
        exact h
      clear HO HO1 HO2 HO3 HO4
      have hkk : 12 + n + k = 252 := by omega
      have HKK := Lib.hid hkk
      clear hkk
      rw [HKK.out] at HBODY
      go_wp2_with fail
      rw [HKK.out]
      refine (refsum_any A' 252 c' (bodyL t nb l) _ HBODY.out.1 HBODY.out.bytes (by omega)).mono ?_
      rintro e w7 ⟨rfl, rfl⟩
      have HPG : Hid (bodyL t nb l ++ le 4 (ext 0 (bodyL t nb l)) = pageL t nb l) := rfl
      have hex : ext 0 (bodyL t nb l) ≤ 4294967295 := ext0_le _
      generalize ext 0 (bodyL t nb l) = sm at *
      go_wp2_with fail
      refine (refputk_any A' 252 c' sm 4 (bodyL t nb l) _ sz4 HBODY.out.1 HBODY.out.bytes (by omega) (by omega)).mono ?_
      rintro e w8 ⟨A8, c8, rfl, hO8, hb8⟩
      rw [HPG.out] at hO8
      have HO8 := Lib.hid hO8
      have Hb8 := Lib.hid hb8
      clear hO8 hb8
      go_wp2_with fail
      go_ret2
      exact ⟨_, _, rfl, HO8.out.mono HBL.out.size, HBL.out.trans (Hb8.out.mono HBL.out.size)⟩
theorem refmake_no (t nb : Nat) (A : Option Addr) (n c : Nat) (w : World) (hn : 240 < n) (hn2 : n ≤ 1099511627776) :
    Calls Try.prog 13 #[.int .u32 t, .int .u32 nb, .slice A n c] w fun e w' => e = .returned (.tuple #[.slice none 0 0, .int .i64 9]) ∧ w = w' := by
  go_enter Try.func13, Try.ntmps13
  go_wp2_with fail
  go_ret2
  exact ⟨rfl, rfl⟩
end Go.Proofs.Ytflgelkpblnkcaa
