/- CrcBursts: a burst of at most 32 bits turns the sum, and is told in a text with its sum behind it, wherever it lies. -/
import Derived.Test.YtnaodnacpdplaaaCrcSince
import Derived.Test.YtnaodnacpdplaaaAppend
import Derived.Test.YtnaodnacpdplaaaTurned
set_option linter.unusedSimpArgs false
set_option linter.unusedVariables false
namespace Go.Proofs.Ytnaodnacpdplaaa
open Go.RowKit Mp

theorem info_u8 : (Try.prog.info? 5).map (fun i => (i.zero, i.size, i.bytes)) = some (some (.int .u8 0), 1, 1) := by kernel_rfl
theorem ext_le {s : Nat} (h : s ≤ 4294967295) (l : List UInt8) : ext s l ≤ 4294967295 := by
  have := ext_lt (s := s) (by omega) l; omega

set_option maxRecDepth 100000 in
set_option maxHeartbeats 1600000 in
theorem bursts_walk (A : Option Addr) (n c mask : Nat) (l : List UInt8) (a : Int) (w : World) (hl : l.length = n) (hb : Bytes w w.heap.size A l) (hbig : n ≤ 8192) (hmask : mask ≤ 4294967295) (ha1 : -9223372036854775808 ≤ a) (ha2 : a ≤ 9223372036854775807) :
    Calls Try.prog 5 #[.slice A n c, .int .i64 a, .int .u32 mask] w fun e w' => e = .returned (.bool true) ∧ Below w.heap.size w w' := by
  obtain ⟨i0, hi0, hz0, hz1, hz2⟩ := info_parts info_u8
  have HL := Lib.hid hl
  have HB := Lib.hid hb
  clear hl hb
  have ht1 : -(8 * ((n : Int) + 4)) < a.tmod (8 * ((n : Int) + 4)) := by have := Int.lt_tmod_of_pos a (show (0 : Int) < 8 * ((n : Int) + 4) by omega); omega
  have ht2 : a.tmod (8 * ((n : Int) + 4)) < 8 * ((n : Int) + 4) := Int.tmod_lt_of_pos a (by omega)
  have hq1 : 0 ≤ (a.tmod (8 * ((n : Int) + 4)) + 8 * ((n : Int) + 4)) % (8 * ((n : Int) + 4)) := Int.emod_nonneg _ (by omega)
  have hq2 : (a.tmod (8 * ((n : Int) + 4)) + 8 * ((n : Int) + 4)) % (8 * ((n : Int) + 4)) < 8 * ((n : Int) + 4) := Int.emod_lt_of_pos _ (by omega)
  have hN1 : (1 : Int) ≤ 8 * ((n : Int) + 4) := by omega
  have hqs : (a.tmod (8 * ((n : Int) + 4)) + 8 * ((n : Int) + 4)) % (8 * ((n : Int) + 4)) = a.tmod (8 * ((n : Int) + 4)) % (8 * ((n : Int) + 4)) := Int.add_emod_right ..
  obtain ⟨q, hq⟩ := Int.eq_ofNat_of_zero_le hq1
  have hqn : q < 8 * (n + 4) := by omega
  have hq' := hqs.symm.trans hq
  clear hq1 hq2 hqs
  go_enter Try.func5, Try.ntmps5
  go_wp2_with fail
  refine (turned_any A n c q mask l _ HL.out HB.out (by omega) (by omega) hmask).mono ?_
  rintro e w1 ⟨A1, c1, t1, rfl, hO1, hB1, hbe1⟩
  clear ht1 ht2 hN1
  have HO1 := Lib.hid hO1
  have HBu1 := Lib.hid hB1
  have HBe1 := Lib.hid hbe1
  clear hO1 hB1 hbe1
  go_wp2_with fail
  refine (eq_any A n c A1 n c1 l t1 _ HL.out ((HB.out.below HBe1.out).more HBe1.out.size) HO1.out.1 HO1.out.bytes).mono ?_
  rintro e w1' ⟨rfl, rfl⟩
  have hx1 := ext_le (s := 0) (by omega) l
  have hx2 := ext_le (s := 0) (by omega) t1
  by_cases hlt : l = t1
  · have e1 : (l == t1) = true := by rw [hlt]; simp
    rw [e1]
    have HBeW := Lib.hid HBe1.out
    go_wp2_with fail
    refine (copy_any A n c l _ HL.out ((HB.out.below HBeW.out).more HBeW.out.size) (by omega)).mono ?_
    rintro e w4 ⟨A4, c4, rfl, hO4, hb4⟩
    have HO4 := Lib.hid (hO4.mono HBeW.out.size)
    have Hb4 : Hid (Below w.heap.size w w4) := by
      have h := HBeW.out.trans (hb4.mono HBeW.out.size)
      exact h
    clear hO4 hb4
    go_wp2_with fail
    refine (sum_any A n c l _ HL.out ((HB.out.below Hb4.out).more Hb4.out.size) (by omega)).mono ?_
    rintro e w5 ⟨rfl, hb5⟩
    have HO5 := Lib.hid (HO4.out.below hb5)
    have Hb5 : Hid (Below w.heap.size w w5) := by
      have h := Hb4.out.trans (hb5.mono Hb4.out.size)
      exact h
    clear hb5
    obtain ⟨S, hS⟩ : ∃ S, S = ext 0 l := ⟨_, rfl⟩
    rw [← hS] at hx1 ⊢
    have HSV := Lib.hid hS
    clear hS
    go_wp2_with fail
    go_loopw [9, 11] (fun v i wr => ∃ (k : Nat) (A' : Option Addr) (c' : Nat), k ≤ 4 ∧ i = .int .i64 k ∧ v = .slice A' (n + k) c' ∧ OwnB wr w.heap.size 5 A' (n + k) c' (l ++ le k S) ∧ Below w.heap.size w wr) (fun _ i _ => 4 - (intOf i).toNat)
    case atStart => exact ⟨0, A4, c4, by omega, rfl, rfl, by simpa [le] using HO5.out, Hb5.out⟩
    case round =>
      obtain ⟨k, A', c', hk, rfl, rfl, hO, hbl⟩ := hrel
      have HO := Lib.hid hO
      have HBL := Lib.hid hbl
      clear hO hbl
      by_cases hk4 : k < 4
      · have hbyte := Lib.hid (byte_of S k)
        go_wp2_with (at_builtin; refine wpList_append_b rfl (.tmp 53) (.tmp 60) _ rfl 5 i0 Try.underlying23 hi0 hz0 hz1 hz2 rfl (HO.out.alloc _) rfl (bytes_one wr _ _ _ hbyte.out) rfl (by omega) (by have := HBL.out.size; simp; omega) ?_; intro A2 c2 w3 hO3 hg3 hd3; have HO3 := Lib.hid hO3; have HG3 := Lib.hid hg3; clear hO3 hg3 hd3)
        go_roundw
        case rel =>
          exact ⟨k + 1, A2, c2, by omega, by go_num, rfl, by rw [le_snoc, ← List.append_assoc]; exact HO3.out, below_grown ((HBL.out.alloc HBL.out.size _)) (HO.out.alloc _) HG3.out (by have := HBL.out.size; simp; omega)⟩
        case measure => simp [intOf]; omega
      · obtain rfl : k = 4 := by omega
        have hlen : (l ++ le 4 S).length = n + 4 := by rw [List.length_append, le_length, HL.out]
        have HLEN := Lib.hid hlen
        clear hlen
        have htold : Hid (∀ t, Burst (l ++ le 4 S) t q 32 → l ++ le 4 S ≠ t → ext 0 (t.take n) ≠ bval (t.drop n)) := fun t hB hne => by
          rw [HSV.out] at hB hne
          have := burst_told hB hne
          rw [HL.out] at this
          exact this
        generalize l ++ le 4 S = L at *
        go_wp2_with fail
        refine (turned_any A' (n + 4) c' q mask L _ HLEN.out HO.out.bytes (by omega) (by omega) hmask).mono ?_
        rintro e w6 ⟨A6, c6, t6, rfl, hO6, hB6, hb6⟩
        have HO6 := Lib.hid hO6
        have HBu6 := Lib.hid hB6
        have Hb6 := Lib.hid hb6
        have Hb6' : Hid (Below w.heap.size w w6) := by
          have h := HBL.out.trans (hb6.mono HBL.out.size)
          exact h
        clear hO6 hB6 hb6
        go_wp2_with fail
        refine (eq_any A' (n + 4) c' A6 (n + 4) c6 L t6 _ HLEN.out ((HO.out.bytes.below Hb6.out).more Hb6.out.size) HO6.out.1 HO6.out.bytes).mono ?_
        rintro e w6' ⟨rfl, rfl⟩
        by_cases h6 : L = t6
        · have e6 : (L == t6) = true := by rw [h6]; simp
          rw [e6]
          go_wp2_with fail
          refine (works_any _).mono ?_
          rintro e w7 ⟨rfl, hb7⟩
          go_wp2_with fail
          go_ret
          exact ⟨rfl, Hb6'.out.trans (hb7.mono Hb6'.out.size)⟩
        · have e6 : (L == t6) = false := by simpa using h6
          rw [e6]
          have htl := htold.out t6 HBu6.out h6
          have hlen6 : t6.length = n + 4 := HO6.out.1
          obtain ⟨b0, b1, b2, b3, hd6⟩ : ∃ b0 b1 b2 b3, t6.drop n = [b0, b1, b2, b3] := by
            have h4 : (t6.drop n).length = 4 := by simp; omega
            match hm : t6.drop n, h4 with
            | [b0, b1, b2, b3], _ => exact ⟨b0, b1, b2, b3, rfl⟩
          obtain ⟨g, rfl, hgb, hg1, hg2, hcell, hfz⟩ := HO6.out.open_ (by have := HO6.out.2.1; omega)
          have hat : ∀ i (h : i < 4), t6[n + i]'(by omega) = (t6.drop n)[i]'(by simp; omega) := fun i h => by simp
          have q0 : w6.cell? ⟨g, n, none⟩ = some (bv b0) := by
            have := hcell (n + 0) (by omega)
            show w6.cell? ⟨g, n + 0, none⟩ = _
            rw [this, hat 0 (by omega)]; simp [hd6]
          have q1 : w6.cell? ⟨g, n + 1, none⟩ = some (bv b1) := by
            have := hcell (n + 1) (by omega)
            rw [this, hat 1 (by omega)]; simp [hd6]
          have q2 : w6.cell? ⟨g, n + 2, none⟩ = some (bv b2) := by
            have := hcell (n + 2) (by omega)
            rw [this, hat 2 (by omega)]; simp [hd6]
          have q3 : w6.cell? ⟨g, n + 3, none⟩ = some (bv b3) := by
            have := hcell (n + 3) (by omega)
            rw [this, hat 3 (by omega)]; simp [hd6]
          rw [hd6] at htl
          have HTL := Lib.hid htl
          have hsn : Hid ((t6.take n).length = n) := by
            have h : (t6.take n).length = n := by simp; omega
            exact h
          have hbt : Hid (Bytes w6 w6.heap.size (some ⟨g, 0, none⟩) (t6.take n)) := by
            have h := HO6.out.bytes.take n
            exact h
          have hxs := ext_le (s := 0) (by omega) (t6.take n)
          have hy0 := byte_le b0
          have hy1 := byte_le b1
          have hy2 := byte_le b2
          have hy3 := byte_le b3
          have hnc : n ≤ c6 := by have := HO6.out.2.1; omega
          clear htl hd6 hat hcell hfz hlen6
          have hsumc := Lib.hid (sum_any (some ⟨g, 0, none⟩) n c6 (t6.take n) w6 hsn.out hbt.out (by omega))
          go_wp2_with fail
          go_loop [13, 14] (fun x i => ∃ (j X : Nat), j ≤ 4 ∧ i = .int .i64 (3 - (j : Int)) ∧ x = .int .u32 X ∧ X < 2 ^ (8 * j) ∧ X = bval ([b0, b1, b2, b3].drop (4 - j))) (fun _ i => (intOf i + 1).toNat)
          case atStart => exact ⟨0, 0, by omega, rfl, rfl, by omega, rfl⟩
          case round =>
            obtain ⟨j, X, hj, rfl, rfl, hX, hXb⟩ := hrel
            have HXB := Lib.hid hXb
            clear hXb
            by_cases hj4 : j < 4
            · have hX24 : X ≤ 16777215 := by
                have : 2 ^ (8 * j) ≤ 2 ^ 24 := Nat.pow_le_pow_right (by decide) (by omega)
                omega
              have o0 := Lib.hid (or_step X b0 hX24)
              have o1 := Lib.hid (or_step X b1 hX24)
              have o2 := Lib.hid (or_step X b2 hX24)
              have o3 := Lib.hid (or_step X b3 hX24)
              have HX := Lib.hid hX
              clear hX
              rcases (show j = 0 ∨ j = 1 ∨ j = 2 ∨ j = 3 by omega) with rfl | rfl | rfl | rfl
              · go_wp2_with fail
                go_round
                case rel => exact ⟨1, _, by omega, by go_num, by rw [o3.out], by have := HX.out; simp at this ⊢; omega, by rw [HXB.out]; rfl⟩
                case measure => simp [intOf]
              · go_wp2_with fail
                go_round
                case rel => exact ⟨2, _, by omega, by go_num, by rw [o2.out], by have := HX.out; simp at this ⊢; omega, by rw [HXB.out]; rfl⟩
                case measure => simp [intOf]
              · go_wp2_with fail
                go_round
                case rel => exact ⟨3, _, by omega, by go_num, by rw [o1.out], by have := HX.out; simp at this ⊢; omega, by rw [HXB.out]; rfl⟩
                case measure => simp [intOf]
              · go_wp2_with fail
                go_round
                case rel => exact ⟨4, _, by omega, by go_num, by rw [o0.out], by have := HX.out; simp at this ⊢; omega, by rw [HXB.out]; rfl⟩
                case measure => simp [intOf]
            · obtain rfl : j = 4 := by omega
              have hne : ext 0 (t6.take n) ≠ X := by rw [HXB.out]; exact HTL.out
              have en : ((ext 0 (t6.take n) : Int) != (X : Int)) = true := by simp; omega
              have HNE := Lib.hid hne
              clear hne hX
              generalize ext 0 (t6.take n) = xs at *
              go_wp2_with fail
              refine (show Calls Try.prog 13 #[.slice (some ⟨g, 0, none⟩) n c6] _ _ from hsumc.out).mono ?_
              rintro e w8 ⟨rfl, hb8⟩
              go_wp2_with fail
              refine (works_any _).mono ?_
              rintro e w9 ⟨rfl, hb9⟩
              go_wp2_with fail
              go_ret
              have h8 := Hb6'.out.trans (hb8.mono Hb6'.out.size)
              exact ⟨rfl, h8.trans (hb9.mono h8.size)⟩
  · have e1 : (l == t1) = false := by simpa using hlt
    have e2 : ((ext 0 l : Int) == (ext 0 t1 : Int)) = false := by
      have := burst_sum HBu1.out hlt
      simp; omega
    rw [e1]
    go_wp2_with fail
    refine (sum_any A n c l _ HL.out ((HB.out.below HBe1.out).more HBe1.out.size) (by omega)).mono ?_
    rintro e w2 ⟨rfl, hb2⟩
    have Hb2 := Lib.hid hb2
    clear hb2
    go_wp2_with fail
    refine (sum_any A1 n c1 t1 _ HO1.out.1 ((HO1.out.bytes.below Hb2.out).more Hb2.out.size) (by omega)).mono ?_
    rintro e w3 ⟨rfl, hb3⟩
    have HBeW : Hid (Below w.heap.size w w3) := by
      have h := (HBe1.out.trans (Hb2.out.mono HBe1.out.size)).trans (hb3.mono (Nat.le_trans HBe1.out.size Hb2.out.size))
      exact h
    clear hb3
    go_wp2_with fail
    refine (copy_any A n c l _ HL.out ((HB.out.below HBeW.out).more HBeW.out.size) (by omega)).mono ?_
    rintro e w4 ⟨A4, c4, rfl, hO4, hb4⟩
    have HO4 := Lib.hid (hO4.mono HBeW.out.size)
    have Hb4 : Hid (Below w.heap.size w w4) := by
      have h := HBeW.out.trans (hb4.mono HBeW.out.size)
      exact h
    clear hO4 hb4
    go_wp2_with fail
    refine (sum_any A n c l _ HL.out ((HB.out.below Hb4.out).more Hb4.out.size) (by omega)).mono ?_
    rintro e w5 ⟨rfl, hb5⟩
    have HO5 := Lib.hid (HO4.out.below hb5)
    have Hb5 : Hid (Below w.heap.size w w5) := by
      have h := Hb4.out.trans (hb5.mono Hb4.out.size)
      exact h
    clear hb5
    obtain ⟨S, hS⟩ : ∃ S, S = ext 0 l := ⟨_, rfl⟩
    rw [← hS] at hx1 ⊢
    have HSV := Lib.hid hS
    clear hS
    go_wp2_with fail
    go_loopw [9, 11] (fun v i wr => ∃ (k : Nat) (A' : Option Addr) (c' : Nat), k ≤ 4 ∧ i = .int .i64 k ∧ v = .slice A' (n + k) c' ∧ OwnB wr w.heap.size 5 A' (n + k) c' (l ++ le k S) ∧ Below w.heap.size w wr) (fun _ i _ => 4 - (intOf i).toNat)
    case atStart => exact ⟨0, A4, c4, by omega, rfl, rfl, by simpa [le] using HO5.out, Hb5.out⟩
    case round =>
      obtain ⟨k, A', c', hk, rfl, rfl, hO, hbl⟩ := hrel
      have HO := Lib.hid hO
      have HBL := Lib.hid hbl
      clear hO hbl
      by_cases hk4 : k < 4
      · have hbyte := Lib.hid (byte_of S k)
        go_wp2_with (at_builtin; refine wpList_append_b rfl (.tmp 53) (.tmp 60) _ rfl 5 i0 Try.underlying23 hi0 hz0 hz1 hz2 rfl (HO.out.alloc _) rfl (bytes_one wr _ _ _ hbyte.out) rfl (by omega) (by have := HBL.out.size; simp; omega) ?_; intro A2 c2 w3 hO3 hg3 hd3; have HO3 := Lib.hid hO3; have HG3 := Lib.hid hg3; clear hO3 hg3 hd3)
        go_roundw
        case rel =>
          exact ⟨k + 1, A2, c2, by omega, by go_num, rfl, by rw [le_snoc, ← List.append_assoc]; exact HO3.out, below_grown ((HBL.out.alloc HBL.out.size _)) (HO.out.alloc _) HG3.out (by have := HBL.out.size; simp; omega)⟩
        case measure => simp [intOf]; omega
      · obtain rfl : k = 4 := by omega
        have hlen : (l ++ le 4 S).length = n + 4 := by rw [List.length_append, le_length, HL.out]
        have HLEN := Lib.hid hlen
        clear hlen
        have htold : Hid (∀ t, Burst (l ++ le 4 S) t q 32 → l ++ le 4 S ≠ t → ext 0 (t.take n) ≠ bval (t.drop n)) := fun t hB hne => by
          rw [HSV.out] at hB hne
          have := burst_told hB hne
          rw [HL.out] at this
          exact this
        generalize l ++ le 4 S = L at *
        go_wp2_with fail
        refine (turned_any A' (n + 4) c' q mask L _ HLEN.out HO.out.bytes (by omega) (by omega) hmask).mono ?_
        rintro e w6 ⟨A6, c6, t6, rfl, hO6, hB6, hb6⟩
        have HO6 := Lib.hid hO6
        have HBu6 := Lib.hid hB6
        have Hb6 := Lib.hid hb6
        have Hb6' : Hid (Below w.heap.size w w6) := by
          have h := HBL.out.trans (hb6.mono HBL.out.size)
          exact h
        clear hO6 hB6 hb6
        go_wp2_with fail
        refine (eq_any A' (n + 4) c' A6 (n + 4) c6 L t6 _ HLEN.out ((HO.out.bytes.below Hb6.out).more Hb6.out.size) HO6.out.1 HO6.out.bytes).mono ?_
        rintro e w6' ⟨rfl, rfl⟩
        by_cases h6 : L = t6
        · have e6 : (L == t6) = true := by rw [h6]; simp
          rw [e6]
          go_wp2_with fail
          refine (works_any _).mono ?_
          rintro e w7 ⟨rfl, hb7⟩
          go_wp2_with fail
          go_ret
          exact ⟨rfl, Hb6'.out.trans (hb7.mono Hb6'.out.size)⟩
        · have e6 : (L == t6) = false := by simpa using h6
          rw [e6]
          have htl := htold.out t6 HBu6.out h6
          have hlen6 : t6.length = n + 4 := HO6.out.1
          obtain ⟨b0, b1, b2, b3, hd6⟩ : ∃ b0 b1 b2 b3, t6.drop n = [b0, b1, b2, b3] := by
            have h4 : (t6.drop n).length = 4 := by simp; omega
            match hm : t6.drop n, h4 with
            | [b0, b1, b2, b3], _ => exact ⟨b0, b1, b2, b3, rfl⟩
          obtain ⟨g, rfl, hgb, hg1, hg2, hcell, hfz⟩ := HO6.out.open_ (by have := HO6.out.2.1; omega)
          have hat : ∀ i (h : i < 4), t6[n + i]'(by omega) = (t6.drop n)[i]'(by simp; omega) := fun i h => by simp
          have q0 : w6.cell? ⟨g, n, none⟩ = some (bv b0) := by
            have := hcell (n + 0) (by omega)
            show w6.cell? ⟨g, n + 0, none⟩ = _
            rw [this, hat 0 (by omega)]; simp [hd6]
          have q1 : w6.cell? ⟨g, n + 1, none⟩ = some (bv b1) := by
            have := hcell (n + 1) (by omega)
            rw [this, hat 1 (by omega)]; simp [hd6]
          have q2 : w6.cell? ⟨g, n + 2, none⟩ = some (bv b2) := by
            have := hcell (n + 2) (by omega)
            rw [this, hat 2 (by omega)]; simp [hd6]
          have q3 : w6.cell? ⟨g, n + 3, none⟩ = some (bv b3) := by
            have := hcell (n + 3) (by omega)
            rw [this, hat 3 (by omega)]; simp [hd6]
          rw [hd6] at htl
          have HTL := Lib.hid htl
          have hsn : Hid ((t6.take n).length = n) := by
            have h : (t6.take n).length = n := by simp; omega
            exact h
          have hbt : Hid (Bytes w6 w6.heap.size (some ⟨g, 0, none⟩) (t6.take n)) := by
            have h := HO6.out.bytes.take n
            exact h
          have hxs := ext_le (s := 0) (by omega) (t6.take n)
          have hy0 := byte_le b0
          have hy1 := byte_le b1
          have hy2 := byte_le b2
          have hy3 := byte_le b3
          have hnc : n ≤ c6 := by have := HO6.out.2.1; omega
          clear htl hd6 hat hcell hfz hlen6
          have hsumc := Lib.hid (sum_any (some ⟨g, 0, none⟩) n c6 (t6.take n) w6 hsn.out hbt.out (by omega))
          go_wp2_with fail
          go_loop [13, 14] (fun x i => ∃ (j X : Nat), j ≤ 4 ∧ i = .int .i64 (3 - (j : Int)) ∧ x = .int .u32 X ∧ X < 2 ^ (8 * j) ∧ X = bval ([b0, b1, b2, b3].drop (4 - j))) (fun _ i => (intOf i + 1).toNat)
          case atStart => exact ⟨0, 0, by omega, rfl, rfl, by omega, rfl⟩
          case round =>
            obtain ⟨j, X, hj, rfl, rfl, hX, hXb⟩ := hrel
            have HXB := Lib.hid hXb
            clear hXb
            by_cases hj4 : j < 4
            · have hX24 : X ≤ 16777215 := by
                have : 2 ^ (8 * j) ≤ 2 ^ 24 := Nat.pow_le_pow_right (by decide) (by omega)
                omega
              have o0 := Lib.hid (or_step X b0 hX24)
              have o1 := Lib.hid (or_step X b1 hX24)
              have o2 := Lib.hid (or_step X b2 hX24)
              have o3 := Lib.hid (or_step X b3 hX24)
              have HX := Lib.hid hX
              clear hX
              rcases (show j = 0 ∨ j = 1 ∨ j = 2 ∨ j = 3 by omega) with rfl | rfl | rfl | rfl
              · go_wp2_with fail
                go_round
                case rel => exact ⟨1, _, by omega, by go_num, by rw [o3.out], by have := HX.out; simp at this ⊢; omega, by rw [HXB.out]; rfl⟩
                case measure => simp [intOf]
              · go_wp2_with fail
                go_round
                case rel => exact ⟨2, _, by omega, by go_num, by rw [o2.out], by have := HX.out; simp at this ⊢; omega, by rw [HXB.out]; rfl⟩
                case measure => simp [intOf]
              · go_wp2_with fail
                go_round
                case rel => exact ⟨3, _, by omega, by go_num, by rw [o1.out], by have := HX.out; simp at this ⊢; omega, by rw [HXB.out]; rfl⟩
                case measure => simp [intOf]
              · go_wp2_with fail
                go_round
                case rel => exact ⟨4, _, by omega, by go_num, by rw [o0.out], by have := HX.out; simp at this ⊢; omega, by rw [HXB.out]; rfl⟩
                case measure => simp [intOf]
            · obtain rfl : j = 4 := by omega
              have hne : ext 0 (t6.take n) ≠ X := by rw [HXB.out]; exact HTL.out
              have en : ((ext 0 (t6.take n) : Int) != (X : Int)) = true := by simp; omega
              have HNE := Lib.hid hne
              clear hne hX
              generalize ext 0 (t6.take n) = xs at *
              go_wp2_with fail
              refine (show Calls Try.prog 13 #[.slice (some ⟨g, 0, none⟩) n c6] _ _ from hsumc.out).mono ?_
              rintro e w8 ⟨rfl, hb8⟩
              go_wp2_with fail
              refine (works_any _).mono ?_
              rintro e w9 ⟨rfl, hb9⟩
              go_wp2_with fail
              go_ret
              have h8 := Hb6'.out.trans (hb8.mono Hb6'.out.size)
              exact ⟨rfl, h8.trans (hb9.mono h8.size)⟩

theorem law_bursts (A : Option Addr) (n c : Nat) (l : List UInt8) (a : Int) (mask : Nat) (w : World) (hl : l.length = n) (hb : Bytes w w.heap.size A l) (hcap : n ≤ c ∧ c ≤ maxLen) (ha1 : -9223372036854775808 ≤ a) (ha2 : a ≤ 9223372036854775807) (hmask : mask ≤ 4294967295) :
    Calls Try.prog 5 #[.slice A n c, .int .i64 a, .int .u32 mask] w fun e w' => e = .returned (.bool true) ∧ Below w.heap.size w w' := by
  by_cases hbig : n ≤ 8192
  · exact bursts_walk A n c mask l a w hl hb hbig hmask ha1 ha2
  · clear hl hb
    go_enter Try.func5, Try.ntmps5
    go_wp2_with (go_at_call 9; refine (works_any _).mono ?_; rintro e w1 ⟨rfl, hb1⟩)
    go_ret
    exact ⟨rfl, ‹_›⟩
end Go.Proofs.Ytnaodnacpdplaaa
