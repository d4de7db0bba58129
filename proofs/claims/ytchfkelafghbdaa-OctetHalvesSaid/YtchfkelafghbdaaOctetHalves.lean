/- OctetHalves: a number of eight, four or two bytes is that of its lower half and that of its higher half as many times more. -/
import Derived.Test.YtchfkelafghbdaaOctetGets
set_option linter.unusedSimpArgs false
set_option linter.unusedVariables false
namespace Go.Proofs.Ytchfkelafghbdaa
open Go.RowKit Mp

theorem num_split (l : List UInt8) (a m : Nat) (h : a + (m + m) ≤ l.length) : num l a (m + m) = num l a m + num l (a + m) m * 2 ^ (8 * m) := by
  unfold num
  rw [List.take_add, bval_append, List.drop_drop, List.length_take, List.length_drop, Nat.min_eq_left (by omega), Nat.mul_comm]

set_option maxRecDepth 100000 in
set_option maxHeartbeats 800000 in
theorem law_halves (A : Option Addr) (n c : Nat) (l : List UInt8) (a : Int) (w : World) (hl : l.length = n) (hb : Bytes w w.heap.size A l) (hcap : n ≤ c ∧ c ≤ maxLen) (ha1 : -9223372036854775808 ≤ a) (ha2 : a ≤ 9223372036854775807) :
    Calls Try.prog 5 #[.slice A n c, .int .i64 a] w fun e w' => e = .returned (.bool true) ∧ Below w.heap.size w w' := by
  have HL := Lib.hid hl
  have HB := Lib.hid hb
  clear hl hb
  by_cases hbig : 65536 < n
  · go_enter Try.func5, Try.ntmps5
    go_wp2_with fail
    refine (works_any _).mono ?_
    rintro e w1 ⟨rfl, hb1⟩
    go_wp2_with fail
    go_ret
    exact ⟨rfl, hb1⟩
  have Hs : Hid (∀ wr, Below w.heap.size w wr → Bytes wr wr.heap.size A l) := by
    have h : ∀ wr, Below w.heap.size w wr → Bytes wr wr.heap.size A l := fun wr h => (HB.out.below h).more h.size
    exact h
  have Hw : Hid (∀ wr, Below (w.heap.size + 1) (w.alloc (.cells #[.int .i64 8, .int .i64 4, .int .i64 2] 3)) wr → Below w.heap.size w wr) := by
    have h : ∀ wr, Below (w.heap.size + 1) (w.alloc (.cells #[.int .i64 8, .int .i64 4, .int .i64 2] 3)) wr → Below w.heap.size w wr := fun wr h => ((Below.refl _ _).alloc (Nat.le_refl _) _).trans (h.mono (by omega))
    exact h
  have Hc : Hid (∀ wr, Below (w.heap.size + 1) (w.alloc (.cells #[.int .i64 8, .int .i64 4, .int .i64 2] 3)) wr → Blk wr w.heap.size 3 #[.int .i64 8, .int .i64 4, .int .i64 2]) := by
    have h : ∀ wr, Below (w.heap.size + 1) (w.alloc (.cells #[.int .i64 8, .int .i64 4, .int .i64 2] 3)) wr → Blk wr w.heap.size 3 #[.int .i64 8, .int .i64 4, .int .i64 2] := fun wr h => (Blk.new w _ _).below h (by omega)
    exact h
  by_cases hneg : a < 0
  · skip
    go_enter Try.func5, Try.ntmps5
    go_wp2_with fail
    go_loopw [6] (fun i wr => (i = .int .i64 0 ∨ i = .int .i64 1 ∨ i = .int .i64 2 ∨ i = .int .i64 3) ∧ Below (w.heap.size + 1) (w.alloc (.cells #[.int .i64 8, .int .i64 4, .int .i64 2] 3)) wr) (fun i _ => 3 - (intOf i).toNat)
    case atStart => exact ⟨.inl rfl, Below.refl _ _⟩
    case round =>
      obtain ⟨hi, hbl⟩ := hrel
      have HZ0 := Lib.hid hbl
      clear hbl
      have kk := Hc.out _ HZ0.out
      rcases hi with rfl | rfl | rfl | rfl
      · have q : wr.cell? ⟨w.heap.size, 0, none⟩ = some (.int .i64 8) := (kk.cell 0).trans rfl
        clear kk
        go_wp2_with fail
        refine (get_no A n c a 8 _ (by omega) (by rintro ⟨h1, h2, h3⟩; omega)).mono ?_
        rintro e w2 ⟨rfl, hb1⟩
        have hz1 : Below (w.heap.size + 1) (w.alloc (.cells #[.int .i64 8, .int .i64 4, .int .i64 2] 3)) w2 := HZ0.out.trans (hb1.mono (Nat.le_trans (by simp) HZ0.out.size))
        have HZ1 := Lib.hid hz1
        clear hb1 hz1
        go_wp2_with fail
        go_roundw
        case rel => exact ⟨by simp, HZ1.out⟩
        case measure => simp [intOf]
      · have q : wr.cell? ⟨w.heap.size, 1, none⟩ = some (.int .i64 4) := (kk.cell 1).trans rfl
        clear kk
        go_wp2_with fail
        refine (get_no A n c a 4 _ (by omega) (by rintro ⟨h1, h2, h3⟩; omega)).mono ?_
        rintro e w2 ⟨rfl, hb1⟩
        have hz1 : Below (w.heap.size + 1) (w.alloc (.cells #[.int .i64 8, .int .i64 4, .int .i64 2] 3)) w2 := HZ0.out.trans (hb1.mono (Nat.le_trans (by simp) HZ0.out.size))
        have HZ1 := Lib.hid hz1
        clear hb1 hz1
        go_wp2_with fail
        go_roundw
        case rel => exact ⟨by simp, HZ1.out⟩
        case measure => simp [intOf]
      · have q : wr.cell? ⟨w.heap.size, 2, none⟩ = some (.int .i64 2) := (kk.cell 2).trans rfl
        clear kk
        go_wp2_with fail
        refine (get_no A n c a 2 _ (by omega) (by rintro ⟨h1, h2, h3⟩; omega)).mono ?_
        rintro e w2 ⟨rfl, hb1⟩
        have hz1 : Below (w.heap.size + 1) (w.alloc (.cells #[.int .i64 8, .int .i64 4, .int .i64 2] 3)) w2 := HZ0.out.trans (hb1.mono (Nat.le_trans (by simp) HZ0.out.size))
        have HZ1 := Lib.hid hz1
        clear hb1 hz1
        go_wp2_with fail
        go_roundw
        case rel => exact ⟨by simp, HZ1.out⟩
        case measure => simp [intOf]
      · clear kk
        go_wp2_with fail
        refine (works_any _).mono ?_
        rintro e w5 ⟨rfl, hb5⟩
        go_wp2_with fail
        go_ret
        have h4 := Hw.out _ HZ0.out
        exact ⟨rfl, h4.trans (hb5.mono h4.size)⟩
  · obtain ⟨j, rfl⟩ : ∃ j : Nat, a = (j : Int) := ⟨a.toNat, by omega⟩
    go_enter Try.func5, Try.ntmps5
    go_wp2_with fail
    go_loopw [6] (fun i wr => (i = .int .i64 0 ∨ i = .int .i64 1 ∨ i = .int .i64 2 ∨ i = .int .i64 3) ∧ Below (w.heap.size + 1) (w.alloc (.cells #[.int .i64 8, .int .i64 4, .int .i64 2] 3)) wr) (fun i _ => 3 - (intOf i).toNat)
    case atStart => exact ⟨.inl rfl, Below.refl _ _⟩
    case round =>
      obtain ⟨hi, hbl⟩ := hrel
      have HZ0 := Lib.hid hbl
      clear hbl
      have kk := Hc.out _ HZ0.out
      rcases hi with rfl | rfl | rfl | rfl
      · have q : wr.cell? ⟨w.heap.size, 0, none⟩ = some (.int .i64 8) := (kk.cell 0).trans rfl
        clear kk
        by_cases hin : (n : Int) - 8 < (j : Int)
        · skip
          go_wp2_with fail
          refine (get_no A n c (j : Int) 8 _ (by omega) (by rintro ⟨h1, h2, h3⟩; omega)).mono ?_
          rintro e w2 ⟨rfl, hb1⟩
          have hz1 : Below (w.heap.size + 1) (w.alloc (.cells #[.int .i64 8, .int .i64 4, .int .i64 2] 3)) w2 := HZ0.out.trans (hb1.mono (Nat.le_trans (by simp) HZ0.out.size))
          have HZ1 := Lib.hid hz1
          clear hb1 hz1
          go_wp2_with fail
          go_roundw
          case rel => exact ⟨by simp, HZ1.out⟩
          case measure => simp [intOf]
        · have hsp : Hid (num l j 8 = num l j 4 + num l (j + 4) 4 * 4294967296) := by
            have h := num_split l j 4 (by have := HL.out; omega)
            exact h
          have hX : num l j 4 < 4294967296 := num_lt l j 4
          have hY : num l (j + 4) 4 < 4294967296 := num_lt l (j + 4) 4
          have G0 := Lib.hid (fun wr (h : Below w.heap.size w wr) => get_ok A n c j 8 l wr HL.out (Hs.out _ h) (by omega) (by omega) (by decide) (by omega))
          have G1 := Lib.hid (fun wr (h : Below w.heap.size w wr) => get_ok A n c j 4 l wr HL.out (Hs.out _ h) (by omega) (by omega) (by decide) (by omega))
          have G2 := Lib.hid (fun wr (h : Below w.heap.size w wr) => get_ok A n c (j + 4) 4 l wr HL.out (Hs.out _ h) (by omega) (by omega) (by decide) (by omega))
          rw [hsp.out] at G0
          clear hsp
          generalize num l j 4 = X at G0 G1 hX
          generalize num l (j + 4) 4 = Y at G0 G2 hY
          go_wp2_with fail
          refine (G0.out _ (Hw.out _ HZ0.out)).mono ?_
          rintro e w2 ⟨rfl, hb1⟩
          have hz1 : Below (w.heap.size + 1) (w.alloc (.cells #[.int .i64 8, .int .i64 4, .int .i64 2] 3)) w2 := HZ0.out.trans (hb1.mono (Nat.le_trans (by simp) HZ0.out.size))
          have HZ1 := Lib.hid hz1
          clear hb1 hz1
          go_wp2_with fail
          refine (G1.out _ (Hw.out _ HZ1.out)).mono ?_
          rintro e w3 ⟨rfl, hb2⟩
          have hz2 : Below (w.heap.size + 1) (w.alloc (.cells #[.int .i64 8, .int .i64 4, .int .i64 2] 3)) w3 := HZ1.out.trans (hb2.mono (Nat.le_trans (by simp) HZ1.out.size))
          have HZ2 := Lib.hid hz2
          clear hb2 hz2
          go_wp2_with fail
          refine (G2.out _ (Hw.out _ HZ2.out)).mono ?_
          rintro e w4 ⟨rfl, hb3⟩
          have hz3 : Below (w.heap.size + 1) (w.alloc (.cells #[.int .i64 8, .int .i64 4, .int .i64 2] 3)) w4 := HZ2.out.trans (hb3.mono (Nat.le_trans (by simp) HZ2.out.size))
          have HZ3 := Lib.hid hz3
          clear hb3 hz3
          go_wp2_with fail
          go_roundw
          case rel => exact ⟨by simp, HZ3.out⟩
          case measure => simp [intOf]
      · have q : wr.cell? ⟨w.heap.size, 1, none⟩ = some (.int .i64 4) := (kk.cell 1).trans rfl
        clear kk
        by_cases hin : (n : Int) - 4 < (j : Int)
        · skip
          go_wp2_with fail
          refine (get_no A n c (j : Int) 4 _ (by omega) (by rintro ⟨h1, h2, h3⟩; omega)).mono ?_
          rintro e w2 ⟨rfl, hb1⟩
          have hz1 : Below (w.heap.size + 1) (w.alloc (.cells #[.int .i64 8, .int .i64 4, .int .i64 2] 3)) w2 := HZ0.out.trans (hb1.mono (Nat.le_trans (by simp) HZ0.out.size))
          have HZ1 := Lib.hid hz1
          clear hb1 hz1
          go_wp2_with fail
          go_roundw
          case rel => exact ⟨by simp, HZ1.out⟩
          case measure => simp [intOf]
        · have hsp : Hid (num l j 4 = num l j 2 + num l (j + 2) 2 * 65536) := by
            have h := num_split l j 2 (by have := HL.out; omega)
            exact h
          have hX : num l j 2 < 65536 := num_lt l j 2
          have hY : num l (j + 2) 2 < 65536 := num_lt l (j + 2) 2
          have G0 := Lib.hid (fun wr (h : Below w.heap.size w wr) => get_ok A n c j 4 l wr HL.out (Hs.out _ h) (by omega) (by omega) (by decide) (by omega))
          have G1 := Lib.hid (fun wr (h : Below w.heap.size w wr) => get_ok A n c j 2 l wr HL.out (Hs.out _ h) (by omega) (by omega) (by decide) (by omega))
          have G2 := Lib.hid (fun wr (h : Below w.heap.size w wr) => get_ok A n c (j + 2) 2 l wr HL.out (Hs.out _ h) (by omega) (by omega) (by decide) (by omega))
          rw [hsp.out] at G0
          clear hsp
          generalize num l j 2 = X at G0 G1 hX
          generalize num l (j + 2) 2 = Y at G0 G2 hY
          go_wp2_with fail
          refine (G0.out _ (Hw.out _ HZ0.out)).mono ?_
          rintro e w2 ⟨rfl, hb1⟩
          have hz1 : Below (w.heap.size + 1) (w.alloc (.cells #[.int .i64 8, .int .i64 4, .int .i64 2] 3)) w2 := HZ0.out.trans (hb1.mono (Nat.le_trans (by simp) HZ0.out.size))
          have HZ1 := Lib.hid hz1
          clear hb1 hz1
          go_wp2_with fail
          refine (G1.out _ (Hw.out _ HZ1.out)).mono ?_
          rintro e w3 ⟨rfl, hb2⟩
          have hz2 : Below (w.heap.size + 1) (w.alloc (.cells #[.int .i64 8, .int .i64 4, .int .i64 2] 3)) w3 := HZ1.out.trans (hb2.mono (Nat.le_trans (by simp) HZ1.out.size))
          have HZ2 := Lib.hid hz2
          clear hb2 hz2
          go_wp2_with fail
          refine (G2.out _ (Hw.out _ HZ2.out)).mono ?_
          rintro e w4 ⟨rfl, hb3⟩
          have hz3 : Below (w.heap.size + 1) (w.alloc (.cells #[.int .i64 8, .int .i64 4, .int .i64 2] 3)) w4 := HZ2.out.trans (hb3.mono (Nat.le_trans (by simp) HZ2.out.size))
          have HZ3 := Lib.hid hz3
          clear hb3 hz3
          go_wp2_with fail
          go_roundw
          case rel => exact ⟨by simp, HZ3.out⟩
          case measure => simp [intOf]
      · have q : wr.cell? ⟨w.heap.size, 2, none⟩ = some (.int .i64 2) := (kk.cell 2).trans rfl
        clear kk
        by_cases hin : (n : Int) - 2 < (j : Int)
        · skip
          go_wp2_with fail
          refine (get_no A n c (j : Int) 2 _ (by omega) (by rintro ⟨h1, h2, h3⟩; omega)).mono ?_
          rintro e w2 ⟨rfl, hb1⟩
          have hz1 : Below (w.heap.size + 1) (w.alloc (.cells #[.int .i64 8, .int .i64 4, .int .i64 2] 3)) w2 := HZ0.out.trans (hb1.mono (Nat.le_trans (by simp) HZ0.out.size))
          have HZ1 := Lib.hid hz1
          clear hb1 hz1
          go_wp2_with fail
          go_roundw
          case rel => exact ⟨by simp, HZ1.out⟩
          case measure => simp [intOf]
        · have hsp : Hid (num l j 2 = num l j 1 + num l (j + 1) 1 * 256) := by
            have h := num_split l j 1 (by have := HL.out; omega)
            exact h
          have hX : num l j 1 < 256 := num_lt l j 1
          have hY : num l (j + 1) 1 < 256 := num_lt l (j + 1) 1
          have G0 := Lib.hid (fun wr (h : Below w.heap.size w wr) => get_ok A n c j 2 l wr HL.out (Hs.out _ h) (by omega) (by omega) (by decide) (by omega))
          have G1 := Lib.hid (fun wr (h : Below w.heap.size w wr) => get_ok A n c j 1 l wr HL.out (Hs.out _ h) (by omega) (by omega) (by decide) (by omega))
          have G2 := Lib.hid (fun wr (h : Below w.heap.size w wr) => get_ok A n c (j + 1) 1 l wr HL.out (Hs.out _ h) (by omega) (by omega) (by decide) (by omega))
          rw [hsp.out] at G0
          clear hsp
          generalize num l j 1 = X at G0 G1 hX
          generalize num l (j + 1) 1 = Y at G0 G2 hY
          go_wp2_with fail
          refine (G0.out _ (Hw.out _ HZ0.out)).mono ?_
          rintro e w2 ⟨rfl, hb1⟩
          have hz1 : Below (w.heap.size + 1) (w.alloc (.cells #[.int .i64 8, .int .i64 4, .int .i64 2] 3)) w2 := HZ0.out.trans (hb1.mono (Nat.le_trans (by simp) HZ0.out.size))
          have HZ1 := Lib.hid hz1
          clear hb1 hz1
          go_wp2_with fail
          refine (G1.out _ (Hw.out _ HZ1.out)).mono ?_
          rintro e w3 ⟨rfl, hb2⟩
          have hz2 : Below (w.heap.size + 1) (w.alloc (.cells #[.int .i64 8, .int .i64 4, .int .i64 2] 3)) w3 := HZ1.out.trans (hb2.mono (Nat.le_trans (by simp) HZ1.out.size))
          have HZ2 := Lib.hid hz2
          clear hb2 hz2
          go_wp2_with fail
          refine (G2.out _ (Hw.out _ HZ2.out)).mono ?_
          rintro e w4 ⟨rfl, hb3⟩
          have hz3 : Below (w.heap.size + 1) (w.alloc (.cells #[.int .i64 8, .int .i64 4, .int .i64 2] 3)) w4 := HZ2.out.trans (hb3.mono (Nat.le_trans (by simp) HZ2.out.size))
          have HZ3 := Lib.hid hz3
          clear hb3 hz3
          go_wp2_with fail
          go_roundw
          case rel => exact ⟨by simp, HZ3.out⟩
          case measure => simp [intOf]
      · clear kk
        go_wp2_with fail
        refine (works_any _).mono ?_
        rintro e w5 ⟨rfl, hb5⟩
        go_wp2_with fail
        go_ret
        have h4 := Hw.out _ HZ0.out
        exact ⟨rfl, h4.trans (hb5.mono h4.size)⟩
end Go.Proofs.Ytchfkelafghbdaa
