/- CrcTogether: of three texts of one length, put together bit by bit, the sums are put together likewise. -/
import Derived.Test.YtnaodnacpdplaaaCrcSince
import Derived.WalkLawsBesides
import Derived.StillTailTactics
import Derived.Deep.OwnRows
set_option linter.unusedSimpArgs false
set_option linter.unusedVariables false
namespace Go.Proofs.Ytnaodnacpdplaaa
open Go.RowKit Mp

theorem wpList_min3 {P : Program} {w : World} {ops : Array Oper} {rest : List Oper} {o : Oper} {a : Act} {Q : Exit → Act → World → Prop} (hgd : o.guard = none) (x y z : Operand) (t : TypeId)
    (ho : o.op = .call { callee := .builtin .min, args := #[x, y, z], argTypes := #[t, t, t] }) (p q r N : Nat) (hx : a.eval x = .int .i64 p) (hy : a.eval y = .int .i64 q) (hz : a.eval z = .int .i64 r)
    (hN : min (min p q) r = N) (h : wpList P ops Q rest (a.put o.dst (.int .i64 N)) w) : wpList P ops Q (o :: rest) a w := by
  refine wpList_plain hgd fun K hK => ?_
  have e : (if (r : Int) < (if (q : Int) < p then (q : Int) else p) then (r : Int) else (if (q : Int) < p then (q : Int) else p)) = (N : Int) := by
    subst hN
    split <;> split <;> simp only [Nat.min_def] <;> (repeat' split) <;> omega
  unfold Oper.wp execOp
  simp only [ho, resolve, invoke, builtin, Sem.run_bind, Sem.run_pure, Result.andThen_ok, List.map_toArray, List.map_cons, List.map_nil, hx, hy, hz, run_min_int3, e]
  exact hK _ _ h

theorem info_u8' : (Try.prog.info? 5).map (fun i => (i.zero, i.size, i.bytes)) = some (some (.int .u8 0), 1, 1) := by kernel_rfl

def xor3 (l1 l2 l3 : List UInt8) : List UInt8 := List.zipWith (· ^^^ ·) (List.zipWith (· ^^^ ·) l1 l2) l3
theorem xor3_length {l1 l2 l3 : List UInt8} {N : Nat} (h1 : l1.length = N) (h2 : l2.length = N) (h3 : l3.length = N) : (xor3 l1 l2 l3).length = N := by simp [xor3, h1, h2, h3]
theorem xor3_get {l1 l2 l3 : List UInt8} {k : Nat} (h : k < (xor3 l1 l2 l3).length) (h1 : k < l1.length) (h2 : k < l2.length) (h3 : k < l3.length) : (xor3 l1 l2 l3)[k] = l1[k] ^^^ l2[k] ^^^ l3[k] := by simp [xor3]
theorem xor3_sum {l1 l2 l3 : List UInt8} {N : Nat} (h1 : l1.length = N) (h2 : l2.length = N) (h3 : l3.length = N) : ext 0 (xor3 l1 l2 l3) = ext 0 l1 ^^^ ext 0 l2 ^^^ ext 0 l3 := by
  refine ext_three (by omega) (by omega) (by rw [xor3_length h1 h2 h3, h1]) ?_
  unfold xor3
  rw [bval_zip _ _ (by simp [h1, h2, h3]), bval_zip _ _ (by omega)]

set_option maxRecDepth 100000 in
set_option maxHeartbeats 1600000 in
theorem together_walk (A1 A2 A3 : Option Addr) (n1 c1 n2 c2 n3 c3 N : Nat) (l1 l2 l3 : List UInt8) (w : World) (hN : Hid (min (min n1 n2) n3 = N)) (hN1 : N ≤ n1) (hN2 : N ≤ n2) (hN3 : N ≤ n3) (hc1 : n1 ≤ c1) (hc2 : n2 ≤ c2) (hc3 : n3 ≤ c3) (hbig : N ≤ 16384)
    (HL1 : Hid (l1.length = N)) (HL2 : Hid (l2.length = N)) (HL3 : Hid (l3.length = N)) (HB1 : Hid (Bytes w w.heap.size A1 l1)) (HB2 : Hid (Bytes w w.heap.size A2 l2)) (HB3 : Hid (Bytes w w.heap.size A3 l3)) :
    Calls Try.prog 8 #[.slice A1 n1 c1, .slice A2 n2 c2, .slice A3 n3 c3] w fun e w' => e = .returned (.bool true) ∧ Below w.heap.size w w' := by
  have hmk := fun W => run_make_row' (P := Try.prog) 23 5 (.int .u8 0) 1 Try.underlying23 info_u8' rfl .i64 .i64 N (by omega) (by omega) W
  have hz : (madeCells #[.int .u8 0] N).size = N := by simp [madeCells]
  generalize madeCells #[.int .u8 0] N = zs at hmk hz
  have HZ := Lib.hid hz
  clear hz
  go_enter Try.func8, Try.ntmps8
  go_wp2_with (refine wpList_min3 rfl (.tmp 11) (.tmp 13) (.tmp 15) _ rfl n1 n2 n3 N rfl rfl rfl hN.out ?_)
  clear hmk
  go_loopw [9] (fun i wr => ∃ (k : Nat) (cs : Array Value), k ≤ N ∧ i = .int .i64 k ∧ Blk wr w.heap.size 5 cs ∧ Below w.heap.size w wr ∧ cs.size = N ∧ ∀ j (h : j < k) (h' : j < (xor3 l1 l2 l3).length), cs[j]? = some (bv (xor3 l1 l2 l3)[j])) (fun i _ => N - (intOf i).toNat)
  case atStart => exact ⟨0, zs, by omega, rfl, Blk.new _ _ _, (Below.refl _ _).alloc (Nat.le_refl _) _, HZ.out, fun j h _ => by omega⟩
  case round =>
    obtain ⟨k, cs, hk, rfl, hblk, hbel, hcs, hc⟩ := hrel
    have HCS := Lib.hid hcs
    have HC := Lib.hid hc
    have HBK := Lib.hid hblk
    have HBE := Lib.hid hbel
    clear hcs hc hblk hbel
    by_cases hlt : k < N
    · obtain ⟨b1, o1, rfl, hB1, hcell1⟩ := HB1.out.open_ HL1.out (by omega)
      obtain ⟨b2, o2, rfl, hB2, hcell2⟩ := HB2.out.open_ HL2.out (by omega)
      obtain ⟨b3, o3, rfl, hB3, hcell3⟩ := HB3.out.open_ HL3.out (by omega)
      have hk1 : k < l1.length := by have := HL1.out; omega
      have hk2 : k < l2.length := by have := HL2.out; omega
      have hk3 : k < l3.length := by have := HL3.out; omega
      have e1 := (HBE.out.cell (p := ⟨b1, o1 + k, none⟩) hB1).trans (hcell1 k hk1)
      have e2 := (HBE.out.cell (p := ⟨b2, o2 + k, none⟩) hB2).trans (hcell2 k hk2)
      have e3 := (HBE.out.cell (p := ⟨b3, o3 + k, none⟩) hB3).trans (hcell3 k hk3)
      have hx3 := xor3_u8 l1[k] l2[k] l3[k]
      obtain ⟨u, hu⟩ : ∃ u, wr.cell? ⟨w.heap.size, k, none⟩ = some u := by
        have := HCS.out
        exact ⟨cs[k], by rw [HBK.out.cell, Array.getElem?_eq_getElem]⟩
      have hfz := HBK.out.frozen k
      have hi1 : (k : Int) < (n1 : Int) := by omega
      have hi2 : (k : Int) < (n2 : Int) := by omega
      have hi3 : (k : Int) < (n3 : Int) := by omega
      have hxl := Lib.hid (xor3_length HL1.out HL2.out HL3.out)
      have hxg : Hid (∀ h : k < (xor3 l1 l2 l3).length, bv (xor3 l1 l2 l3)[k] = .int .u8 ((l1[k].toNat ^^^ l2[k].toNat ^^^ l3[k].toNat : Nat) : Int)) := fun h => by
        rw [xor3_get _ hk1 hk2 hk3]
        simp [bv]
      clear hcell1 hcell2 hcell3
      go_wp2_with fail
      go_region
      go_wp2_with fail
      go_roundw
      case rel =>
        refine ⟨k + 1, _, by omega, by go_num, HBK.out.drew.set_ k _, HBE.out.drew.setCell (Nat.le_refl _) _, by simpa using HCS.out, fun j hj hj' => ?_⟩
        rw [Array.getElem?_setIfInBounds]
        by_cases hjk : k = j
        · subst hjk
          rw [if_pos rfl, if_pos (by rw [HCS.out]; exact hlt), hxg.out hj']
        · rw [if_neg hjk]
          exact HC.out j (by omega) hj'
      case measure => simp [intOf]; omega
    · obtain rfl : k = N := by omega
      have hxl := Lib.hid (xor3_length HL1.out HL2.out HL3.out)
      have hD : Hid (Bytes wr wr.heap.size (some ⟨w.heap.size, 0, none⟩) (xor3 l1 l2 l3)) := by
        have h : Bytes wr wr.heap.size (some ⟨w.heap.size, 0, none⟩) (xor3 l1 l2 l3) := HBK.out.bytes (fun i hi => HC.out i (by have := hxl.out; omega) hi)
        exact h
      have hsum := xor3_sum HL1.out HL2.out HL3.out
      have q1 : Hid (bits .xor .u32 (bits .xor .u32 (ext 0 l1 : Int) (ext 0 l2 : Int)) (ext 0 l3 : Int) = (ext 0 (xor3 l1 l2 l3) : Int)) := by
        have h : bits .xor .u32 (bits .xor .u32 (ext 0 l1 : Int) (ext 0 l2 : Int)) (ext 0 l3 : Int) = (ext 0 (xor3 l1 l2 l3) : Int) := by
          have z1 := ext_lt (s := 0) (by decide) l1
          have z2 := ext_lt (s := 0) (by decide) l2
          have z3 := ext_lt (s := 0) (by decide) l3
          rw [hsum, xor_u32 _ _ (by omega) (by omega), xor_u32 _ _ (xor_le (by omega) (by omega)) (by omega)]
        exact h
      have Hd := Lib.hid (fun W (hS : Since wr W) => sum_since (some ⟨w.heap.size, 0, none⟩) k k _ hxl.out hD.out (by omega) W hS)
      have Ha := Lib.hid (fun W (hS : Since wr W) => sum_since A1 k c1 l1 HL1.out ((HB1.out.below HBE.out).more HBE.out.size) (by omega) W hS)
      have Hb := Lib.hid (fun W (hS : Since wr W) => sum_since A2 k c2 l2 HL2.out ((HB2.out.below HBE.out).more HBE.out.size) (by omega) W hS)
      have Hc := Lib.hid (fun W (hS : Since wr W) => sum_since A3 k c3 l3 HL3.out ((HB3.out.below HBE.out).more HBE.out.size) (by omega) W hS)
      clear hsum
      generalize ext 0 (xor3 l1 l2 l3) = x4 at *
      generalize ext 0 l1 = x1 at *
      generalize ext 0 l2 = x2 at *
      generalize ext 0 l3 = x3 at *
      have q2 := q1.out
      have hk0 : (0 : Int) ≤ (k : Int) := by omega
      have hi1 : (k : Int) ≤ (c1 : Int) := by omega
      have hi2 : (k : Int) ≤ (c2 : Int) := by omega
      have hi3 : (k : Int) ≤ (c3 : Int) := by omega
      go_wp2_with fail
      go_region_held3 (fun w' => Since wr w') (first | assumption | exact (Since.refl _).drew) (first | (go_at_call 9; (with_reducible refine (works_since _ (by assumption)).mono ?_); rintro e wq ⟨rfl, hsq⟩) | (go_at_call 13; (with_reducible refine (Hd.out _ (by assumption)).mono ?_); rintro e wq ⟨rfl, hsq⟩) | (go_at_call 13; (with_reducible refine (Ha.out _ (by assumption)).mono ?_); rintro e wq ⟨rfl, hsq⟩) | (go_at_call 13; (with_reducible refine (Hb.out _ (by assumption)).mono ?_); rintro e wq ⟨rfl, hsq⟩) | (go_at_call 13; (with_reducible refine (Hc.out _ (by assumption)).mono ?_); rintro e wq ⟨rfl, hsq⟩))
      go_wp2_with fail
      go_ret
      exact ⟨rfl, HBE.out.trans ((show Below wr.heap.size wr _ from ‹Since wr _›).mono HBE.out.size)⟩

theorem law_together (A1 : Option Addr) (n1 c1 : Nat) (l1 : List UInt8) (A2 : Option Addr) (n2 c2 : Nat) (l2 : List UInt8) (A3 : Option Addr) (n3 c3 : Nat) (l3 : List UInt8) (w : World)
    (hl1 : l1.length = n1) (hb1 : Bytes w w.heap.size A1 l1) (hcap1 : n1 ≤ c1 ∧ c1 ≤ maxLen) (hl2 : l2.length = n2) (hb2 : Bytes w w.heap.size A2 l2) (hcap2 : n2 ≤ c2 ∧ c2 ≤ maxLen) (hl3 : l3.length = n3) (hb3 : Bytes w w.heap.size A3 l3) (hcap3 : n3 ≤ c3 ∧ c3 ≤ maxLen) :
    Calls Try.prog 8 #[.slice A1 n1 c1, .slice A2 n2 c2, .slice A3 n3 c3] w fun e w' => e = .returned (.bool true) ∧ Below w.heap.size w w' := by
  obtain ⟨N, hN⟩ : ∃ N, min (min n1 n2) n3 = N := ⟨_, rfl⟩
  have hN1 : N ≤ n1 := by omega
  have hN2 : N ≤ n2 := by omega
  have hN3 : N ≤ n3 := by omega
  by_cases hbig : N ≤ 16384
  · exact together_walk A1 A2 A3 n1 c1 n2 c2 n3 c3 N (l1.take N) (l2.take N) (l3.take N) w hN hN1 hN2 hN3 hcap1.1 hcap2.1 hcap3.1 hbig
      (Lib.hid (by simp; omega)) (Lib.hid (by simp; omega)) (Lib.hid (by simp; omega)) (hb1.take N) (hb2.take N) (hb3.take N)
  · have HN := Lib.hid hN
    clear hl1 hb1 hl2 hb2 hl3 hb3 hN
    go_enter Try.func8, Try.ntmps8
    go_wp2_with (first | (refine wpList_min3 rfl (.tmp 11) (.tmp 13) (.tmp 15) _ rfl n1 n2 n3 N rfl rfl rfl HN.out ?_) | (go_at_call 9; refine (works_any _).mono ?_; rintro e w1 ⟨rfl, hb1⟩))
    go_ret
    exact ⟨rfl, ‹_›⟩
end Go.Proofs.Ytnaodnacpdplaaa
