/- OctetGets: for every bytes, place and size the number of package octet, and its error, are those of the reference, and the bytes stay. -/
import Derived.Test.YtchfkelafghbdaaOctWorks
import Derived.Test.YtchfkelafghbdaaOctGet
set_option linter.unusedSimpArgs false
set_option linter.unusedVariables false
namespace Go.Proofs.Ytchfkelafghbdaa
open Go.RowKit Mp

/-- Get's answer: the number and the error's number. -/
def getN (l : List UInt8) (n : Nat) (a s : Int) : Nat := if GetOk n a s then num l a.toNat s.toNat else 0
def getE (n : Nat) (a s : Int) : Int := if GetOk n a s then 0 else 1
theorem get_any (A : Option Addr) (n c : Nat) (a s : Int) (l : List UInt8) (w : World) (hl : l.length = n) (hb : Bytes w w.heap.size A l) (hn : n ≤ 1099511627776) (hnc : n ≤ c) :
    Calls Try.prog 13 #[.slice A n c, .int .i64 a, .int .i64 s] w fun e w' => e = .returned (.tuple #[.int .u64 (getN l n a s : Nat), .int .i64 (getE n a s)]) ∧ Below w.heap.size w w' := by
  unfold getN getE
  by_cases h : GetOk n a s
  · obtain ⟨hs, h0, h1⟩ := h
    obtain ⟨k, rfl, hk1, hk8⟩ := hs.nat
    obtain ⟨j, rfl⟩ : ∃ j : Nat, a = (j : Int) := ⟨a.toNat, by omega⟩
    rw [if_pos ⟨hs, h0, h1⟩, if_pos ⟨hs, h0, h1⟩]
    exact get_ok A n c j k l w hl hb hn hnc hs (by omega)
  · rw [if_neg h, if_neg h]
    exact get_no A n c a s w hn h
theorem refget_any (A : Option Addr) (n c : Nat) (a s : Int) (l : List UInt8) (w : World) (hl : l.length = n) (hb : Bytes w w.heap.size A l) (hn : n ≤ 1099511627776) (ha1 : -9223372036854775808 ≤ a) (ha2 : a ≤ 9223372036854775807) :
    Calls Try.prog 14 #[.slice A n c, .int .i64 a, .int .i64 s] w fun e w' => e = .returned (.tuple #[.int .u64 (getN l n a s : Nat), .int .i64 (getE n a s)]) ∧ w = w' := by
  unfold getN getE
  by_cases h : GetOk n a s
  · obtain ⟨hs, h0, h1⟩ := h
    obtain ⟨k, rfl, hk1, hk8⟩ := hs.nat
    obtain ⟨j, rfl⟩ : ∃ j : Nat, a = (j : Int) := ⟨a.toNat, by omega⟩
    rw [if_pos ⟨hs, h0, h1⟩, if_pos ⟨hs, h0, h1⟩]
    exact refget_ok A n c j k l w hl hb hn hs (by omega)
  · rw [if_neg h, if_neg h]
    exact refget_no A n c a s w hn ha1 ha2 h

set_option maxRecDepth 100000 in
set_option maxHeartbeats 800000 in
theorem law_gets (A : Option Addr) (n c : Nat) (l : List UInt8) (a s : Int) (w : World) (hl : l.length = n) (hb : Bytes w w.heap.size A l) (hcap : n ≤ c ∧ c ≤ maxLen) (ha1 : -9223372036854775808 ≤ a) (ha2 : a ≤ 9223372036854775807) (hs1 : -9223372036854775808 ≤ s) (hs2 : s ≤ 9223372036854775807) :
    Calls Try.prog 3 #[.slice A n c, .int .i64 a, .int .i64 s] w fun e w' => e = .returned (.bool true) ∧ Below w.heap.size w w' := by
  have HL := Lib.hid hl
  have HB := Lib.hid hb
  clear hl hb
  by_cases hbig : 131072 < n
  · go_enter Try.func3, Try.ntmps3
    go_wp2_with fail
    refine (works_any _).mono ?_
    rintro e w1 ⟨rfl, hb1⟩
    go_wp2_with fail
    go_ret
    exact ⟨rfl, hb1⟩
  · go_enter Try.func3, Try.ntmps3
    go_wp2_with fail
    refine (roomy_any A n c l _ HL.out HB.out (by omega)).mono ?_
    rintro e w1 ⟨A1, c1, rfl, hO1, hc1, hb1⟩
    have HO1 := Lib.hid hO1
    have Hb1 := Lib.hid hb1
    clear hO1 hb1
    have HIN : Hid (Bytes w1 w1.heap.size A1 l) := by
      have h := (HO1.out.take n (by omega)).bytes
      rw [List.take_append_of_le_length (by have := HL.out; omega), List.take_of_length_le (by have := HL.out; omega)] at h
      exact h
    go_wp2_with fail
    refine (get_any A1 n c1 a s l _ HL.out HIN.out (by omega) (by omega)).mono ?_
    rintro e w2 ⟨rfl, hb2⟩
    have Hb2 := Lib.hid hb2
    have Hb2' : Hid (Below w.heap.size w w2) := by
      have h := Hb1.out.trans (hb2.mono Hb1.out.size)
      exact h
    clear hb2
    go_wp2_with fail
    refine (refget_any A n c a s l _ HL.out ((HB.out.below Hb2'.out).more Hb2'.out.size) (by omega) ha1 ha2).mono ?_
    rintro e w2' ⟨rfl, rfl⟩
    go_wp2_with fail
    refine (kept_any A1 n c1 A n c l guardL l _ HL.out hc1 ((HO1.out.below Hb2.out).bytes) rfl HL.out ((HB.out.below Hb2'.out).more Hb2'.out.size) (by omega) (by omega)).mono ?_
    rintro e w4 ⟨rfl, hb4⟩
    have hk : (l ++ guardL == l ++ guardL) = true := by simp
    rw [hk]
    go_wp2_with fail
    refine (works_any _).mono ?_
    rintro e w5 ⟨rfl, hb5⟩
    go_wp2_with fail
    go_ret
    have h4 := Hb2'.out.trans (hb4.mono Hb2'.out.size)
    exact ⟨rfl, h4.trans (hb5.mono h4.size)⟩
end Go.Proofs.Ytchfkelafghbdaa
