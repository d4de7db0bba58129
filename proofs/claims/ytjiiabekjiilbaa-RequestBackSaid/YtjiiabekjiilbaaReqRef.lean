/- The document's answers for questions: Read and Write. -/
import Derived.Test.YtjiiabekjiilbaaReqRW
import Derived.Test.YtjiiabekjiilbaaOctRefWrite
import Derived.Deep.Cut
set_option linter.unusedSimpArgs false
set_option linter.unusedVariables false
namespace Go.Proofs.Ytjiiabekjiilbaa
open Go.RowKit Mp

/-- one of three kinds. -/
def Known (k : UInt8) : Prop := k = 1 ∨ k = 2 ∨ k = 3
theorem known_le {k : UInt8} (h : Known k) : 1 ≤ k.toNat ∧ k.toNat ≤ 3 := by rcases h with rfl | rfl | rfl <;> decide
theorem known_not {k : UInt8} (h : ¬ Known k) : k.toNat < 1 ∨ 3 < k.toNat := by
  have hne : ∀ j : UInt8, k ≠ j → k.toNat ≠ j.toNat := fun j h e => h (UInt8.toNat_inj.1 e)
  have hn1 : k.toNat ≠ 1 := hne 1 fun e => h (.inl e)
  have hn2 : k.toNat ≠ 2 := hne 2 fun e => h (.inr (.inl e))
  have hn3 : k.toNat ≠ 3 := hne 3 fun e => h (.inr (.inr e))
  omega
theorem known_yes (k : UInt8) (w : World) (h : Known k) : Calls Try.prog 31 #[.int .u8 (k.toNat : Int)] w fun e w' => e = .returned (.bool true) ∧ w = w' := by
  obtain ⟨h1, h2⟩ := known_le h
  have hd1 : decide ((1 : Int) ≤ (k.toNat : Int)) = true := by simp; omega
  have hd2 : decide ((k.toNat : Int) ≤ 3) = true := by simp; omega
  clear h
  go_enter Try.func31, Try.ntmps31
  go_wp2_with fail
  go_ret
  exact ⟨rfl, rfl⟩
theorem known_no (k : UInt8) (w : World) (h : ¬ Known k) : Calls Try.prog 31 #[.int .u8 (k.toNat : Int)] w fun e w' => e = .returned (.bool false) ∧ w = w' := by
  have hb := k.toNat_lt
  rcases known_not h with h1 | h1
  · clear h
    have h2 : ¬ (1 : Int) ≤ (k.toNat : Int) := by omega
    have hd : decide ((1 : Int) ≤ (k.toNat : Int)) = false := by simpa using h2
    go_enter Try.func31, Try.ntmps31
    go_wp2_with fail
    go_ret
    exact ⟨rfl, rfl⟩
  · clear h
    have h2 : ¬ (k.toNat : Int) ≤ 3 := by omega
    have h3 : (1 : Int) ≤ (k.toNat : Int) := by omega
    have hd : decide ((k.toNat : Int) ≤ 3) = false := by simpa using h2
    go_enter Try.func31, Try.ntmps31
    go_wp2_with fail
    go_ret
    exact ⟨rfl, rfl⟩
theorem refnumber_any (A : Option Addr) (n c a s : Nat) (l : List UInt8) (w : World) (hl : l.length = n) (hb : Bytes w w.heap.size A l) (hn : n ≤ 1099511627776) (hs : Sz s) (ha : a + s ≤ n) :
    Calls Try.prog 32 #[.slice A n c, .int .i64 a, .int .i64 s] w fun e w' => e = .returned (.int .u64 (num l a s : Nat)) ∧ w = w' := by
  have G := Lib.hid (refget_ok A n c a s l w hl hb hn hs ha)
  clear hl hb hs
  generalize num l a s = v at *
  go_enter Try.func32, Try.ntmps32
  go_wp2_with fail
  refine G.out.mono ?_
  rintro e w1 ⟨rfl, rfl⟩
  go_wp2_with fail
  go_ret
  exact ⟨rfl, rfl⟩

set_option maxRecDepth 100000 in
set_option maxHeartbeats 1600000 in
theorem refwrite_any (k : UInt8) (s t : Nat) (w : World) (hs : s ≤ 4294967295) (ht : t ≤ 4294967295) :
    Calls Try.prog 17 #[.agg #[.int .u8 (k.toNat : Int), .int .u32 s, .int .u32 t]] w fun e w' => ∃ A' c', e = .returned (.slice A' 9 c') ∧ OwnB w' w.heap.size 5 A' 9 c' (askL k s t) ∧ Below w.heap.size w w' := by
  have K0 := Blk.new w 25 #[.int .u8 (k.toNat : Int), .int .u32 s, .int .u32 t]
  have q0 : (w.alloc (.cells #[.int .u8 (k.toNat : Int), .int .u32 s, .int .u32 t] 25)).cell? ⟨w.heap.size, 0, none⟩ = some (.int .u8 (k.toNat : Int)) := (K0.cell 0).trans rfl
  have K1 := Lib.hid (K0.alloc (.cells #[.int .u8 (k.toNat : Int)] 5))
  have Z1 : Hid (Below w.heap.size w ((w.alloc (.cells #[.int .u8 (k.toNat : Int), .int .u32 s, .int .u32 t] 25)).alloc (.cells #[.int .u8 (k.toNat : Int)] 5))) := by
    have h : Below w.heap.size w ((w.alloc (.cells #[.int .u8 (k.toNat : Int), .int .u32 s, .int .u32 t] 25)).alloc (.cells #[.int .u8 (k.toNat : Int)] 5)) := ((Below.refl _ _).alloc (Nat.le_refl _) _).alloc (by simp) _
    exact h
  have HB1 : Hid (Bytes ((w.alloc (.cells #[.int .u8 (k.toNat : Int), .int .u32 s, .int .u32 t] 25)).alloc (.cells #[.int .u8 (k.toNat : Int)] 5)) ((w.alloc (.cells #[.int .u8 (k.toNat : Int), .int .u32 s, .int .u32 t] 25)).alloc (.cells #[.int .u8 (k.toNat : Int)] 5)).heap.size (some ⟨w.heap.size + 1, 0, none⟩) [k]) := by
    have h := (bytes_one (w.alloc (.cells #[.int .u8 (k.toNat : Int), .int .u32 s, .int .u32 t] 25)) 5 _ k rfl).more (B' := ((w.alloc (.cells #[.int .u8 (k.toNat : Int), .int .u32 s, .int .u32 t] 25)).alloc (.cells #[.int .u8 (k.toNat : Int)] 5)).heap.size) (by simp)
    rw [show (w.alloc (.cells #[.int .u8 (k.toNat : Int), .int .u32 s, .int .u32 t] 25)).heap.size = w.heap.size + 1 from World.size_alloc _ _] at h
    exact h
  clear K0
  go_enter Try.func17, Try.ntmps17
  go_upto_region 2 with (fail)
  clear q0
  generalize (w.alloc (.cells #[.int .u8 (k.toNat : Int), .int .u32 s, .int .u32 t] 25)).alloc (.cells #[.int .u8 (k.toNat : Int)] 5) = w1 at *
  have q1 : w1.cell? ⟨w.heap.size, 1, none⟩ = some (.int .u32 s) := (K1.out.cell 1).trans rfl
  go_wp2_with fail
  refine (refput_put (some ⟨w.heap.size + 1, 0, none⟩) 1 1 s 4 [k] _ sz4 rfl HB1.out (by omega) (by omega)).mono ?_
  rintro e w2 ⟨A2, c2, rfl, hO2, hb2⟩
  have HO2 := Lib.hid hO2
  have K2 := Lib.hid (K1.out.below hb2 K1.out.lt)
  have Z2 := Lib.hid (Z1.out.trans (hb2.mono Z1.out.size))
  clear hO2 hb2 q1
  have q2 : w2.cell? ⟨w.heap.size, 2, none⟩ = some (.int .u32 t) := (K2.out.cell 2).trans rfl
  go_wp2_with fail
  refine (refput_put A2 5 c2 t 4 ([k] ++ le 4 s) _ sz4 HO2.out.1 HO2.out.bytes (by omega) (by omega)).mono ?_
  rintro e w3 ⟨A3, c3, rfl, hO3, hb3⟩
  have HO3 := Lib.hid (hO3.mono Z2.out.size)
  have Z3 := Lib.hid (Z2.out.trans (hb3.mono Z2.out.size))
  clear hO3 hb3 q2
  go_wp2_with fail
  go_ret
  exact ⟨_, _, rfl, HO3.out, Z3.out⟩

set_option maxRecDepth 100000 in
set_option maxHeartbeats 3200000 in
theorem refread9 (A : Option Addr) (c : Nat) (k : UInt8) (l : List UInt8) (w : World) (hl : l.length = 9) (hk : l[0]? = some k) (hb : Bytes w w.heap.size A l) (hnc : 9 ≤ c) (hkn : Known k) :
    Calls Try.prog 13 #[.slice A 9 c] w fun e w' => e = .returned (.tuple #[.agg #[.int .u8 (k.toNat : Int), .int .u32 (num l 1 4 : Nat), .int .u32 (num l 5 4 : Nat)], .int .i64 0]) ∧ Below w.heap.size w w' := by
  obtain ⟨b, off, rfl, hbB, hcell⟩ := hb.open_ hl (by omega)
  have h0 : l[0]'(by omega) = k := by rw [List.getElem?_eq_getElem (by omega)] at hk; exact Option.some.inj hk
  have hc0 : w.cell? ⟨b, off, none⟩ = some (.int .u8 (k.toNat : Int)) := by have := hcell 0 (by omega); rw [h0] at this; exact this
  have HB := Lib.hid hb
  have HL := Lib.hid hl
  have HKN := Lib.hid hkn
  clear hcell h0 hl hk hb hkn
  have Z0 : Hid (Below w.heap.size w (w.alloc (.cells #[.int .u8 0, .int .u32 0, .int .u32 0] 25))) := by
    have h : Below w.heap.size w (w.alloc (.cells #[.int .u8 0, .int .u32 0, .int .u32 0] 25)) := (Below.refl _ _).alloc (Nat.le_refl _) _
    exact h
  have K0 : Hid (Blk (w.alloc (.cells #[.int .u8 0, .int .u32 0, .int .u32 0] 25)) w.heap.size 25 #[.int .u8 0, .int .u32 0, .int .u32 0]) := Lib.hid (Blk.new _ _ _)
  have hcc : (w.alloc (.cells #[.int .u8 0, .int .u32 0, .int .u32 0] 25)).cell? ⟨b, off, none⟩ = some (.int .u8 (k.toNat : Int)) := (Z0.out.cell (p := ⟨b, off, none⟩) hbB).trans hc0
  have HC : Hid (∀ W, Since (w.alloc (.cells #[.int .u8 0, .int .u32 0, .int .u32 0] 25)) W → (W.cell? ⟨b, off, none⟩ = some (.int .u8 (k.toNat : Int)) ∧ Since (w.alloc (.cells #[.int .u8 0, .int .u32 0, .int .u32 0] 25)) W)) := by
    have h : ∀ W, Since (w.alloc (.cells #[.int .u8 0, .int .u32 0, .int .u32 0] 25)) W → (W.cell? ⟨b, off, none⟩ = some (.int .u8 (k.toNat : Int)) ∧ Since (w.alloc (.cells #[.int .u8 0, .int .u32 0, .int .u32 0] 25)) W) := fun W hS => by
      have hz : Below w.heap.size w W := Below.trans Z0.out (Below.mono hS Z0.out.size)
      exact ⟨(hz.cell (p := ⟨b, off, none⟩) hbB).trans hc0, hS⟩
    exact h
  clear hc0
  go_enter Try.func13, Try.ntmps13
  go_wp2_with fail
  generalize w.alloc (.cells #[.int .u8 0, .int .u32 0, .int .u32 0] 25) = w0 at *
  refine (known_yes k _ HKN.out).mono ?_
  rintro e w0' ⟨rfl, rfl⟩
  go_wp2_with fail
  have hst := Since.refl w0
  have hst1 := Since.drew hst
  have PN : Hid (∀ W (a : Nat), Since w0 W → a + 4 ≤ 9 → Calls Try.prog 32 #[.slice (some ⟨b, off, none⟩) 9 c, .int .i64 a, .int .i64 4] W fun e w' => e = .returned (.int .u64 (num l a 4 : Nat)) ∧ W = w') := by
    have h : ∀ W (a : Nat), Since w0 W → a + 4 ≤ 9 → Calls Try.prog 32 #[.slice (some ⟨b, off, none⟩) 9 c, .int .i64 a, .int .i64 4] W fun e w' => e = .returned (.int .u64 (num l a 4 : Nat)) ∧ W = w' := fun W a hS ha =>
      refnumber_any (some ⟨b, off, none⟩) 9 c a 4 l W HL.out ((((HB.out.below Z0.out).more Z0.out.size).below hS).more (Below.size hS)) (by omega) sz4 ha
    exact h
  have P1 : Hid (∀ W, Since w0 W → Calls Try.prog 32 #[.slice (some ⟨b, off, none⟩) 9 c, .int .i64 1, .int .i64 4] W fun e w' => e = .returned (.int .u64 (num l 1 4 : Nat)) ∧ W = w') := fun W hS => PN.out W 1 hS (by omega)
  have P5 : Hid (∀ W, Since w0 W → Calls Try.prog 32 #[.slice (some ⟨b, off, none⟩) 9 c, .int .i64 5, .int .i64 4] W fun e w' => e = .returned (.int .u64 (num l 5 4 : Nat)) ∧ W = w') := fun W hS => PN.out W 5 hS (by omega)
  have n1 := num32 l 1
  have n5 := num32 l 5
  obtain ⟨x1, hx1⟩ : ∃ x, x = num l 1 4 := ⟨_, rfl⟩
  obtain ⟨x5, hx5⟩ : ∃ x, x = num l 5 4 := ⟨_, rfl⟩
  rw [← hx1] at n1 P1
  rw [← hx5] at n5 P5
  have HX1 := Lib.hid hx1
  have HX5 := Lib.hid hx5
  clear hx1 hx5
  have hw1 : IntKind.u32.wrap (x1 : Int) = (x1 : Int) := IntWalk.u32_in _ (by omega)
  have hw5 : IntKind.u32.wrap (x5 : Int) = (x5 : Int) := IntWalk.u32_in _ (by omega)
  have f0 := K0.out.frozen 0
  have g0 := (K0.out.cell 0).trans rfl
  have f1 := K0.out.frozen 1
  have g1 := (K0.out.cell 1).trans rfl
  have f2 := K0.out.frozen 2
  have g2 := (K0.out.cell 2).trans rfl
  go_region_with (first | (go_at_call 32; (with_reducible refine Calls.mono (P1.out _ ?_) ?_); (first | exact hst1 | exact hst); rintro e wa ⟨rfl, rfl⟩) | (go_at_call 32; (with_reducible refine Calls.mono (P5.out _ ?_) ?_); (first | exact hst1 | exact hst); rintro e wb ⟨rfl, rfl⟩))
  all_goals
    go_wp2_with fail
    refine bodyPost_ret (resCT rfl _ _ w.heap.size 25 #[.int .u8 (k.toNat : Int), .int .u32 x1, .int .u32 x5] _ rfl ?_ Try.underlying25 rfl (by kernel_rfl)) rfl ⟨by rw [HX1.out, HX5.out]; rfl, ?_⟩
    · exact (((K0.out.drew).set_ 0 (.int .u8 (k.toNat : Int))).set_ 1 (.int .u32 x1)).set_ 2 (.int .u32 x5)
    · exact (((Z0.out.drew).setCell (p := ⟨w.heap.size, 0, none⟩) (Nat.le_refl _) (.int .u8 (k.toNat : Int))).setCell (p := ⟨w.heap.size, 1, none⟩) (Nat.le_refl _) (.int .u32 x1)).setCell (p := ⟨w.heap.size, 2, none⟩) (Nat.le_refl _) (.int .u32 x5)

set_option maxRecDepth 100000 in
theorem refread_no (A : Option Addr) (c : Nat) (k : UInt8) (l : List UInt8) (w : World) (hl : l.length = 9) (hk : l[0]? = some k) (hb : Bytes w w.heap.size A l) (hnc : 9 ≤ c) (hkn : ¬ Known k) :
    Calls Try.prog 13 #[.slice A 9 c] w fun e w' => e = .returned (.tuple #[.agg #[.int .u8 0, .int .u32 0, .int .u32 0], .int .i64 8]) ∧ Below w.heap.size w w' := by
  obtain ⟨b, off, rfl, hbB, hcell⟩ := hb.open_ hl (by omega)
  have h0 : l[0]'(by omega) = k := by rw [List.getElem?_eq_getElem (by omega)] at hk; exact Option.some.inj hk
  have hc0 : w.cell? ⟨b, off, none⟩ = some (.int .u8 (k.toNat : Int)) := by have := hcell 0 (by omega); rw [h0] at this; exact this
  have HKN := Lib.hid hkn
  have Z0 : Below w.heap.size w (w.alloc (.cells #[.int .u8 0, .int .u32 0, .int .u32 0] 25)) := (Below.refl _ _).alloc (Nat.le_refl _) _
  have hcc : (w.alloc (.cells #[.int .u8 0, .int .u32 0, .int .u32 0] 25)).cell? ⟨b, off, none⟩ = some (.int .u8 (k.toNat : Int)) := (Z0.cell (p := ⟨b, off, none⟩) hbB).trans hc0
  have KH := Lib.hid (Blk.new w 25 #[.int .u8 0, .int .u32 0, .int .u32 0])
  clear hcell h0 hl hk hb hkn Z0 hc0
  go_enter Try.func13, Try.ntmps13
  go_wp2_with fail
  refine (known_no k _ HKN.out).mono ?_
  rintro e w0' ⟨rfl, rfl⟩
  go_wp2_with fail
  refine bodyPost_ret (resCT rfl _ _ w.heap.size 25 #[.int .u8 0, .int .u32 0, .int .u32 0] _ rfl KH.out Try.underlying25 rfl (by kernel_rfl)) rfl ⟨rfl, ?_⟩
  exact (Below.refl _ _).alloc (Nat.le_refl _) _
theorem refread_short (A : Option Addr) (n c : Nat) (w : World) (hn : n ≠ 9) (hn2 : n ≤ 1099511627776) :
    Calls Try.prog 13 #[.slice A n c] w fun e w' => e = .returned (.tuple #[.agg #[.int .u8 0, .int .u32 0, .int .u32 0], .int .i64 8]) ∧ Below w.heap.size w w' := by
  have hd : ((n : Int) != 9) = true := by simp; omega
  have hd2 : ((n : Int) == 9) = false := by simp; omega
  have KH := Lib.hid (Blk.new w 25 #[.int .u8 0, .int .u32 0, .int .u32 0])
  go_enter Try.func13, Try.ntmps13
  go_wp2_with fail
  refine bodyPost_ret (resCT rfl _ _ w.heap.size 25 #[.int .u8 0, .int .u32 0, .int .u32 0] _ rfl KH.out Try.underlying25 rfl (by kernel_rfl)) rfl ⟨rfl, ?_⟩
  exact (Below.refl _ _).alloc (Nat.le_refl _) _
theorem refread_ans (A : Option Addr) (n c : Nat) (l : List UInt8) (K S T : Nat) (E : Int) (w : World) (hA : AskAns l K S T E) (hl : l.length = n) (hb : Bytes w w.heap.size A l) (hn2 : n ≤ 1099511627776) (hnc : n ≤ c) :
    Calls Try.prog 13 #[.slice A n c] w fun e w' => e = .returned (.tuple #[.agg #[.int .u8 K, .int .u32 S, .int .u32 T], .int .i64 E]) ∧ Below w.heap.size w w' := by
  by_cases h9 : n = 9
  · subst h9
    obtain ⟨k, hk⟩ : ∃ k, l[0]? = some k := ⟨_, List.getElem?_eq_getElem (by omega)⟩
    by_cases hkk : Known k
    · rcases hA with ⟨k', ⟨_, h2, _⟩, rfl, rfl, rfl, rfl⟩ | ⟨h, _⟩
      · rw [hk] at h2
        obtain rfl := Option.some.inj h2
        exact refread9 A c k l w hl hk hb hnc hkk
      · exact absurd ⟨hl, hk, hkk⟩ (h k)
    · rcases hA with ⟨k', ⟨_, h2, h3⟩, _⟩ | ⟨_, rfl, rfl, rfl, rfl⟩
      · rw [hk] at h2
        obtain rfl := Option.some.inj h2
        exact absurd h3 hkk
      · exact refread_no A c k l w hl hk hb hnc hkk
  · rcases hA with ⟨k', ⟨h1, _⟩, _⟩ | ⟨_, rfl, rfl, rfl, rfl⟩
    · exact absurd (hl.symm.trans h1) h9
    · exact refread_short A n c w h9 hn2
end Go.Proofs.Ytjiiabekjiilbaa
