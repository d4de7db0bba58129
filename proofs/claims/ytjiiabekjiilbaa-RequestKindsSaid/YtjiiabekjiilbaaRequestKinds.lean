/- RequestKinds: a question has nine bytes, and is one of three kinds. -/
import Derived.Test.YtjiiabekjiilbaaReqWorks
import Derived.Deep.Cut
set_option linter.unusedSimpArgs false
set_option linter.unusedVariables false
namespace Go.Proofs.Ytjiiabekjiilbaa
open Go.RowKit Mp

set_option maxRecDepth 100000 in
set_option maxHeartbeats 6400000 in
theorem law_kinds (k s t : Nat) (A2 : Option Addr) (n2 c2 : Nat) (l2 : List UInt8) (w : World) (hk : k ≤ 255) (hs : s ≤ 4294967295) (ht : t ≤ 4294967295) (hl2 : l2.length = n2) (hb2 : Bytes w w.heap.size A2 l2) (hcap2 : n2 ≤ c2 ∧ c2 ≤ maxLen) :
    Calls Try.prog 9 #[.agg #[.int .u8 k, .int .u32 s, .int .u32 t], .slice A2 n2 c2] w fun e w' => e = .returned (.bool true) ∧ Below w.heap.size w w' := by
  obtain ⟨i0, hi0, hz0, hz1, hz2⟩ := info_parts info_u8
  have HL2 := Lib.hid hl2
  have HB2 := Lib.hid hb2
  clear hl2 hb2
  obtain ⟨kb, rfl⟩ : ∃ kb : UInt8, k = kb.toNat := ⟨UInt8.ofNat k, by simp; omega⟩
  have Z0 : Hid (Below w.heap.size w (w.alloc (.cells #[.int .u8 (kb.toNat : Int), .int .u32 s, .int .u32 t] 25))) := by
    have h : Below w.heap.size w (w.alloc (.cells #[.int .u8 (kb.toNat : Int), .int .u32 s, .int .u32 t] 25)) := (Below.refl _ _).alloc (Nat.le_refl _) _
    exact h
  have K0 : Hid (Blk (w.alloc (.cells #[.int .u8 (kb.toNat : Int), .int .u32 s, .int .u32 t] 25)) w.heap.size 25 #[.int .u8 (kb.toNat : Int), .int .u32 s, .int .u32 t]) := Lib.hid (Blk.new _ _ _)
  go_enter Try.func9, Try.ntmps9
  go_upto_region 1 with (fail)
  generalize w.alloc (.cells #[.int .u8 (kb.toNat : Int), .int .u32 s, .int .u32 t] 25) = w0 at *
  by_cases hbig : 1024 < n2
  · go_wp2_with fail
    refine (works_any _).mono ?_
    rintro e w1 ⟨rfl, hb1⟩
    go_wp2_with fail
    go_ret
    exact ⟨rfl, Z0.out.trans (hb1.mono Z0.out.size)⟩
  have p0 : w0.cell? ⟨w.heap.size, 0, none⟩ = some (.int .u8 (kb.toNat : Int)) := (K0.out.cell 0).trans rfl
  have p1 : w0.cell? ⟨w.heap.size, 1, none⟩ = some (.int .u32 s) := (K0.out.cell 1).trans rfl
  have p2 : w0.cell? ⟨w.heap.size, 2, none⟩ = some (.int .u32 t) := (K0.out.cell 2).trans rfl
  go_wp2_with fail
  refine (write_any kb s t _ hs ht).mono ?_
  rintro e w1 ⟨A1, c1, rfl, hO1, hb1⟩
  have hc1 : (8 : Int) ≤ (c1 : Int) := by have := hO1.2.1; omega
  have HO1 := Lib.hid (hO1.mono Z0.out.size)
  have K1 := Lib.hid (K0.out.below hb1 K0.out.lt)
  have Z1 := Lib.hid (Z0.out.trans (hb1.mono Z0.out.size))
  clear hO1 hb1 p0 p1 p2
  by_cases hkn : kb = 1 ∨ kb = 2 ∨ kb = 3
  · have HANS : Hid (AskAns (askL kb s t) kb.toNat s t 0) := Lib.hid (ask_ans kb s t hkn hs ht)
    have hge : (1 : Int) ≤ (kb.toNat : Int) := by rcases hkn with rfl | rfl | rfl <;> decide
    have hle : (kb.toNat : Int) ≤ 3 := by rcases hkn with rfl | rfl | rfl <;> decide
    clear hkn
    go_wp2_with fail
    refine (read_ans A1 9 c1 (askL kb s t) kb.toNat s t 0 _ HANS.out HO1.out.1 HO1.out.bytes (by omega) HO1.out.2.1).mono ?_
    rintro e w2 ⟨rfl, hb2⟩
    have K2 := Lib.hid ((K1.out.below hb2 K1.out.lt).alloc (.cells #[.int .u8 (kb.toNat : Int), .int .u32 s, .int .u32 t] 25))
    have X2 := Lib.hid (Blk.new w2 25 #[.int .u8 (kb.toNat : Int), .int .u32 s, .int .u32 t])
    have HO2 := Lib.hid ((HO1.out.below hb2).alloc (.cells #[.int .u8 (kb.toNat : Int), .int .u32 s, .int .u32 t] 25))
    have Z2 : Hid (Below w.heap.size w (w2.alloc (.cells #[.int .u8 (kb.toNat : Int), .int .u32 s, .int .u32 t] 25))) := by
      have h0 := Z1.out.trans (hb2.mono Z1.out.size)
      have h := h0.alloc h0.size (.cells #[.int .u8 (kb.toNat : Int), .int .u32 s, .int .u32 t] 25)
      exact h
    clear hb2
    go_upto_region 5 with (fail)
    generalize hg2 : w2.alloc (.cells #[.int .u8 (kb.toNat : Int), .int .u32 s, .int .u32 t] 25) = w3 at *
    clear hg2
    have p0 : w3.cell? ⟨w.heap.size, 0, none⟩ = some (.int .u8 (kb.toNat : Int)) := (K2.out.cell 0).trans rfl
    have p1 : w3.cell? ⟨w.heap.size, 1, none⟩ = some (.int .u32 s) := (K2.out.cell 1).trans rfl
    have p2 : w3.cell? ⟨w.heap.size, 2, none⟩ = some (.int .u32 t) := (K2.out.cell 2).trans rfl
    have x0 : w3.cell? ⟨w2.heap.size, 0, none⟩ = some (.int .u8 (kb.toNat : Int)) := (X2.out.cell 0).trans rfl
    have x1 : w3.cell? ⟨w2.heap.size, 1, none⟩ = some (.int .u32 s) := (X2.out.cell 1).trans rfl
    have x2 : w3.cell? ⟨w2.heap.size, 2, none⟩ = some (.int .u32 t) := (X2.out.cell 2).trans rfl
    go_wp2_with fail
    refine (read_short A1 8 c1 _ (by omega) (by omega)).mono ?_
    rintro e w4 ⟨rfl, hb4⟩
    clear p0 p1 p2 x0 x1 x2
    have HO4 := Lib.hid ((HO2.out.below hb4).alloc (.cells #[.int .u8 0, .int .u32 0, .int .u32 0] 25))
    have Z4 : Hid (Below w.heap.size w (w4.alloc (.cells #[.int .u8 0, .int .u32 0, .int .u32 0] 25))) := by
      have h0 := Z2.out.trans (hb4.mono Z2.out.size)
      have h := h0.alloc h0.size (.cells #[.int .u8 0, .int .u32 0, .int .u32 0] 25)
      exact h
    clear hb4
    go_upto_region 8 with (fail)
    generalize hg4 : w4.alloc (.cells #[.int .u8 0, .int .u32 0, .int .u32 0] 25) = w5 at *
    clear hg4
    go_wp2_with (at_builtin; refine wpList_append_b rfl (.tmp 67) (.tmp 68) _ rfl 5 i0 Try.underlying22 hi0 hz0 hz1 hz2 rfl HO4.out rfl ((HB2.out.below Z4.out).more Z4.out.size) HL2.out (by omega) Z4.out.size ?_; intro A6 c6 w6 hO6 hg6 hd6; have HO6 := Lib.hid hO6; have Z6 := Lib.hid (below_grown Z4.out HO4.out hg6 Z4.out.size); clear hO6 hg6 hd6)
    by_cases hz : n2 = 0
    · subst hz
      have HNIL : Hid (askL kb s t ++ l2 = askL kb s t) := by
        have h : askL kb s t ++ l2 = askL kb s t := by rw [List.eq_nil_of_length_eq_zero HL2.out, List.append_nil]
        exact h
      refine (read_ans A6 9 c6 (askL kb s t ++ l2) kb.toNat s t 0 _ (by rw [HNIL.out]; exact HANS.out) HO6.out.1 HO6.out.bytes (by omega) HO6.out.2.1).mono ?_
      rintro e w7 ⟨rfl, hb7⟩
      have Z7 : Hid (Below w.heap.size w (w7.alloc (.cells #[.int .u8 (kb.toNat : Int), .int .u32 s, .int .u32 t] 25))) := by
        have h0 := Z6.out.trans (hb7.mono Z6.out.size)
        have h := h0.alloc h0.size (.cells #[.int .u8 (kb.toNat : Int), .int .u32 s, .int .u32 t] 25)
        exact h
      clear hb7
      go_wp2_with fail
      refine (works_any _).mono ?_
      rintro e w8 ⟨rfl, hb8⟩
      go_wp2_with fail
      go_ret
      exact ⟨rfl, Z7.out.trans (hb8.mono Z7.out.size)⟩
    · have hd : ((n2 : Int) == 0) = false := by simp; omega
      refine (read_short A6 (9 + n2) c6 _ (by omega) (by omega)).mono ?_
      rintro e w7 ⟨rfl, hb7⟩
      have Z7 : Hid (Below w.heap.size w (w7.alloc (.cells #[.int .u8 0, .int .u32 0, .int .u32 0] 25))) := by
        have h0 := Z6.out.trans (hb7.mono Z6.out.size)
        have h := h0.alloc h0.size (.cells #[.int .u8 0, .int .u32 0, .int .u32 0] 25)
        exact h
      clear hb7 hz
      go_wp2_with fail
      refine (works_any _).mono ?_
      rintro e w8 ⟨rfl, hb8⟩
      go_wp2_with fail
      go_ret
      exact ⟨rfl, Z7.out.trans (hb8.mono Z7.out.size)⟩
  · have hne : ∀ j : UInt8, kb ≠ j → kb.toNat ≠ j.toNat := fun j h e => h (UInt8.toNat_inj.1 e)
    have hn1 : kb.toNat ≠ 1 := hne 1 fun e => hkn (.inl e)
    have hn2' : kb.toNat ≠ 2 := hne 2 fun e => hkn (.inr (.inl e))
    have hn3 : kb.toNat ≠ 3 := hne 3 fun e => hkn (.inr (.inr e))
    by_cases hlow : kb.toNat < 1
    · have HANS : Hid (AskAns (askL kb s t) 0 0 0 8) := Lib.hid (ask_not kb s t hkn)
      have hge : ¬ (1 : Int) ≤ (kb.toNat : Int) := by omega
      clear hne hn1 hn2' hn3
      clear hkn
      go_wp2_with fail
      refine (read_ans A1 9 c1 (askL kb s t) 0 0 0 8 _ HANS.out HO1.out.1 HO1.out.bytes (by omega) HO1.out.2.1).mono ?_
      rintro e w2 ⟨rfl, hb2⟩
      have K2 := Lib.hid ((K1.out.below hb2 K1.out.lt).alloc (.cells #[.int .u8 0, .int .u32 0, .int .u32 0] 25))
      have X2 := Lib.hid (Blk.new w2 25 #[.int .u8 0, .int .u32 0, .int .u32 0])
      have HO2 := Lib.hid ((HO1.out.below hb2).alloc (.cells #[.int .u8 0, .int .u32 0, .int .u32 0] 25))
      have Z2 : Hid (Below w.heap.size w (w2.alloc (.cells #[.int .u8 0, .int .u32 0, .int .u32 0] 25))) := by
        have h0 := Z1.out.trans (hb2.mono Z1.out.size)
        have h := h0.alloc h0.size (.cells #[.int .u8 0, .int .u32 0, .int .u32 0] 25)
        exact h
      clear hb2
      go_upto_region 5 with (fail)
      generalize hg2 : w2.alloc (.cells #[.int .u8 0, .int .u32 0, .int .u32 0] 25) = w3 at *
      clear hg2
      have p0 : w3.cell? ⟨w.heap.size, 0, none⟩ = some (.int .u8 (kb.toNat : Int)) := (K2.out.cell 0).trans rfl
      have p1 : w3.cell? ⟨w.heap.size, 1, none⟩ = some (.int .u32 s) := (K2.out.cell 1).trans rfl
      have p2 : w3.cell? ⟨w.heap.size, 2, none⟩ = some (.int .u32 t) := (K2.out.cell 2).trans rfl
      have x0 : w3.cell? ⟨w2.heap.size, 0, none⟩ = some (.int .u8 0) := (X2.out.cell 0).trans rfl
      have x1 : w3.cell? ⟨w2.heap.size, 1, none⟩ = some (.int .u32 0) := (X2.out.cell 1).trans rfl
      have x2 : w3.cell? ⟨w2.heap.size, 2, none⟩ = some (.int .u32 0) := (X2.out.cell 2).trans rfl
      go_wp2_with fail
      refine (read_short A1 8 c1 _ (by omega) (by omega)).mono ?_
      rintro e w4 ⟨rfl, hb4⟩
      clear p0 p1 p2 x0 x1 x2
      have HO4 := Lib.hid ((HO2.out.below hb4).alloc (.cells #[.int .u8 0, .int .u32 0, .int .u32 0] 25))
      have Z4 : Hid (Below w.heap.size w (w4.alloc (.cells #[.int .u8 0, .int .u32 0, .int .u32 0] 25))) := by
        have h0 := Z2.out.trans (hb4.mono Z2.out.size)
        have h := h0.alloc h0.size (.cells #[.int .u8 0, .int .u32 0, .int .u32 0] 25)
        exact h
      clear hb4
      go_upto_region 8 with (fail)
      generalize hg4 : w4.alloc (.cells #[.int .u8 0, .int .u32 0, .int .u32 0] 25) = w5 at *
      clear hg4
      go_wp2_with (at_builtin; refine wpList_append_b rfl (.tmp 67) (.tmp 68) _ rfl 5 i0 Try.underlying22 hi0 hz0 hz1 hz2 rfl HO4.out rfl ((HB2.out.below Z4.out).more Z4.out.size) HL2.out (by omega) Z4.out.size ?_; intro A6 c6 w6 hO6 hg6 hd6; have HO6 := Lib.hid hO6; have Z6 := Lib.hid (below_grown Z4.out HO4.out hg6 Z4.out.size); clear hO6 hg6 hd6)
      by_cases hz : n2 = 0
      · subst hz
        have HNIL : Hid (askL kb s t ++ l2 = askL kb s t) := by
          have h : askL kb s t ++ l2 = askL kb s t := by rw [List.eq_nil_of_length_eq_zero HL2.out, List.append_nil]
          exact h
        refine (read_ans A6 9 c6 (askL kb s t ++ l2) 0 0 0 8 _ (by rw [HNIL.out]; exact HANS.out) HO6.out.1 HO6.out.bytes (by omega) HO6.out.2.1).mono ?_
        rintro e w7 ⟨rfl, hb7⟩
        have Z7 : Hid (Below w.heap.size w (w7.alloc (.cells #[.int .u8 0, .int .u32 0, .int .u32 0] 25))) := by
          have h0 := Z6.out.trans (hb7.mono Z6.out.size)
          have h := h0.alloc h0.size (.cells #[.int .u8 0, .int .u32 0, .int .u32 0] 25)
          exact h
        clear hb7
        go_wp2_with fail
        refine (works_any _).mono ?_
        rintro e w8 ⟨rfl, hb8⟩
        go_wp2_with fail
        go_ret
        exact ⟨rfl, Z7.out.trans (hb8.mono Z7.out.size)⟩
      · have hd : ((n2 : Int) == 0) = false := by simp; omega
        refine (read_short A6 (9 + n2) c6 _ (by omega) (by omega)).mono ?_
        rintro e w7 ⟨rfl, hb7⟩
        have Z7 : Hid (Below w.heap.size w (w7.alloc (.cells #[.int .u8 0, .int .u32 0, .int .u32 0] 25))) := by
          have h0 := Z6.out.trans (hb7.mono Z6.out.size)
          have h := h0.alloc h0.size (.cells #[.int .u8 0, .int .u32 0, .int .u32 0] 25)
          exact h
        clear hb7 hz
        go_wp2_with fail
        refine (works_any _).mono ?_
        rintro e w8 ⟨rfl, hb8⟩
        go_wp2_with fail
        go_ret
        exact ⟨rfl, Z7.out.trans (hb8.mono Z7.out.size)⟩
    · have HANS : Hid (AskAns (askL kb s t) 0 0 0 8) := Lib.hid (ask_not kb s t hkn)
      have hge : (1 : Int) ≤ (kb.toNat : Int) := by omega
      have hle : ¬ (kb.toNat : Int) ≤ 3 := by omega
      clear hne hn1 hn2' hn3
      clear hkn
      go_wp2_with fail
      refine (read_ans A1 9 c1 (askL kb s t) 0 0 0 8 _ HANS.out HO1.out.1 HO1.out.bytes (by omega) HO1.out.2.1).mono ?_
      rintro e w2 ⟨rfl, hb2⟩
      have K2 := Lib.hid ((K1.out.below hb2 K1.out.lt).alloc (.cells #[.int .u8 0, .int .u32 0, .int .u32 0] 25))
      have X2 := Lib.hid (Blk.new w2 25 #[.int .u8 0, .int .u32 0, .int .u32 0])
      have HO2 := Lib.hid ((HO1.out.below hb2).alloc (.cells #[.int .u8 0, .int .u32 0, .int .u32 0] 25))
      have Z2 : Hid (Below w.heap.size w (w2.alloc (.cells #[.int .u8 0, .int .u32 0, .int .u32 0] 25))) := by
        have h0 := Z1.out.trans (hb2.mono Z1.out.size)
        have h := h0.alloc h0.size (.cells #[.int .u8 0, .int .u32 0, .int .u32 0] 25)
        exact h
      clear hb2
      go_upto_region 5 with (fail)
      generalize hg2 : w2.alloc (.cells #[.int .u8 0, .int .u32 0, .int .u32 0] 25) = w3 at *
      clear hg2
      have p0 : w3.cell? ⟨w.heap.size, 0, none⟩ = some (.int .u8 (kb.toNat : Int)) := (K2.out.cell 0).trans rfl
      have p1 : w3.cell? ⟨w.heap.size, 1, none⟩ = some (.int .u32 s) := (K2.out.cell 1).trans rfl
      have p2 : w3.cell? ⟨w.heap.size, 2, none⟩ = some (.int .u32 t) := (K2.out.cell 2).trans rfl
      have x0 : w3.cell? ⟨w2.heap.size, 0, none⟩ = some (.int .u8 0) := (X2.out.cell 0).trans rfl
      have x1 : w3.cell? ⟨w2.heap.size, 1, none⟩ = some (.int .u32 0) := (X2.out.cell 1).trans rfl
      have x2 : w3.cell? ⟨w2.heap.size, 2, none⟩ = some (.int .u32 0) := (X2.out.cell 2).trans rfl
      go_wp2_with fail
      refine (read_short A1 8 c1 _ (by omega) (by omega)).mono ?_
      rintro e w4 ⟨rfl, hb4⟩
      clear p0 p1 p2 x0 x1 x2
      have HO4 := Lib.hid ((HO2.out.below hb4).alloc (.cells #[.int .u8 0, .int .u32 0, .int .u32 0] 25))
      have Z4 : Hid (Below w.heap.size w (w4.alloc (.cells #[.int .u8 0, .int .u32 0, .int .u32 0] 25))) := by
        have h0 := Z2.out.trans (hb4.mono Z2.out.size)
        have h := h0.alloc h0.size (.cells #[.int .u8 0, .int .u32 0, .int .u32 0] 25)
        exact h
      clear hb4
      go_upto_region 8 with (fail)
      generalize hg4 : w4.alloc (.cells #[.int .u8 0, .int .u32 0, .int .u32 0] 25) = w5 at *
      clear hg4
      go_wp2_with (at_builtin; refine wpList_append_b rfl (.tmp 67) (.tmp 68) _ rfl 5 i0 Try.underlying22 hi0 hz0 hz1 hz2 rfl HO4.out rfl ((HB2.out.below Z4.out).more Z4.out.size) HL2.out (by omega) Z4.out.size ?_; intro A6 c6 w6 hO6 hg6 hd6; have HO6 := Lib.hid hO6; have Z6 := Lib.hid (below_grown Z4.out HO4.out hg6 Z4.out.size); clear hO6 hg6 hd6)
      by_cases hz : n2 = 0
      · subst hz
        have HNIL : Hid (askL kb s t ++ l2 = askL kb s t) := by
          have h : askL kb s t ++ l2 = askL kb s t := by rw [List.eq_nil_of_length_eq_zero HL2.out, List.append_nil]
          exact h
        refine (read_ans A6 9 c6 (askL kb s t ++ l2) 0 0 0 8 _ (by rw [HNIL.out]; exact HANS.out) HO6.out.1 HO6.out.bytes (by omega) HO6.out.2.1).mono ?_
        rintro e w7 ⟨rfl, hb7⟩
        have Z7 : Hid (Below w.heap.size w (w7.alloc (.cells #[.int .u8 0, .int .u32 0, .int .u32 0] 25))) := by
          have h0 := Z6.out.trans (hb7.mono Z6.out.size)
          have h := h0.alloc h0.size (.cells #[.int .u8 0, .int .u32 0, .int .u32 0] 25)
          exact h
        clear hb7
        go_wp2_with fail
        refine (works_any _).mono ?_
        rintro e w8 ⟨rfl, hb8⟩
        go_wp2_with fail
        go_ret
        exact ⟨rfl, Z7.out.trans (hb8.mono Z7.out.size)⟩
      · have hd : ((n2 : Int) == 0) = false := by simp; omega
        refine (read_short A6 (9 + n2) c6 _ (by omega) (by omega)).mono ?_
        rintro e w7 ⟨rfl, hb7⟩
        have Z7 : Hid (Below w.heap.size w (w7.alloc (.cells #[.int .u8 0, .int .u32 0, .int .u32 0] 25))) := by
          have h0 := Z6.out.trans (hb7.mono Z6.out.size)
          have h := h0.alloc h0.size (.cells #[.int .u8 0, .int .u32 0, .int .u32 0] 25)
          exact h
        clear hb7 hz
        go_wp2_with fail
        refine (works_any _).mono ?_
        rintro e w8 ⟨rfl, hb8⟩
        go_wp2_with fail
        go_ret
        exact ⟨rfl, Z7.out.trans (hb8.mono Z7.out.size)⟩
end Go.Proofs.Ytjiiabekjiilbaa
