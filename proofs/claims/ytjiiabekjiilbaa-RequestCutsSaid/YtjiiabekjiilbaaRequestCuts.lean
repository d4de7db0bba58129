/- RequestCuts: an answer that is cut, or has more behind it, is refused. -/
import Derived.Test.YtjiiabekjiilbaaReqAcc
import Derived.Test.YtjiiabekjiilbaaReqWorks
import Derived.Deep.Cut
set_option linter.unusedSimpArgs false
set_option linter.unusedVariables false
namespace Go.Proofs.Ytjiiabekjiilbaa
open Go.RowKit Mp

set_option maxRecDepth 100000 in
set_option maxHeartbeats 6400000 in
theorem law_rcuts (k : Nat) (err : Int) (fd : Bool) (ds : Nat) (A : Option Addr) (n c : Nat) (ws : List Ed) (st : Nat) (cut : Int) (w : World) (hk : k ≤ 255) (herr : -9223372036854775808 ≤ err ∧ err ≤ 9223372036854775807) (hds : ds ≤ 18446744073709551615) (hst : st ≤ 255)
    (hway : ws.length = n ∧ WayAt w w.heap.size A ws ∧ n ≤ c ∧ c ≤ maxLen ∧ ∀ x ∈ ws, x.ok) (hc1 : -9223372036854775808 ≤ cut) (hc2 : cut ≤ 9223372036854775807) :
    Calls Try.prog 8 #[.int .u8 k, .agg (repC err fd ds (.slice A n c) st), .int .i64 cut] w fun e w' => e = .returned (.bool true) ∧ Below w.heap.size w w' := by
  obtain ⟨i0, hi0, hz0, hz1, hz2⟩ := info_parts info_u8
  obtain ⟨hws, hW, hnc, hcm, hok⟩ := hway
  obtain ⟨eb, heb⟩ := low_byte err
  have HWS := Lib.hid hws
  have HOK := Lib.hid hok
  have HEB := Lib.hid heb
  have hnm : n ≤ 9223372036854775807 := by simp only [maxLen] at hcm; omega
  have K0 := Lib.hid (Blk.new w 37 (repC err fd ds (.slice A n c) st))
  have Z0 : Hid (Below w.heap.size w (w.alloc (.cells (repC err fd ds (.slice A n c) st) 37))) := (Below.refl w.heap.size w).alloc (Nat.le_refl _) _
  have HW := Lib.hid (hW.below Z0.out (Nat.le_refl _))
  clear hws hW hok hcm heb
  go_enter Try.func8, Try.ntmps8
  by_cases hout : 256 < n ∨ k < 1 ∨ 3 < k
  · unfold repC at *
    have hT : (256 : Int) < (n : Int) ∨ ((n : Int) ≤ 256 ∧ (k : Int) < 1) ∨ ((n : Int) ≤ 256 ∧ (1 : Int) ≤ (k : Int) ∧ (3 : Int) < (k : Int)) := by omega
    clear hout
    rcases hT with hT | ⟨hT, hT2⟩ | ⟨hT, hT2, hT3⟩
    all_goals
      go_wp2_with fail
      refine (works_any _).mono ?_
      rintro e w1 ⟨rfl, hb1⟩
      go_wp2_with fail
      go_ret
      exact ⟨rfl, Z0.out.trans (hb1.mono Z0.out.size)⟩
  · have hn : n ≤ 256 := by omega
    have hnI : (n : Int) ≤ 256 := by omega
    have hkl : (1 : Int) ≤ (k : Int) := by omega
    have hkh : (k : Int) ≤ 3 := by omega
    have HK : Hid (k = 1 ∨ k = 2 ∨ k = 3) := by
      have h : k = 1 ∨ k = 2 ∨ k = 3 := by omega
      exact h
    clear hout hnm
    unfold repC at *
    go_upto_region 3 with (fail)
    generalize hg0 : w.alloc (.cells _ 37) = w0 at *
    clear hg0
    have p0 : w0.cell? ⟨w.heap.size, 0, none⟩ = some (.int .i64 err) := (K0.out.cell 0).trans rfl
    have p1 : w0.cell? ⟨w.heap.size, 1, none⟩ = some (.bool fd) := (K0.out.cell 1).trans rfl
    have p2 : w0.cell? ⟨w.heap.size, 2, none⟩ = some (.int .u64 ds) := (K0.out.cell 2).trans rfl
    have p3 : w0.cell? ⟨w.heap.size, 3, none⟩ = some (.slice A n c) := (K0.out.cell 3).trans rfl
    have p4 : w0.cell? ⟨w.heap.size, 4, none⟩ = some (.int .u8 st) := (K0.out.cell 4).trans rfl
    go_wp2_with fail
    refine (answer_any k err fd ds n c st A ws eb _ HEB.out herr hds hst HWS.out (HW.out.more' Z0.out.size) HOK.out (by omega)).mono ?_
    rintro e w1 ⟨A1, m, c1, rfl, hO1, hb1⟩
    have Z1 : Hid (Below w.heap.size w w1) := Z0.out.trans (hb1.mono Z0.out.size)
    have HBOK := Lib.hid (body_ok k HK.out fd ds st n ws HWS.out (by omega))
    have hlen := ans_length_le k eb fd ds st n ws HWS.out
    have hm : m ≤ 4200 := by have := hO1.1; omega
    have hmc : m ≤ c1 := hO1.2.1
    have hcm1 : c1 ≤ maxLen := hO1.2.2.1
    obtain ⟨g1, rfl, _⟩ := ans_head hO1
    have HO1 := Lib.hid (hO1.mono Z0.out.size)
    clear hO1 hlen p0 p1 p2 p3 p4 K0 HW HOK hb1
    generalize bodyL k fd ds st n ws = X at *
    go_wp2_with fail
    refine (readans_yes k m c1 _ (ansL eb X) _ HK.out HO1.out.1 HO1.out.bytes (by omega) hmc hcm1 (ans_acc HBOK.out)).mono ?_
    rintro e w2 ⟨er2, fd2, ds2, Aw2, nw2, cw2, st2, rfl, hb2⟩
    have HO2 := Lib.hid ((HO1.out.below hb2).alloc (.cells #[.int .i64 er2, .bool fd2, .int .u64 ds2, .slice Aw2 nw2 cw2, .int .u8 st2] 37))
    have Z2 : Hid (Below w.heap.size w (w2.alloc (.cells #[.int .i64 er2, .bool fd2, .int .u64 ds2, .slice Aw2 nw2 cw2, .int .u8 st2] 37))) := by
      have h0 := Z1.out.trans (hb2.mono Z1.out.size)
      have h := h0.alloc h0.size (.cells #[.int .i64 er2, .bool fd2, .int .u64 ds2, .slice Aw2 nw2 cw2, .int .u8 st2] 37)
      exact h
    clear hb2
    go_upto_region 5 with (fail)
    generalize hg2 : w2.alloc (.cells _ 37) = w3 at *
    clear hg2
    by_cases hq1 : 0 ≤ cut
    · obtain ⟨q, rfl⟩ : ∃ q : Nat, cut = (q : Int) := ⟨cut.toNat, by omega⟩
      clear hq1 hc1
      by_cases hq2 : q < m
      · have hqi : (q : Int) < (m : Int) := by omega
        have hqc : (q : Int) ≤ (c1 : Int) := by omega
        have hq0 : (0 : Int) ≤ (q : Int) := by omega
        go_wp2_with fail
        refine (readans_not k q c1 _ ((ansL eb X).take q) _ HK.out (by rw [List.length_take, HO2.out.1]; omega) (HO2.out.bytes.take q) (by omega) (by omega) hcm1 (ans_cut HBOK.out (by rw [HO2.out.1]; exact hq2))).mono ?_
        rintro e w4 ⟨er4, fd4, ds4, Aw4, nw4, cw4, st4, rfl, hb4⟩
        have HO4 := Lib.hid (HO2.out.below hb4)
        have Z4 : Hid (Below w.heap.size w w4) := Z2.out.trans (hb4.mono Z2.out.size)
        clear hb4
        go_wp2_with (at_builtin; refine wpList_append_b rfl (.tmp 52) (.tmp 53) _ rfl 5 i0 Try.underlying22 hi0 hz0 hz1 hz2 rfl (HO4.out.alloc _) rfl (bytes_one _ _ _ 0 rfl) rfl (by omega) (by have := Z4.out.size; simp; omega) ?_; intro A6 c6 w6 hO6 hg6 hd6; have HO6 := Lib.hid hO6; have Z6 := Lib.hid (below_grown (Z4.out.alloc Z4.out.size _) (HO4.out.alloc _) hg6 (by have := Z4.out.size; simp; omega)); clear hO6 hg6 hd6)
        refine (readans_not k (m + 1) c6 _ (ansL eb X ++ [0]) _ HK.out HO6.out.1 HO6.out.bytes (by omega) HO6.out.2.1 HO6.out.2.2.1 (ans_more HBOK.out 0)).mono ?_
        rintro e w7 ⟨er7, fd7, ds7, Aw7, nw7, cw7, st7, rfl, hb7⟩
        have Z7 : Hid (Below w.heap.size w w7) := Z6.out.trans (hb7.mono Z6.out.size)
        clear hb7
        go_wp2_with fail
        refine (works_any _).mono ?_
        rintro e w8 ⟨rfl, hb8⟩
        go_wp2_with fail
        go_ret
        exact ⟨rfl, Z7.out.trans (hb8.mono Z7.out.size)⟩
      · have hqi : ¬ (q : Int) < (m : Int) := by omega
        go_wp2_with (at_builtin; refine wpList_append_b rfl (.tmp 52) (.tmp 53) _ rfl 5 i0 Try.underlying22 hi0 hz0 hz1 hz2 rfl (HO2.out.alloc _) rfl (bytes_one _ _ _ 0 rfl) rfl (by omega) (by have := Z2.out.size; simp; omega) ?_; intro A6 c6 w6 hO6 hg6 hd6; have HO6 := Lib.hid hO6; have Z6 := Lib.hid (below_grown (Z2.out.alloc Z2.out.size _) (HO2.out.alloc _) hg6 (by have := Z2.out.size; simp; omega)); clear hO6 hg6 hd6)
        refine (readans_not k (m + 1) c6 _ (ansL eb X ++ [0]) _ HK.out HO6.out.1 HO6.out.bytes (by omega) HO6.out.2.1 HO6.out.2.2.1 (ans_more HBOK.out 0)).mono ?_
        rintro e w7 ⟨er7, fd7, ds7, Aw7, nw7, cw7, st7, rfl, hb7⟩
        have Z7 : Hid (Below w.heap.size w w7) := Z6.out.trans (hb7.mono Z6.out.size)
        clear hb7
        go_wp2_with fail
        refine (works_any _).mono ?_
        rintro e w8 ⟨rfl, hb8⟩
        go_wp2_with fail
        go_ret
        exact ⟨rfl, Z7.out.trans (hb8.mono Z7.out.size)⟩
    · go_wp2_with (at_builtin; refine wpList_append_b rfl (.tmp 52) (.tmp 53) _ rfl 5 i0 Try.underlying22 hi0 hz0 hz1 hz2 rfl (HO2.out.alloc _) rfl (bytes_one _ _ _ 0 rfl) rfl (by omega) (by have := Z2.out.size; simp; omega) ?_; intro A6 c6 w6 hO6 hg6 hd6; have HO6 := Lib.hid hO6; have Z6 := Lib.hid (below_grown (Z2.out.alloc Z2.out.size _) (HO2.out.alloc _) hg6 (by have := Z2.out.size; simp; omega)); clear hO6 hg6 hd6)
      refine (readans_not k (m + 1) c6 _ (ansL eb X ++ [0]) _ HK.out HO6.out.1 HO6.out.bytes (by omega) HO6.out.2.1 HO6.out.2.2.1 (ans_more HBOK.out 0)).mono ?_
      rintro e w7 ⟨er7, fd7, ds7, Aw7, nw7, cw7, st7, rfl, hb7⟩
      have Z7 : Hid (Below w.heap.size w w7) := Z6.out.trans (hb7.mono Z6.out.size)
      clear hb7
      go_wp2_with fail
      refine (works_any _).mono ?_
      rintro e w8 ⟨rfl, hb8⟩
      go_wp2_with fail
      go_ret
      exact ⟨rfl, Z7.out.trans (hb8.mono Z7.out.size)⟩
end Go.Proofs.Ytjiiabekjiilbaa
