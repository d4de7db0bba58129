/- What Open of package page answers: what the bytes say as a page, in new memory, or that they are no such page. -/
import Derived.Test.YtflgelkpblnkcaaPageParts
import Derived.ScopeJumps
import Derived.Deep.Cut
set_option linter.unusedSimpArgs false
set_option linter.unusedVariables false
namespace Go.Proofs.Ytflgelkpblnkcaa
open Go.RowKit Mp

/-- Open's answer. -/
def OpenPost (p : List UInt8) (tag nb : Nat) (w : World) (e : Ending) (w' : World) : Prop :=
  ((∃ l, Says p tag nb l ∧ ∃ A' c', e = .returned (.tuple #[.slice A' l.length c', .int .i64 0]) ∧ OwnB w' w.heap.size 5 A' l.length c' l) ∨ (¬ Opens p tag nb ∧ e = .returned (.tuple #[.slice none 0 0, .int .i64 7]))) ∧ Below w.heap.size w w'
theorem OpenPost.no {p : List UInt8} {tag nb : Nat} {w w' : World} {e : Ending} (h : ¬ Opens p tag nb) (he : e = .returned (.tuple #[.slice none 0 0, .int .i64 7])) (hb : Below w.heap.size w w') : OpenPost p tag nb w e w' := ⟨.inr ⟨h, he⟩, hb⟩

/-- where the goto leads: whatever the frame holds. -/
def Rot (w : World) (p : List UInt8) (tag nb : Nat) (a : Act) (w' : World) : Prop :=
  Below w.heap.size w w' ∧ ¬ Opens p tag nb ∧ ∃ (u0 u1 u2 u3 u4 u5 u6 u7 u8 u9 u10 u11 u12 u13 u14 u15 u16 u17 u18 u19 u20 u21 u22 u23 u24 u25 u26 u27 u28 u29 u30 u31 u32 u33 u34 u35 u36 u37 u38 u39 u40 u41 u42 u43 u44 u45 u46 u47 u48 u49 u50 u51 u52 u53 u54 u55 : Value), a = { tmps := #[u0, u1, u2, u3, u4, u5, u6, u7, u8, u9, u10, u11, u12, u13, u14, u15, u16, u17, u18, u19, u20, u21, u22, u23, u24, u25, u26, u27, u28, u29, u30, u31, u32, u33, u34, u35, u36, u37, u38, u39, u40, u41, u42, u43, u44, u45, u46, u47, u48, u49, u50, u51, u52, u53, u54, u55], defers := [] }

set_option maxRecDepth 100000 in
set_option maxHeartbeats 4000000 in
theorem open_any (A : Option Addr) (n c tag nb : Nat) (p : List UInt8) (w : World) (hl : p.length = n) (hb : Bytes w w.heap.size A p) (hn : n ≤ 1099511627776) (hnc : n ≤ c) (hcm : c ≤ maxLen) (htag : tag ≤ 4294967295) (hnb : nb ≤ 4294967295) :
    Calls Try.prog 19 #[.slice A n c, .int .u32 tag, .int .u32 nb] w (OpenPost p tag nb w) := by
  have HL := Lib.hid hl
  have HB := Lib.hid hb
  unfold maxLen at hcm
  clear hl hb
  go_enter Try.func19, Try.ntmps19
  go_wp2_with fail
  refine wp_scope_jumps 0 (Rot w p tag nb) (fun _ _ => 0) rfl ?_ ?_
  · by_cases h256 : n = 256
    · subst h256
      have hc2 : (252 : Int) ≤ (c : Int) := by omega
      have hc3 : (256 : Int) ≤ (c : Int) := by omega
      have HE : Hid (ext 0 (p.take 252) ≤ 4294967295) := Lib.hid (ext0_le _)
      have HT : Hid ((p.take 252).length = 252) := by
        have h : (p.take 252).length = 252 := by rw [List.length_take, HL.out]; rfl
        exact h
      obtain ⟨sx, hsx⟩ : ∃ sx, sx = ext 0 (p.take 252) := ⟨_, rfl⟩
      obtain ⟨sm, hsm⟩ : ∃ sm, sm = num p 252 4 := ⟨_, rfl⟩
      have HSX := Lib.hid hsx
      have HSM := Lib.hid hsm
      clear hsx hsm
      have hz0 : Hid (Below w.heap.size w (w.alloc (.cells #[.int .u64 0, .int .u64 0, .int .u64 0, .int .u64 0] 52))) := by
        have h : Below w.heap.size w (w.alloc (.cells #[.int .u64 0, .int .u64 0, .int .u64 0, .int .u64 0] 52)) := (Below.refl _ _).alloc (Nat.le_refl _) _
        exact h
      have hst := Since.refl (w.alloc (.cells #[.int .u64 0, .int .u64 0, .int .u64 0, .int .u64 0] 52))
      have hst1 := Since.drew hst
      have HK := Blk.new w 52 #[.int .u64 0, .int .u64 0, .int .u64 0, .int .u64 0]
      have HKh := Lib.hid HK
      clear HK
      go_wp2_with fail
      generalize w.alloc (.cells #[.int .u64 0, .int .u64 0, .int .u64 0, .int .u64 0] 52) = w0 at *
      have PN : Hid (∀ W, Since w0 W → Calls Try.prog 33 #[.slice A 256 c, .int .i64 252, .int .i64 4] W fun e w' => e = .returned (.int .u64 sm) ∧ Since w0 w') := by
        have h : ∀ W, Since w0 W → Calls Try.prog 33 #[.slice A 256 c, .int .i64 252, .int .i64 4] W fun e w' => e = .returned (.int .u64 sm) ∧ Since w0 w' := fun W hS => by
          rw [HSM.out]
          exact (number_any A 256 c 252 4 p W HL.out ((((HB.out.below hz0.out).more hz0.out.size).below hS).more (Below.size hS)) (by omega) hnc sz4 (by omega)).mono fun e w' h => ⟨h.1, hS.step h.2⟩
        exact h
      have PS : Hid (∀ W A' c', Bytes w0 w0.heap.size A' (p.take 252) → Since w0 W → Calls Try.prog 27 #[.slice A' 252 c'] W fun e w' => e = .returned (.int .u32 sx) ∧ Since w0 w') := by
        have h : ∀ W A' c', Bytes w0 w0.heap.size A' (p.take 252) → Since w0 W → Calls Try.prog 27 #[.slice A' 252 c'] W fun e w' => e = .returned (.int .u32 sx) ∧ Since w0 w' := fun W A' c' hA hS => by
          rw [HSX.out]
          exact (sum_any A' 252 c' (p.take 252) W HT.out ((hA.below hS).more (Below.size hS)) (by omega)).mono fun e w' h => ⟨h.1, hS.step h.2⟩
        exact h
      have HB0 : Hid (Bytes w0 w0.heap.size A (p.take 252)) := by
        have h : Bytes w0 w0.heap.size A (p.take 252) := ((HB.out.below hz0.out).more hz0.out.size).take 252
        exact h
      have hsxb : sx ≤ 4294967295 := by rw [HSX.out]; exact HE.out
      have hw : IntKind.u64.wrap (sx : Int) = (sx : Int) := IntWalk.u64_in _ (by omega)
      by_cases hsum : sm = sx
      · have hd2 : ((sm : Int) != (sx : Int)) = false := by subst hsum; simp
        have HSUM := Lib.hid hsum
        clear hsum
        go_region_held3 (fun w' => Since w0 w') (first | (with_reducible assumption) | ((with_reducible refine Since.drew ?_); (with_reducible assumption))) (first | (go_at_call 33; (with_reducible refine Calls.mono (PN.out _ ?_) ?_); (with_reducible assumption); rintro e wn ⟨rfl, hsn⟩) | (go_at_call 27; (with_reducible refine Calls.mono (PS.out _ _ _ HB0.out ?_) ?_); (with_reducible assumption); rintro e ws ⟨rfl, hss⟩))
        clear hw hd2
        have HNUM : Hid (∀ W (a s : Nat), Since w0 W → Sz s → a + s ≤ 256 → Calls Try.prog 33 #[.slice A 256 c, .int .i64 a, .int .i64 s] W fun e w' => e = .returned (.int .u64 (num p a s : Nat)) ∧ Since w0 w') := by
          have h : ∀ W (a s : Nat), Since w0 W → Sz s → a + s ≤ 256 → Calls Try.prog 33 #[.slice A 256 c, .int .i64 a, .int .i64 s] W fun e w' => e = .returned (.int .u64 (num p a s : Nat)) ∧ Since w0 w' := fun W a s hS hs ha =>
            (number_any A 256 c a s p W HL.out ((((HB.out.below hz0.out).more hz0.out.size).below hS).more (Below.size hS)) (by omega) hnc hs ha).mono fun e w' h => ⟨h.1, hS.step h.2⟩
          exact h
        obtain ⟨x0, hx0⟩ : ∃ x, x = num p 0 4 := ⟨_, rfl⟩
        obtain ⟨x4, hx4⟩ : ∃ x, x = num p 4 4 := ⟨_, rfl⟩
        obtain ⟨x8, hx8⟩ : ∃ x, x = num p 8 2 := ⟨_, rfl⟩
        obtain ⟨x10, hx10⟩ : ∃ x, x = num p 10 2 := ⟨_, rfl⟩
        have b0 : x0 ≤ 4294967295 := by have := num_lt p 0 4; rw [← hx0] at this; simp only [Nat.reduceMul, Nat.reducePow] at this; omega
        have b4 : x4 ≤ 4294967295 := by have := num_lt p 4 4; rw [← hx4] at this; simp only [Nat.reduceMul, Nat.reducePow] at this; omega
        have b8 : x8 ≤ 65535 := by have := num_lt p 8 2; rw [← hx8] at this; simp only [Nat.reduceMul, Nat.reducePow] at this; omega
        have b10 : x10 ≤ 65535 := by have := num_lt p 10 2; rw [← hx10] at this; simp only [Nat.reduceMul, Nat.reducePow] at this; omega
        have HX0 := Lib.hid hx0
        have HX4 := Lib.hid hx4
        have HX8 := Lib.hid hx8
        have HX10 := Lib.hid hx10
        clear hx0 hx4 hx8 hx10
        go_wp2_with fail
        refine (HNUM.out _ 0 4 hss sz4 (by omega)).mono ?_
        rintro e wa ⟨rfl, hsa⟩
        rw [← HX0.out]
        go_wp2_with fail
        refine (HNUM.out _ 4 4 hsa sz4 (by omega)).mono ?_
        rintro e wb ⟨rfl, hsb⟩
        rw [← HX4.out]
        go_wp2_with fail
        refine (HNUM.out _ 8 2 hsb sz2 (by omega)).mono ?_
        rintro e wc ⟨rfl, hsc⟩
        rw [← HX8.out]
        go_wp2_with fail
        refine (HNUM.out _ 10 2 hsc sz2 (by omega)).mono ?_
        rintro e wd ⟨rfl, hsd⟩
        rw [← HX10.out]
        have KD : Hid (Blk wd w.heap.size 52 #[.int .u64 0, .int .u64 0, .int .u64 0, .int .u64 0]) := by
          have h := HKh.out.below hsd HKh.out.lt
          exact h
        have f0 := KD.out.frozen 0
        have g0 := (KD.out.cell 0).trans rfl
        have f1 := KD.out.frozen 1
        have g1 := (KD.out.cell 1).trans rfl
        have f2 := KD.out.frozen 2
        have g2 := (KD.out.cell 2).trans rfl
        have f3 := KD.out.frozen 3
        have g3 := (KD.out.cell 3).trans rfl
        have KE : Hid (Blk ((((wd.setCell ⟨w.heap.size, 0, none⟩ (.int .u64 x0)).setCell ⟨w.heap.size, 1, none⟩ (.int .u64 x4)).setCell ⟨w.heap.size, 2, none⟩ (.int .u64 x8)).setCell ⟨w.heap.size, 3, none⟩ (.int .u64 x10)) w.heap.size 52 #[.int .u64 x0, .int .u64 x4, .int .u64 x8, .int .u64 x10]) := by
          have h := (((KD.out.set_ 0 (.int .u64 x0)).set_ 1 (.int .u64 x4)).set_ 2 (.int .u64 x8)).set_ 3 (.int .u64 x10)
          exact h
        have BE : Hid (Below w.heap.size w ((((wd.setCell ⟨w.heap.size, 0, none⟩ (.int .u64 x0)).setCell ⟨w.heap.size, 1, none⟩ (.int .u64 x4)).setCell ⟨w.heap.size, 2, none⟩ (.int .u64 x8)).setCell ⟨w.heap.size, 3, none⟩ (.int .u64 x10))) := by
          have h0 := hz0.out.trans (Below.mono hsd hz0.out.size)
          have h := ((((h0.setCell (p := ⟨w.heap.size, 0, none⟩) (Nat.le_refl _) (.int .u64 x0)).setCell (p := ⟨w.heap.size, 1, none⟩) (Nat.le_refl _) (.int .u64 x4)).setCell (p := ⟨w.heap.size, 2, none⟩) (Nat.le_refl _) (.int .u64 x8)).setCell (p := ⟨w.heap.size, 3, none⟩) (Nat.le_refl _) (.int .u64 x10))
          exact h
        clear HNUM PN PS hsa hsb hsc hsd hsn hss
        go_upto_region 4 with (fail)
        clear f0 g0 f1 g1 f2 g2 f3 g3 KD
        generalize ((((wd.setCell ⟨w.heap.size, 0, none⟩ (.int .u64 x0)).setCell ⟨w.heap.size, 1, none⟩ (.int .u64 x4)).setCell ⟨w.heap.size, 2, none⟩ (.int .u64 x8)).setCell ⟨w.heap.size, 3, none⟩ (.int .u64 x10)) = we at *
        have q0 : we.cell? ⟨w.heap.size, 0, none⟩ = some (.int .u64 x0) := (KE.out.cell 0).trans rfl
        have q1 : we.cell? ⟨w.heap.size, 1, none⟩ = some (.int .u64 x4) := (KE.out.cell 1).trans rfl
        have q2 : we.cell? ⟨w.heap.size, 2, none⟩ = some (.int .u64 x8) := (KE.out.cell 2).trans rfl
        have q3 : we.cell? ⟨w.heap.size, 3, none⟩ = some (.int .u64 x10) := (KE.out.cell 3).trans rfl
        by_cases h240 : 240 < x8
        · go_wp2_with fail
          go_step3
          refine ⟨rfl, BE.out, ?_, _, _, _, _, _, _, _, _, _, _, _, _, _, _, _, _, _, _, _, _, _, _, _, _, _, _, _, _, _, _, _, _, _, _, _, _, _, _, _, _, _, _, _, _, _, _, _, _, _, _, _, _, _, _, _, _, rfl⟩
          rintro ⟨l, h1, h2⟩
          have h3 := page_size tag nb l (by omega)
          rw [← h2, ← HX8.out] at h3
          omega
        by_cases hm : x0 = tag ∧ x4 = nb ∧ x10 = 0
        · obtain ⟨hm1, hm2, hm3⟩ := hm
          subst hm1 hm2 hm3
          go_wp2_with fail
          have HBE : Hid (Bytes we we.heap.size A p) := by
            have h : Bytes we we.heap.size A p := (HB.out.below BE.out).more BE.out.size
            exact h
          have HCUT : Hid (Bytes we we.heap.size (A.map (fun x => x.add (12 + x8))) ((p.drop (12 + x8)).take (252 - (12 + x8)))) := by
            have h := HBE.out.cut (12 + x8) 252 c (by omega) (by rw [HL.out]; omega) (by rw [HL.out]; omega)
            rw [if_neg (by omega), Nat.mul_one] at h
            exact h
          have HCL : Hid (((p.drop (12 + x8)).take (252 - (12 + x8))).length = 252 - (12 + x8)) := by
            have h : ((p.drop (12 + x8)).take (252 - (12 + x8))).length = 252 - (12 + x8) := by rw [List.length_take, List.length_drop, HL.out]; omega
            exact h
          by_cases hz : (p.drop (12 + x8)).take (252 - (12 + x8)) = List.replicate (252 - (12 + x8)) 0
          · have HZ := Lib.hid hz
            clear hz
            refine (contains_noughts _ (252 - (12 + x8)) _ _ _ HZ.out HCUT.out (by omega)).mono ?_
            rintro e wf ⟨rfl, rfl⟩
            have HCL2 : Hid (((p.drop 12).take x8).length = x8) := by
              have h : ((p.drop 12).take x8).length = x8 := by rw [List.length_take, List.length_drop, HL.out]; omega
              exact h
            have HCUT2 : Hid (Bytes we we.heap.size (A.map (fun x => (⟨x.block, x.off + 12, none⟩ : Addr))) ((p.drop 12).take x8)) := by
              have h := HBE.out.cut 12 (12 + x8) c (by omega) (by rw [HL.out]; omega) (by rw [HL.out]; omega)
              rw [if_neg (by omega), show 12 + x8 - 12 = x8 by omega] at h
              cases A with
              | none => exact h
              | some a => exact h
            go_wp2_with fail
            refine (clone_any _ x8 (c - 12) ((p.drop 12).take x8) _ HCL2.out HCUT2.out (by omega) (by omega)).mono ?_
            rintro e wg ⟨A7, c7, rfl, hO7, hb7⟩
            have HO7 := Lib.hid hO7
            have Hb7 := Lib.hid hb7
            clear hO7 hb7
            have HSAYS : Hid (Says p x0 x4 ((p.drop 12).take x8)) := by
              have h : Says p x0 x4 ((p.drop 12).take x8) := opens_of HL.out (by rw [← HSM.out, ← HSX.out]; exact HSUM.out) HX0.out.symm HX4.out.symm HX8.out.symm (by omega) HX10.out.symm (by rw [show 240 - x8 = 252 - (12 + x8) by omega]; exact HZ.out)
              exact h
            go_wp2_with fail
            simp only [Exit.jump]
            go_ret2
            refine ⟨.inl ⟨_, HSAYS.out, A7, c7, by rw [HCL2.out]; rfl, ?_⟩, BE.out.trans (Hb7.out.mono BE.out.size)⟩
            rw [HCL2.out]
            exact HO7.out.mono BE.out.size
          · have HZ := Lib.hid hz
            clear hz
            refine (contains_other _ (252 - (12 + x8)) _ _ _ HCL.out HCUT.out (by omega) HZ.out).mono ?_
            rintro e wf ⟨rfl, rfl⟩
            go_wp2_with fail
            go_step3
            refine ⟨rfl, BE.out, ?_, _, _, _, _, _, _, _, _, _, _, _, _, _, _, _, _, _, _, _, _, _, _, _, _, _, _, _, _, _, _, _, _, _, _, _, _, _, _, _, _, _, _, _, _, _, _, _, _, _, _, _, _, _, _, _, _, rfl⟩
            rintro ⟨l, h1, h2⟩
            have h3 := page_size x0 x4 l (by omega)
            rw [← h2, ← HX8.out] at h3
            have h4 := page_noughts x0 x4 l h1
            rw [← h2, ← h3] at h4
            apply HZ.out
            rw [show 252 - (12 + x8) = 240 - x8 by omega]
            exact h4
        · by_cases e0 : x0 = tag
          · subst e0
            by_cases e4 : x4 = nb
            · subst e4
              have e10 : ¬ x10 = 0 := fun e => hm ⟨rfl, rfl, e⟩
              clear hm
              have hd10 : ((x10 : Int) == 0) = false := by simp; omega
              have E10 := Lib.hid e10
              clear e10
              go_wp2_with fail
              go_step3
              refine ⟨rfl, BE.out, ?_, _, _, _, _, _, _, _, _, _, _, _, _, _, _, _, _, _, _, _, _, _, _, _, _, _, _, _, _, _, _, _, _, _, _, _, _, _, _, _, _, _, _, _, _, _, _, _, _, _, _, _, _, _, _, _, _, rfl⟩
              rintro ⟨l, h1, h2⟩
              have h3 := page_none x0 x4 l
              rw [← h2, ← HX10.out] at h3
              exact E10.out h3
            · have hd4 : ((x4 : Int) == (nb : Int)) = false := by simp; omega
              have E4 := Lib.hid e4
              clear e4 hm
              go_wp2_with fail
              go_step3
              refine ⟨rfl, BE.out, ?_, _, _, _, _, _, _, _, _, _, _, _, _, _, _, _, _, _, _, _, _, _, _, _, _, _, _, _, _, _, _, _, _, _, _, _, _, _, _, _, _, _, _, _, _, _, _, _, _, _, _, _, _, _, _, _, _, rfl⟩
              rintro ⟨l, h1, h2⟩
              have h3 := page_nb x0 nb l hnb
              rw [← h2, ← HX4.out] at h3
              exact E4.out h3
          · have hd0 : ((x0 : Int) == (tag : Int)) = false := by simp; omega
            have E0 := Lib.hid e0
            clear e0 hm
            go_wp2_with fail
            go_step3
            refine ⟨rfl, BE.out, ?_, _, _, _, _, _, _, _, _, _, _, _, _, _, _, _, _, _, _, _, _, _, _, _, _, _, _, _, _, _, _, _, _, _, _, _, _, _, _, _, _, _, _, _, _, _, _, _, _, _, _, _, _, _, _, _, _, rfl⟩
            rintro ⟨l, h1, h2⟩
            have h3 := page_tag tag nb l htag
            rw [← h2, ← HX0.out] at h3
            exact E0.out h3
      · have hd2 : ((sm : Int) != (sx : Int)) = true := by simp; omega
        have HSUM := Lib.hid hsum
        clear hsum
        go_region_held3 (fun w' => Since w0 w') (first | (with_reducible assumption) | ((with_reducible refine Since.drew ?_); (with_reducible assumption))) (first | (go_at_call 33; (with_reducible refine Calls.mono (PN.out _ ?_) ?_); (with_reducible assumption); rintro e wn ⟨rfl, hsn⟩) | (go_at_call 27; (with_reducible refine Calls.mono (PS.out _ _ _ HB0.out ?_) ?_); (with_reducible assumption); rintro e ws ⟨rfl, hss⟩))
        clear hw hd2
        go_wp2_with fail
        go_step3
        refine ⟨rfl, hz0.out.trans (Below.mono hss hz0.out.size), fun ⟨l, h⟩ => HSUM.out ?_, _, _, _, _, _, _, _, _, _, _, _, _, _, _, _, _, _, _, _, _, _, _, _, _, _, _, _, _, _, _, _, _, _, _, _, _, _, _, _, _, _, _, _, _, _, _, _, _, _, _, _, _, _, _, _, _, rfl⟩
        rw [HSM.out, HSX.out, h.2]
        exact page_sum tag nb l h.1
    · have hd : ((n : Int) != 256) = true := by simp; omega
      have HD := Lib.hid h256
      clear h256
      go_wp2_with fail
      go_region
      all_goals
        go_wp2_with fail
        go_step3
        exact ⟨rfl, (((Below.refl _ _).alloc (Nat.le_refl _) _).drew), fun ⟨l, h⟩ => HD.out (HL.out.symm.trans h.size), _, _, _, _, _, _, _, _, _, _, _, _, _, _, _, _, _, _, _, _, _, _, _, _, _, _, _, _, _, _, _, _, _, _, _, _, _, _, _, _, _, _, _, _, _, _, _, _, _, _, _, _, _, _, _, _, rfl⟩
  · rintro a' w' ⟨hb1, hno, u0, u1, u2, u3, u4, u5, u6, u7, u8, u9, u10, u11, u12, u13, u14, u15, u16, u17, u18, u19, u20, u21, u22, u23, u24, u25, u26, u27, u28, u29, u30, u31, u32, u33, u34, u35, u36, u37, u38, u39, u40, u41, u42, u43, u44, u45, u46, u47, u48, u49, u50, u51, u52, u53, u54, u55, rfl⟩
    go_wp2_with fail
    simp only [Exit.jump]
    go_ret2
    exact OpenPost.no hno rfl hb1
end Go.Proofs.Ytflgelkpblnkcaa
