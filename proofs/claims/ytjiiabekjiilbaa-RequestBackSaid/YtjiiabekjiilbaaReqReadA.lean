/- What ReadAnswer of package request answers, by how a kind's answers are read. -/
import Derived.Test.YtjiiabekjiilbaaReqTake
import Derived.Deep.Cut
import Derived.Laws.EntriesVeiled
set_option linter.unusedSimpArgs false
set_option linter.unusedVariables false
namespace Go.Proofs.Ytjiiabekjiilbaa
open Go.RowKit Mp

abbrev nil_ : Value := .slice none 0 0
/-- no answer. -/
def noAns : Ending := .returned (.tuple #[.agg (repC 0 false 0 nil_ 0), .int .i64 8])
def anAns (err : Int) (fd : Bool) (ds : Nat) (way : Value) (st : Nat) : Ending := .returned (.tuple #[.agg (repC err fd ds way st), .int .i64 0])
/-- what ReadAnswer answers, by what the kind's reader leaves. -/
def RH (l : List UInt8) (Q : Bool → Nat → Value → Nat → Bool → List UInt8 → World → Prop) (e : Ending) (w' : World) : Prop :=
  (l = [] ∧ e = noAns) ∨ (∃ b t, l = b :: t ∧ b ≠ 0 ∧ ((t = [] ∧ e = anAns (b.toNat : Int) false 0 nil_ 0) ∨ (t ≠ [] ∧ e = noAns))) ∨
    (∃ t fd ds way st bd l', l = 0 :: t ∧ Q fd ds way st bd l' w' ∧ ((bd = false ∧ l' = [] ∧ e = anAns 0 fd ds way st) ∨ ((bd = true ∨ l' ≠ []) ∧ e = noAns)))
theorem grown_two {w w1 : World} {g : Nat} (h : w.grownBy w1 (some g)) (i : Nat) (u : Value) : w.grownBy (w1.setCell ⟨g, i, none⟩ u) (some g) := only_setCell h rfl u

set_option maxRecDepth 100000 in
set_option maxHeartbeats 6400000 in
theorem read_dist (k n c : Nat) (g : Value) (A : Option Addr) (l : List UInt8) (Q : Bool → Nat → Value → Nat → Bool → List UInt8 → World → Prop) (w : World) (hg : g.oneCell' = true) (hl : l.length = n) (hb : Bytes w w.heap.size A l) (hn : n ≤ 1099511627776) (hnc : n ≤ c) (hcm : c ≤ maxLen)
    (hlk : ∀ W m, Kinds W m → (Instr.lookup 57 (.map (some m)) (.int .u8 k) true).run Try.prog W = .ok (.tuple #[.agg #[g, .func (.func 42) #[] #[]], .bool true]) W)
    (hQ : ∀ fd ds way st bd l' (W W' : World) R, Blk W w.heap.size 37 R → W.grownBy W' (some w.heap.size) → Q fd ds way st bd l' W → Q fd ds way st bd l' W')
    (hF : ∀ W ga t, l = 0 :: t → ARs W w.heap.size ga w.heap.size false (repC 0 false 0 nil_ 0) t → Below w.heap.size w W → Calls Try.prog 42 #[.pointer (some ⟨ga, 0, none⟩), .pointer (some ⟨w.heap.size, 0, none⟩)] W fun e w' => ∃ fd ds way st bd l', e = .returned (.tuple #[]) ∧ way.oneCell' = true ∧ Q fd ds way st bd l' w' ∧ ARs w' w.heap.size ga w.heap.size bd (repC 0 fd ds way st) l' ∧ Below w.heap.size W w') :
    Calls Try.prog 23 #[.int .u8 k, .slice A n c] w fun e w' => RH l Q e w' ∧ Below w.heap.size w w' := by
  have HL := Lib.hid hl
  have HB := Lib.hid hb
  have HLK := Lib.hid hlk
  have HQ := Lib.hid hQ
  have HF := Lib.hid hF
  have hgs : ∀ (W : World) (a : Addr) (m : Mode), (store a g m).run Try.prog W = stored Try.prog W a g m := fun W a m => run_store Try.prog W a g m hg
  clear hl hb hlk hQ hF
  have Z0 : Hid (Below w.heap.size w (w.alloc (.cells #[.int .i64 0, .bool false, .int .u64 0, .slice none 0 0, .int .u8 0] 37))) := by
    have h : Below w.heap.size w (w.alloc (.cells #[.int .i64 0, .bool false, .int .u64 0, .slice none 0 0, .int .u8 0] 37)) := (Below.refl _ _).alloc (Nat.le_refl _) _
    exact h
  have K0 : Hid (Blk (w.alloc (.cells #[.int .i64 0, .bool false, .int .u64 0, .slice none 0 0, .int .u8 0] 37)) w.heap.size 37 (repC 0 false 0 nil_ 0)) := by
    have h : Blk (w.alloc (.cells #[.int .i64 0, .bool false, .int .u64 0, .slice none 0 0, .int .u8 0] 37)) w.heap.size 37 (repC 0 false 0 nil_ 0) := Blk.new _ _ _
    exact h
  go_enter Try.func23, Try.ntmps23
  go_wp2_with fail
  generalize w.alloc (.cells #[.int .i64 0, .bool false, .int .u64 0, .slice none 0 0, .int .u8 0] 37) = w0 at *
  refine (kinds_any _).mono ?_
  rintro e wk ⟨m, rfl, hK, hge, hbk⟩
  have hlook := HLK.out _ _ hK
  have K1 := Lib.hid ((K0.out.below hbk K0.out.lt).alloc (.cells #[g, .func (.func 42) #[] #[]] 55))
  have Z1 : Hid (Below w.heap.size w (wk.alloc (.cells #[g, .func (.func 42) #[] #[]] 55))) := by
    have h0 := Z0.out.trans (hbk.mono Z0.out.size)
    have h := h0.alloc h0.size (.cells #[g, .func (.func 42) #[] #[]] 55)
    exact h
  have KW : Hid (Blk (wk.alloc (.cells #[g, .func (.func 42) #[] #[]] 55)) wk.heap.size 55 #[g, .func (.func 42) #[] #[]]) := Lib.hid (Blk.new _ _ _)
  clear hK hge hbk
  go_upto_region 4 with (fail)
  clear hlook
  generalize wk.alloc (.cells #[g, .func (.func 42) #[] #[]] 55) = w1 at *
  have HA2 : Hid (ARs (w1.alloc (.cells #[.slice A n c, .bool false] 66)) w.heap.size w1.heap.size w.heap.size false (repC 0 false 0 nil_ 0) l) := by
    have h : ARs (w1.alloc (.cells #[.slice A n c, .bool false] 66)) w.heap.size w1.heap.size w.heap.size false (repC 0 false 0 nil_ 0) l := by
      refine ⟨A, c, ?_, ?_, by rw [HL.out]; exact hnc, hcm, K1.out.alloc _, Z1.out.size, Nat.le_refl _, ?_⟩
      · rw [HL.out]; exact Blk.new _ _ _
      · exact HB.out.below (Z1.out.alloc Z1.out.size _)
      · have := Z1.out.size; simp; omega
    exact h
  have Z2 := Lib.hid (Z1.out.alloc Z1.out.size (.cells #[.slice A n c, .bool false] 66))
  have KW2 := Lib.hid (KW.out.alloc (.cells #[.slice A n c, .bool false] 66))
  have hkw : wk.heap.size < w1.heap.size := KW.out.lt
  have hlo1 : w.heap.size ≤ w1.heap.size := Z1.out.size
  have FINE : Hid (∀ (W : World) (bd : Bool) (R : Array Value) (l' : List UInt8), ARs W w.heap.size w1.heap.size w.heap.size bd R l' → Below w.heap.size w W → Below w.heap.size w (((((W.setCell ⟨w.heap.size, 0, none⟩ (.int .i64 0)).setCell ⟨w.heap.size, 1, none⟩ (.bool false)).setCell ⟨w.heap.size, 2, none⟩ (.int .u64 0)).setCell ⟨w.heap.size, 3, none⟩ (.slice none 0 0)).setCell ⟨w.heap.size, 4, none⟩ (.int .u8 0))) := by
    have h : ∀ (W : World) (bd : Bool) (R : Array Value) (l' : List UInt8), ARs W w.heap.size w1.heap.size w.heap.size bd R l' → Below w.heap.size w W → Below w.heap.size w (((((W.setCell ⟨w.heap.size, 0, none⟩ (.int .i64 0)).setCell ⟨w.heap.size, 1, none⟩ (.bool false)).setCell ⟨w.heap.size, 2, none⟩ (.int .u64 0)).setCell ⟨w.heap.size, 3, none⟩ (.slice none 0 0)).setCell ⟨w.heap.size, 4, none⟩ (.int .u8 0)) := fun W bd R l' _ hB =>
      (((((hB.setCell (p := ⟨w.heap.size, 0, none⟩) (Nat.le_refl _) _).setCell (p := ⟨w.heap.size, 1, none⟩) (Nat.le_refl _) _).setCell (p := ⟨w.heap.size, 2, none⟩) (Nat.le_refl _) _).setCell (p := ⟨w.heap.size, 3, none⟩) (Nat.le_refl _) _).setCell (p := ⟨w.heap.size, 4, none⟩) (Nat.le_refl _) _)
    exact h
  rcases l with _ | ⟨b, t⟩
  · obtain rfl : n = 0 := HL.out.symm
    go_wp2_with fail
    refine (take_no w.heap.size w1.heap.size w.heap.size 1 false _ [] _ HA2.out (by simp) (by simp)).mono ?_
    rintro e w3 ⟨rfl, hA3, hg3⟩
    have HA3 := Lib.hid hA3
    have HB3 := Lib.hid (below_only Z2.out hg3 hlo1 (by simp; omega))
    obtain ⟨A3, c3, h3⟩ := hA3
    have r0 : w3.cell? ⟨w.heap.size, 0, none⟩ = some (.int .i64 0) := (h3.r.cell 0).trans rfl
    have f0 := h3.r.frozen 0
    clear h3 hg3
    go_upto_region 6 with (fail)
    have HA4 : Hid (ARs (w3.setCell ⟨w.heap.size, 0, none⟩ (.int .i64 0)) w.heap.size w1.heap.size w.heap.size true (repC 0 false 0 nil_ 0) []) := by
      have h := HA3.out.reply 0 (.int .i64 0)
      exact h
    have HB4 := Lib.hid (HB3.out.setCell (p := ⟨w.heap.size, 0, none⟩) (Nat.le_refl _) (.int .i64 0))
    clear r0 f0
    generalize w3.setCell ⟨w.heap.size, 0, none⟩ (.int .i64 0) = w4 at *
    obtain ⟨A4, c4, h4⟩ := HA4.out
    have r0 : w4.cell? ⟨w.heap.size, 0, none⟩ = some (.int .i64 0) := (h4.r.cell 0).trans rfl
    have r1 : w4.cell? ⟨w.heap.size, 1, none⟩ = some (.bool false) := (h4.r.cell 1).trans rfl
    have r2 : w4.cell? ⟨w.heap.size, 2, none⟩ = some (.int .u64 0) := (h4.r.cell 2).trans rfl
    have r3 : w4.cell? ⟨w.heap.size, 3, none⟩ = some nil_ := (h4.r.cell 3).trans rfl
    have r4 : w4.cell? ⟨w.heap.size, 4, none⟩ = some (.int .u8 0) := (h4.r.cell 4).trans rfl
    have f0 := h4.r.frozen 0
    have f1 := h4.r.frozen 1
    have f2 := h4.r.frozen 2
    have f3 := h4.r.frozen 3
    have f4 := h4.r.frozen 4
    have a0 : w4.cell? ⟨w1.heap.size, 0, none⟩ = some (.slice A4 0 c4) := (h4.a.cell 0).trans rfl
    have a1 : w4.cell? ⟨w1.heap.size, 1, none⟩ = some (.bool true) := (h4.a.cell 1).trans rfl
    have KR : Hid (Blk w4 w.heap.size 37 (repC 0 false 0 nil_ 0)) := Lib.hid h4.r
    clear h4
    go_wp2_with fail
    refine bodyPost_ret (resCT rfl _ _ w.heap.size 37 (repC 0 false 0 nil_ 0) _ rfl ?_ Try.underlying37 rfl (by kernel_rfl)) rfl ⟨.inl ⟨rfl, rfl⟩, FINE.out _ _ _ _ HA4.out HB4.out⟩
    exact ((((KR.out.set_ 0 (.int .i64 0)).set_ 1 (.bool false)).set_ 2 (.int .u64 0)).set_ 3 (.slice none 0 0)).set_ 4 (.int .u8 0)
  · have hbl := b.toNat_lt
    go_wp2_with fail
    refine (take_ok w.heap.size w1.heap.size w.heap.size 1 false _ (b :: t) _ HA2.out (by rw [HL.out]; omega) sz1 (by simp)).mono ?_
    rintro e w3 ⟨rfl, hA3, hg3⟩
    rw [num_one]
    have HA3 := Lib.hid hA3
    have HB3 := Lib.hid (below_only Z2.out hg3 hlo1 (by simp; omega))
    have KW3 : Hid (Blk w3 wk.heap.size 55 #[g, .func (.func 42) #[] #[]]) := by
      have h : Blk w3 wk.heap.size 55 #[g, .func (.func 42) #[] #[]] := (hg3.block _ KW2.out.lt (by intro e; injection e with e; omega)).trans KW2.out
      exact h
    obtain ⟨A3, c3, h3⟩ := hA3
    have r0 : w3.cell? ⟨w.heap.size, 0, none⟩ = some (.int .i64 0) := (h3.r.cell 0).trans rfl
    have f0 := h3.r.frozen 0
    clear h3 hg3
    go_upto_region 6 with (fail)
    have HA4 : Hid (ARs (w3.setCell ⟨w.heap.size, 0, none⟩ (.int .i64 (b.toNat : Int))) w.heap.size w1.heap.size w.heap.size false (repC (b.toNat : Int) false 0 nil_ 0) t) := by
      have h := HA3.out.reply 0 (.int .i64 (b.toNat : Int))
      exact h
    have HB4 := Lib.hid (HB3.out.setCell (p := ⟨w.heap.size, 0, none⟩) (Nat.le_refl _) (.int .i64 (b.toNat : Int)))
    have KW4 := Lib.hid (KW3.out.far (p := ⟨w.heap.size, 0, none⟩) (by obtain ⟨A, c, h⟩ := HA3.out; exact blk_ne KW3.out h.r (by decide)) (.int .i64 (b.toNat : Int)))
    clear r0 f0
    generalize w3.setCell ⟨w.heap.size, 0, none⟩ (.int .i64 (b.toNat : Int)) = w4 at *
    obtain ⟨nt, hnt⟩ : ∃ nt, nt = t.length := ⟨_, rfl⟩
    obtain ⟨A4, c4, h4⟩ := HA4.out
    have r0 : w4.cell? ⟨w.heap.size, 0, none⟩ = some (.int .i64 (b.toNat : Int)) := (h4.r.cell 0).trans rfl
    have r1 : w4.cell? ⟨w.heap.size, 1, none⟩ = some (.bool false) := (h4.r.cell 1).trans rfl
    have r2 : w4.cell? ⟨w.heap.size, 2, none⟩ = some (.int .u64 0) := (h4.r.cell 2).trans rfl
    have r3 : w4.cell? ⟨w.heap.size, 3, none⟩ = some nil_ := (h4.r.cell 3).trans rfl
    have r4 : w4.cell? ⟨w.heap.size, 4, none⟩ = some (.int .u8 0) := (h4.r.cell 4).trans rfl
    have f0 := h4.r.frozen 0
    have f1 := h4.r.frozen 1
    have f2 := h4.r.frozen 2
    have f3 := h4.r.frozen 3
    have f4 := h4.r.frozen 4
    have a0 : w4.cell? ⟨w1.heap.size, 0, none⟩ = some (.slice A4 t.length c4) := (h4.a.cell 0).trans rfl
    have a1 : w4.cell? ⟨w1.heap.size, 1, none⟩ = some (.bool false) := (h4.a.cell 1).trans rfl
    have KR : Hid (Blk w4 w.heap.size 37 (repC (b.toNat : Int) false 0 nil_ 0)) := Lib.hid h4.r
    clear h4
    have k1 : w4.cell? ⟨wk.heap.size, 1, none⟩ = some (.func (.func 42) #[] #[]) := (KW4.out.cell 1).trans rfl
    rw [← hnt] at a0
    by_cases hz : b = 0
    · subst hz
      have hzz : ((0 : UInt8).toNat : Int) = 0 := rfl
      rw [hzz] at r0
      have HNT := Lib.hid hnt
      clear hnt hzz
      have HA4' : Hid (ARs w4 w.heap.size w1.heap.size w.heap.size false (repC 0 false 0 nil_ 0) t) := HA4
      go_wp2_with fail
      refine (HF.out w4 w1.heap.size t rfl HA4'.out HB4.out).mono ?_
      rintro e w5 ⟨fd, ds, way, st, bd, l', rfl, hway, hq, hA5, hb5⟩
      have HA5 := Lib.hid hA5
      have HB5 := Lib.hid (HB4.out.trans hb5)
      have HQ5 := Lib.hid hq
      have hws : ∀ (W : World) (a : Addr) (m : Mode), (store a way m).run Try.prog W = stored Try.prog W a way m := fun W a m => run_store Try.prog W a way m hway
      clear hA5 hb5 hq k1 r0 r1 r2 r3 r4 f0 f1 f2 f3 f4 a0 a1 KR hway
      have QZ : Hid (Q fd ds way st bd l' (((((w5.setCell ⟨w.heap.size, 0, none⟩ (.int .i64 0)).setCell ⟨w.heap.size, 1, none⟩ (.bool false)).setCell ⟨w.heap.size, 2, none⟩ (.int .u64 0)).setCell ⟨w.heap.size, 3, none⟩ (.slice none 0 0)).setCell ⟨w.heap.size, 4, none⟩ (.int .u8 0))) := by
        have h : Q fd ds way st bd l' (((((w5.setCell ⟨w.heap.size, 0, none⟩ (.int .i64 0)).setCell ⟨w.heap.size, 1, none⟩ (.bool false)).setCell ⟨w.heap.size, 2, none⟩ (.int .u64 0)).setCell ⟨w.heap.size, 3, none⟩ (.slice none 0 0)).setCell ⟨w.heap.size, 4, none⟩ (.int .u8 0)) := by
          obtain ⟨A, c, h⟩ := HA5.out
          exact HQ.out fd ds way st bd l' w5 _ _ h.r (grown_two (grown_two (grown_two (grown_two (grown_two (World.grownBy.refl w5 _) 0 _) 1 _) 2 _) 3 _) 4 _) HQ5.out
        exact h
      have QG : Hid (Q fd ds way st bd l' (((((w5.setCell ⟨w.heap.size, 0, none⟩ (.int .i64 0)).setCell ⟨w.heap.size, 1, none⟩ (.bool fd)).setCell ⟨w.heap.size, 2, none⟩ (.int .u64 ds)).setCell ⟨w.heap.size, 3, none⟩ way).setCell ⟨w.heap.size, 4, none⟩ (.int .u8 st))) := by
        have h : Q fd ds way st bd l' (((((w5.setCell ⟨w.heap.size, 0, none⟩ (.int .i64 0)).setCell ⟨w.heap.size, 1, none⟩ (.bool fd)).setCell ⟨w.heap.size, 2, none⟩ (.int .u64 ds)).setCell ⟨w.heap.size, 3, none⟩ way).setCell ⟨w.heap.size, 4, none⟩ (.int .u8 st)) := by
          obtain ⟨A, c, h⟩ := HA5.out
          exact HQ.out fd ds way st bd l' w5 _ _ h.r (grown_two (grown_two (grown_two (grown_two (grown_two (World.grownBy.refl w5 _) 0 _) 1 _) 2 _) 3 _) 4 _) HQ5.out
        exact h
      obtain ⟨A5, c5, h4⟩ := HA5.out
      have r0 : w5.cell? ⟨w.heap.size, 0, none⟩ = some (.int .i64 0) := (h4.r.cell 0).trans rfl
      have r1 : w5.cell? ⟨w.heap.size, 1, none⟩ = some (.bool fd) := (h4.r.cell 1).trans rfl
      have r2 : w5.cell? ⟨w.heap.size, 2, none⟩ = some (.int .u64 ds) := (h4.r.cell 2).trans rfl
      have r3 : w5.cell? ⟨w.heap.size, 3, none⟩ = some way := (h4.r.cell 3).trans rfl
      have r4 : w5.cell? ⟨w.heap.size, 4, none⟩ = some (.int .u8 st) := (h4.r.cell 4).trans rfl
      have f0 := h4.r.frozen 0
      have f1 := h4.r.frozen 1
      have f2 := h4.r.frozen 2
      have f3 := h4.r.frozen 3
      have f4 := h4.r.frozen 4
      have a0 : w5.cell? ⟨w1.heap.size, 0, none⟩ = some (.slice A5 l'.length c5) := (h4.a.cell 0).trans rfl
      have a1 : w5.cell? ⟨w1.heap.size, 1, none⟩ = some (.bool bd) := (h4.a.cell 1).trans rfl
      have KR : Hid (Blk w5 w.heap.size 37 (repC 0 fd ds way st)) := Lib.hid h4.r
      clear h4
      cases bd
      · rcases l' with _ | ⟨b', t'⟩
        · have a00 : w5.cell? ⟨w1.heap.size, 0, none⟩ = some (.slice A5 0 c5) := a0
          clear a0
          go_wp2_with fail
          have HEND : Hid (Below w.heap.size w (((((w5.setCell ⟨w.heap.size, 0, none⟩ (.int .i64 0)).setCell ⟨w.heap.size, 1, none⟩ (.bool fd)).setCell ⟨w.heap.size, 2, none⟩ (.int .u64 ds)).setCell ⟨w.heap.size, 3, none⟩ way).setCell ⟨w.heap.size, 4, none⟩ (.int .u8 st))) := Lib.hid ((((((HB5.out.setCell (p := ⟨w.heap.size, 0, none⟩) (Nat.le_refl _) _).setCell (p := ⟨w.heap.size, 1, none⟩) (Nat.le_refl _) _).setCell (p := ⟨w.heap.size, 2, none⟩) (Nat.le_refl _) _).setCell (p := ⟨w.heap.size, 3, none⟩) (Nat.le_refl _) _).setCell (p := ⟨w.heap.size, 4, none⟩) (Nat.le_refl _) _))
          refine bodyPost_ret (resCT rfl _ _ w.heap.size 37 (repC 0 fd ds way st) _ rfl ?_ Try.underlying37 rfl (by kernel_rfl)) rfl ⟨.inr (.inr ⟨t, fd, ds, way, st, false, [], rfl, QG.out, .inl ⟨rfl, rfl, rfl⟩⟩), HEND.out⟩
          exact ((((KR.out.set_ 0 (.int .i64 0)).set_ 1 (.bool fd)).set_ 2 (.int .u64 ds)).set_ 3 way).set_ 4 (.int .u8 st)
        · have a00 : w5.cell? ⟨w1.heap.size, 0, none⟩ = some (.slice A5 (t'.length + 1) c5) := a0
          have hpos : (0 : Int) < ((t'.length + 1 : Nat) : Int) := by omega
          clear a0
          go_wp2_with fail
          refine bodyPost_ret (resCT rfl _ _ w.heap.size 37 (repC 0 false 0 nil_ 0) _ rfl ?_ Try.underlying37 rfl (by kernel_rfl)) rfl ⟨.inr (.inr ⟨t, fd, ds, way, st, false, _, rfl, QZ.out, .inr ⟨.inr (by simp), rfl⟩⟩), FINE.out _ _ _ _ HA5.out HB5.out⟩
          exact ((((KR.out.set_ 0 (.int .i64 0)).set_ 1 (.bool false)).set_ 2 (.int .u64 0)).set_ 3 (.slice none 0 0)).set_ 4 (.int .u8 0)
      · clear a0
        go_wp2_with fail
        refine bodyPost_ret (resCT rfl _ _ w.heap.size 37 (repC 0 false 0 nil_ 0) _ rfl ?_ Try.underlying37 rfl (by kernel_rfl)) rfl ⟨.inr (.inr ⟨t, fd, ds, way, st, true, _, rfl, QZ.out, .inr ⟨.inl rfl, rfl⟩⟩), FINE.out _ _ _ _ HA5.out HB5.out⟩
        exact ((((KR.out.set_ 0 (.int .i64 0)).set_ 1 (.bool false)).set_ 2 (.int .u64 0)).set_ 3 (.slice none 0 0)).set_ 4 (.int .u8 0)
    · have hd : ((b.toNat : Int) == 0) = false := by
        rw [beq_eq_false_iff_ne]
        intro e
        exact hz (UInt8.toNat_inj.1 (by show b.toNat = 0; omega))
      have HZ := Lib.hid hz
      clear hz k1
      rcases t with _ | ⟨b', t'⟩
      · obtain rfl : nt = 0 := hnt
        go_wp2_with fail
        have HEND : Hid (Below w.heap.size w (((((w4.setCell ⟨w.heap.size, 0, none⟩ (.int .i64 (b.toNat : Int))).setCell ⟨w.heap.size, 1, none⟩ (.bool false)).setCell ⟨w.heap.size, 2, none⟩ (.int .u64 0)).setCell ⟨w.heap.size, 3, none⟩ nil_).setCell ⟨w.heap.size, 4, none⟩ (.int .u8 0))) := Lib.hid ((((((HB4.out.setCell (p := ⟨w.heap.size, 0, none⟩) (Nat.le_refl _) _).setCell (p := ⟨w.heap.size, 1, none⟩) (Nat.le_refl _) _).setCell (p := ⟨w.heap.size, 2, none⟩) (Nat.le_refl _) _).setCell (p := ⟨w.heap.size, 3, none⟩) (Nat.le_refl _) _).setCell (p := ⟨w.heap.size, 4, none⟩) (Nat.le_refl _) _))
        refine bodyPost_ret (resCT rfl _ _ w.heap.size 37 (repC (b.toNat : Int) false 0 nil_ 0) _ rfl ?_ Try.underlying37 rfl (by kernel_rfl)) rfl ⟨.inr (.inl ⟨b, [], rfl, HZ.out, .inl ⟨rfl, rfl⟩⟩), HEND.out⟩
        exact ((((KR.out.set_ 0 (.int .i64 (b.toNat : Int))).set_ 1 (.bool false)).set_ 2 (.int .u64 0)).set_ 3 nil_).set_ 4 (.int .u8 0)
      · have hpos : (0 : Int) < (nt : Int) := by rw [hnt]; simp
        clear hnt
        go_wp2_with fail
        refine bodyPost_ret (resCT rfl _ _ w.heap.size 37 (repC 0 false 0 nil_ 0) _ rfl ?_ Try.underlying37 rfl (by kernel_rfl)) rfl ⟨.inr (.inl ⟨b, _, rfl, HZ.out, .inr ⟨by simp, rfl⟩⟩), FINE.out _ _ _ _ HA4.out HB4.out⟩
        exact ((((KR.out.set_ 0 (.int .i64 0)).set_ 1 (.bool false)).set_ 2 (.int .u64 0)).set_ 3 (.slice none 0 0)).set_ 4 (.int .u8 0)

set_option maxRecDepth 100000 in
set_option maxHeartbeats 6400000 in
theorem read_path (k n c : Nat) (g : Value) (A : Option Addr) (l : List UInt8) (Q : Bool → Nat → Value → Nat → Bool → List UInt8 → World → Prop) (w : World) (hg : g.oneCell' = true) (hl : l.length = n) (hb : Bytes w w.heap.size A l) (hn : n ≤ 1099511627776) (hnc : n ≤ c) (hcm : c ≤ maxLen)
    (hlk : ∀ W m, Kinds W m → (Instr.lookup 57 (.map (some m)) (.int .u8 k) true).run Try.prog W = .ok (.tuple #[.agg #[g, .func (.func 44) #[] #[]], .bool true]) W)
    (hQ : ∀ fd ds way st bd l' (W W' : World) R, Blk W w.heap.size 37 R → W.grownBy W' (some w.heap.size) → Q fd ds way st bd l' W → Q fd ds way st bd l' W')
    (hF : ∀ W ga t, l = 0 :: t → ARs W w.heap.size ga w.heap.size false (repC 0 false 0 nil_ 0) t → Below w.heap.size w W → Calls Try.prog 44 #[.pointer (some ⟨ga, 0, none⟩), .pointer (some ⟨w.heap.size, 0, none⟩)] W fun e w' => ∃ fd ds way st bd l', e = .returned (.tuple #[]) ∧ way.oneCell' = true ∧ Q fd ds way st bd l' w' ∧ ARs w' w.heap.size ga w.heap.size bd (repC 0 fd ds way st) l' ∧ Below w.heap.size W w') :
    Calls Try.prog 23 #[.int .u8 k, .slice A n c] w fun e w' => RH l Q e w' ∧ Below w.heap.size w w' := by
  have HL := Lib.hid hl
  have HB := Lib.hid hb
  have HLK := Lib.hid hlk
  have HQ := Lib.hid hQ
  have HF := Lib.hid hF
  have hgs : ∀ (W : World) (a : Addr) (m : Mode), (store a g m).run Try.prog W = stored Try.prog W a g m := fun W a m => run_store Try.prog W a g m hg
  clear hl hb hlk hQ hF
  have Z0 : Hid (Below w.heap.size w (w.alloc (.cells #[.int .i64 0, .bool false, .int .u64 0, .slice none 0 0, .int .u8 0] 37))) := by
    have h : Below w.heap.size w (w.alloc (.cells #[.int .i64 0, .bool false, .int .u64 0, .slice none 0 0, .int .u8 0] 37)) := (Below.refl _ _).alloc (Nat.le_refl _) _
    exact h
  have K0 : Hid (Blk (w.alloc (.cells #[.int .i64 0, .bool false, .int .u64 0, .slice none 0 0, .int .u8 0] 37)) w.heap.size 37 (repC 0 false 0 nil_ 0)) := by
    have h : Blk (w.alloc (.cells #[.int .i64 0, .bool false, .int .u64 0, .slice none 0 0, .int .u8 0] 37)) w.heap.size 37 (repC 0 false 0 nil_ 0) := Blk.new _ _ _
    exact h
  go_enter Try.func23, Try.ntmps23
  go_wp2_with fail
  generalize w.alloc (.cells #[.int .i64 0, .bool false, .int .u64 0, .slice none 0 0, .int .u8 0] 37) = w0 at *
  refine (kinds_any _).mono ?_
  rintro e wk ⟨m, rfl, hK, hge, hbk⟩
  have hlook := HLK.out _ _ hK
  have K1 := Lib.hid ((K0.out.below hbk K0.out.lt).alloc (.cells #[g, .func (.func 44) #[] #[]] 55))
  have Z1 : Hid (Below w.heap.size w (wk.alloc (.cells #[g, .func (.func 44) #[] #[]] 55))) := by
    have h0 := Z0.out.trans (hbk.mono Z0.out.size)
    have h := h0.alloc h0.size (.cells #[g, .func (.func 44) #[] #[]] 55)
    exact h
  have KW : Hid (Blk (wk.alloc (.cells #[g, .func (.func 44) #[] #[]] 55)) wk.heap.size 55 #[g, .func (.func 44) #[] #[]]) := Lib.hid (Blk.new _ _ _)
  clear hK hge hbk
  go_upto_region 4 with (fail)
  clear hlook
  generalize wk.alloc (.cells #[g, .func (.func 44) #[] #[]] 55) = w1 at *
  have HA2 : Hid (ARs (w1.alloc (.cells #[.slice A n c, .bool false] 66)) w.heap.size w1.heap.size w.heap.size false (repC 0 false 0 nil_ 0) l) := by
    have h : ARs (w1.alloc (.cells #[.slice A n c, .bool false] 66)) w.heap.size w1.heap.size w.heap.size false (repC 0 false 0 nil_ 0) l := by
      refine ⟨A, c, ?_, ?_, by rw [HL.out]; exact hnc, hcm, K1.out.alloc _, Z1.out.size, Nat.le_refl _, ?_⟩
      · rw [HL.out]; exact Blk.new _ _ _
      · exact HB.out.below (Z1.out.alloc Z1.out.size _)
      · have := Z1.out.size; simp; omega
    exact h
  have Z2 := Lib.hid (Z1.out.alloc Z1.out.size (.cells #[.slice A n c, .bool false] 66))
  have KW2 := Lib.hid (KW.out.alloc (.cells #[.slice A n c, .bool false] 66))
  have hkw : wk.heap.size < w1.heap.size := KW.out.lt
  have hlo1 : w.heap.size ≤ w1.heap.size := Z1.out.size
  have FINE : Hid (∀ (W : World) (bd : Bool) (R : Array Value) (l' : List UInt8), ARs W w.heap.size w1.heap.size w.heap.size bd R l' → Below w.heap.size w W → Below w.heap.size w (((((W.setCell ⟨w.heap.size, 0, none⟩ (.int .i64 0)).setCell ⟨w.heap.size, 1, none⟩ (.bool false)).setCell ⟨w.heap.size, 2, none⟩ (.int .u64 0)).setCell ⟨w.heap.size, 3, none⟩ (.slice none 0 0)).setCell ⟨w.heap.size, 4, none⟩ (.int .u8 0))) := by
    have h : ∀ (W : World) (bd : Bool) (R : Array Value) (l' : List UInt8), ARs W w.heap.size w1.heap.size w.heap.size bd R l' → Below w.heap.size w W → Below w.heap.size w (((((W.setCell ⟨w.heap.size, 0, none⟩ (.int .i64 0)).setCell ⟨w.heap.size, 1, none⟩ (.bool false)).setCell ⟨w.heap.size, 2, none⟩ (.int .u64 0)).setCell ⟨w.heap.size, 3, none⟩ (.slice none 0 0)).setCell ⟨w.heap.size, 4, none⟩ (.int .u8 0)) := fun W bd R l' _ hB =>
      (((((hB.setCell (p := ⟨w.heap.size, 0, none⟩) (Nat.le_refl _) _).setCell (p := ⟨w.heap.size, 1, none⟩) (Nat.le_refl _) _).setCell (p := ⟨w.heap.size, 2, none⟩) (Nat.le_refl _) _).setCell (p := ⟨w.heap.size, 3, none⟩) (Nat.le_refl _) _).setCell (p := ⟨w.heap.size, 4, none⟩) (Nat.le_refl _) _)
    exact h
  rcases l with _ | ⟨b, t⟩
  · obtain rfl : n = 0 := HL.out.symm
    go_wp2_with fail
    refine (take_no w.heap.size w1.heap.size w.heap.size 1 false _ [] _ HA2.out (by simp) (by simp)).mono ?_
    rintro e w3 ⟨rfl, hA3, hg3⟩
    have HA3 := Lib.hid hA3
    have HB3 := Lib.hid (below_only Z2.out hg3 hlo1 (by simp; omega))
    obtain ⟨A3, c3, h3⟩ := hA3
    have r0 : w3.cell? ⟨w.heap.size, 0, none⟩ = some (.int .i64 0) := (h3.r.cell 0).trans rfl
    have f0 := h3.r.frozen 0
    clear h3 hg3
    go_upto_region 6 with (fail)
    have HA4 : Hid (ARs (w3.setCell ⟨w.heap.size, 0, none⟩ (.int .i64 0)) w.heap.size w1.heap.size w.heap.size true (repC 0 false 0 nil_ 0) []) := by
      have h := HA3.out.reply 0 (.int .i64 0)
      exact h
    have HB4 := Lib.hid (HB3.out.setCell (p := ⟨w.heap.size, 0, none⟩) (Nat.le_refl _) (.int .i64 0))
    clear r0 f0
    generalize w3.setCell ⟨w.heap.size, 0, none⟩ (.int .i64 0) = w4 at *
    obtain ⟨A4, c4, h4⟩ := HA4.out
    have r0 : w4.cell? ⟨w.heap.size, 0, none⟩ = some (.int .i64 0) := (h4.r.cell 0).trans rfl
    have r1 : w4.cell? ⟨w.heap.size, 1, none⟩ = some (.bool false) := (h4.r.cell 1).trans rfl
    have r2 : w4.cell? ⟨w.heap.size, 2, none⟩ = some (.int .u64 0) := (h4.r.cell 2).trans rfl
    have r3 : w4.cell? ⟨w.heap.size, 3, none⟩ = some nil_ := (h4.r.cell 3).trans rfl
    have r4 : w4.cell? ⟨w.heap.size, 4, none⟩ = some (.int .u8 0) := (h4.r.cell 4).trans rfl
    have f0 := h4.r.frozen 0
    have f1 := h4.r.frozen 1
    have f2 := h4.r.frozen 2
    have f3 := h4.r.frozen 3
    have f4 := h4.r.frozen 4
    have a0 : w4.cell? ⟨w1.heap.size, 0, none⟩ = some (.slice A4 0 c4) := (h4.a.cell 0).trans rfl
    have a1 : w4.cell? ⟨w1.heap.size, 1, none⟩ = some (.bool true) := (h4.a.cell 1).trans rfl
    have KR : Hid (Blk w4 w.heap.size 37 (repC 0 false 0 nil_ 0)) := Lib.hid h4.r
    clear h4
    go_wp2_with fail
    refine bodyPost_ret (resCT rfl _ _ w.heap.size 37 (repC 0 false 0 nil_ 0) _ rfl ?_ Try.underlying37 rfl (by kernel_rfl)) rfl ⟨.inl ⟨rfl, rfl⟩, FINE.out _ _ _ _ HA4.out HB4.out⟩
    exact ((((KR.out.set_ 0 (.int .i64 0)).set_ 1 (.bool false)).set_ 2 (.int .u64 0)).set_ 3 (.slice none 0 0)).set_ 4 (.int .u8 0)
  · have hbl := b.toNat_lt
    go_wp2_with fail
    refine (take_ok w.heap.size w1.heap.size w.heap.size 1 false _ (b :: t) _ HA2.out (by rw [HL.out]; omega) sz1 (by simp)).mono ?_
    rintro e w3 ⟨rfl, hA3, hg3⟩
    rw [num_one]
    have HA3 := Lib.hid hA3
    have HB3 := Lib.hid (below_only Z2.out hg3 hlo1 (by simp; omega))
    have KW3 : Hid (Blk w3 wk.heap.size 55 #[g, .func (.func 44) #[] #[]]) := by
      have h : Blk w3 wk.heap.size 55 #[g, .func (.func 44) #[] #[]] := (hg3.block _ KW2.out.lt (by intro e; injection e with e; omega)).trans KW2.out
      exact h
    obtain ⟨A3, c3, h3⟩ := hA3
    have r0 : w3.cell? ⟨w.heap.size, 0, none⟩ = some (.int .i64 0) := (h3.r.cell 0).trans rfl
    have f0 := h3.r.frozen 0
    clear h3 hg3
    go_upto_region 6 with (fail)
    have HA4 : Hid (ARs (w3.setCell ⟨w.heap.size, 0, none⟩ (.int .i64 (b.toNat : Int))) w.heap.size w1.heap.size w.heap.size false (repC (b.toNat : Int) false 0 nil_ 0) t) := by
      have h := HA3.out.reply 0 (.int .i64 (b.toNat : Int))
      exact h
    have HB4 := Lib.hid (HB3.out.setCell (p := ⟨w.heap.size, 0, none⟩) (Nat.le_refl _) (.int .i64 (b.toNat : Int)))
    have KW4 := Lib.hid (KW3.out.far (p := ⟨w.heap.size, 0, none⟩) (by obtain ⟨A, c, h⟩ := HA3.out; exact blk_ne KW3.out h.r (by decide)) (.int .i64 (b.toNat : Int)))
    clear r0 f0
    generalize w3.setCell ⟨w.heap.size, 0, none⟩ (.int .i64 (b.toNat : Int)) = w4 at *
    obtain ⟨nt, hnt⟩ : ∃ nt, nt = t.length := ⟨_, rfl⟩
    obtain ⟨A4, c4, h4⟩ := HA4.out
    have r0 : w4.cell? ⟨w.heap.size, 0, none⟩ = some (.int .i64 (b.toNat : Int)) := (h4.r.cell 0).trans rfl
    have r1 : w4.cell? ⟨w.heap.size, 1, none⟩ = some (.bool false) := (h4.r.cell 1).trans rfl
    have r2 : w4.cell? ⟨w.heap.size, 2, none⟩ = some (.int .u64 0) := (h4.r.cell 2).trans rfl
    have r3 : w4.cell? ⟨w.heap.size, 3, none⟩ = some nil_ := (h4.r.cell 3).trans rfl
    have r4 : w4.cell? ⟨w.heap.size, 4, none⟩ = some (.int .u8 0) := (h4.r.cell 4).trans rfl
    have f0 := h4.r.frozen 0
    have f1 := h4.r.frozen 1
    have f2 := h4.r.frozen 2
    have f3 := h4.r.frozen 3
    have f4 := h4.r.frozen 4
    have a0 : w4.cell? ⟨w1.heap.size, 0, none⟩ = some (.slice A4 t.length c4) := (h4.a.cell 0).trans rfl
    have a1 : w4.cell? ⟨w1.heap.size, 1, none⟩ = some (.bool false) := (h4.a.cell 1).trans rfl
    have KR : Hid (Blk w4 w.heap.size 37 (repC (b.toNat : Int) false 0 nil_ 0)) := Lib.hid h4.r
    clear h4
    have k1 : w4.cell? ⟨wk.heap.size, 1, none⟩ = some (.func (.func 44) #[] #[]) := (KW4.out.cell 1).trans rfl
    rw [← hnt] at a0
    by_cases hz : b = 0
    · subst hz
      have hzz : ((0 : UInt8).toNat : Int) = 0 := rfl
      rw [hzz] at r0
      have HNT := Lib.hid hnt
      clear hnt hzz
      have HA4' : Hid (ARs w4 w.heap.size w1.heap.size w.heap.size false (repC 0 false 0 nil_ 0) t) := HA4
      go_wp2_with fail
      refine (HF.out w4 w1.heap.size t rfl HA4'.out HB4.out).mono ?_
      rintro e w5 ⟨fd, ds, way, st, bd, l', rfl, hway, hq, hA5, hb5⟩
      have HA5 := Lib.hid hA5
      have HB5 := Lib.hid (HB4.out.trans hb5)
      have HQ5 := Lib.hid hq
      have hws : ∀ (W : World) (a : Addr) (m : Mode), (store a way m).run Try.prog W = stored Try.prog W a way m := fun W a m => run_store Try.prog W a way m hway
      clear hA5 hb5 hq k1 r0 r1 r2 r3 r4 f0 f1 f2 f3 f4 a0 a1 KR hway
      have QZ : Hid (Q fd ds way st bd l' (((((w5.setCell ⟨w.heap.size, 0, none⟩ (.int .i64 0)).setCell ⟨w.heap.size, 1, none⟩ (.bool false)).setCell ⟨w.heap.size, 2, none⟩ (.int .u64 0)).setCell ⟨w.heap.size, 3, none⟩ (.slice none 0 0)).setCell ⟨w.heap.size, 4, none⟩ (.int .u8 0))) := by
        have h : Q fd ds way st bd l' (((((w5.setCell ⟨w.heap.size, 0, none⟩ (.int .i64 0)).setCell ⟨w.heap.size, 1, none⟩ (.bool false)).setCell ⟨w.heap.size, 2, none⟩ (.int .u64 0)).setCell ⟨w.heap.size, 3, none⟩ (.slice none 0 0)).setCell ⟨w.heap.size, 4, none⟩ (.int .u8 0)) := by
          obtain ⟨A, c, h⟩ := HA5.out
          exact HQ.out fd ds way st bd l' w5 _ _ h.r (grown_two (grown_two (grown_two (grown_two (grown_two (World.grownBy.refl w5 _) 0 _) 1 _) 2 _) 3 _) 4 _) HQ5.out
        exact h
      have QG : Hid (Q fd ds way st bd l' (((((w5.setCell ⟨w.heap.size, 0, none⟩ (.int .i64 0)).setCell ⟨w.heap.size, 1, none⟩ (.bool fd)).setCell ⟨w.heap.size, 2, none⟩ (.int .u64 ds)).setCell ⟨w.heap.size, 3, none⟩ way).setCell ⟨w.heap.size, 4, none⟩ (.int .u8 st))) := by
        have h : Q fd ds way st bd l' (((((w5.setCell ⟨w.heap.size, 0, none⟩ (.int .i64 0)).setCell ⟨w.heap.size, 1, none⟩ (.bool fd)).setCell ⟨w.heap.size, 2, none⟩ (.int .u64 ds)).setCell ⟨w.heap.size, 3, none⟩ way).setCell ⟨w.heap.size, 4, none⟩ (.int .u8 st)) := by
          obtain ⟨A, c, h⟩ := HA5.out
          exact HQ.out fd ds way st bd l' w5 _ _ h.r (grown_two (grown_two (grown_two (grown_two (grown_two (World.grownBy.refl w5 _) 0 _) 1 _) 2 _) 3 _) 4 _) HQ5.out
        exact h
      obtain ⟨A5, c5, h4⟩ := HA5.out
      have r0 : w5.cell? ⟨w.heap.size, 0, none⟩ = some (.int .i64 0) := (h4.r.cell 0).trans rfl
      have r1 : w5.cell? ⟨w.heap.size, 1, none⟩ = some (.bool fd) := (h4.r.cell 1).trans rfl
      have r2 : w5.cell? ⟨w.heap.size, 2, none⟩ = some (.int .u64 ds) := (h4.r.cell 2).trans rfl
      have r3 : w5.cell? ⟨w.heap.size, 3, none⟩ = some way := (h4.r.cell 3).trans rfl
      have r4 : w5.cell? ⟨w.heap.size, 4, none⟩ = some (.int .u8 st) := (h4.r.cell 4).trans rfl
      have f0 := h4.r.frozen 0
      have f1 := h4.r.frozen 1
      have f2 := h4.r.frozen 2
      have f3 := h4.r.frozen 3
      have f4 := h4.r.frozen 4
      have a0 : w5.cell? ⟨w1.heap.size, 0, none⟩ = some (.slice A5 l'.length c5) := (h4.a.cell 0).trans rfl
      have a1 : w5.cell? ⟨w1.heap.size, 1, none⟩ = some (.bool bd) := (h4.a.cell 1).trans rfl
      have KR : Hid (Blk w5 w.heap.size 37 (repC 0 fd ds way st)) := Lib.hid h4.r
      clear h4
      cases bd
      · rcases l' with _ | ⟨b', t'⟩
        · have a00 : w5.cell? ⟨w1.heap.size, 0, none⟩ = some (.slice A5 0 c5) := a0
          clear a0
          go_wp2_with fail
          have HEND : Hid (Below w.heap.size w (((((w5.setCell ⟨w.heap.size, 0, none⟩ (.int .i64 0)).setCell ⟨w.heap.size, 1, none⟩ (.bool fd)).setCell ⟨w.heap.size, 2, none⟩ (.int .u64 ds)).setCell ⟨w.heap.size, 3, none⟩ way).setCell ⟨w.heap.size, 4, none⟩ (.int .u8 st))) := Lib.hid ((((((HB5.out.setCell (p := ⟨w.heap.size, 0, none⟩) (Nat.le_refl _) _).setCell (p := ⟨w.heap.size, 1, none⟩) (Nat.le_refl _) _).setCell (p := ⟨w.heap.size, 2, none⟩) (Nat.le_refl _) _).setCell (p := ⟨w.heap.size, 3, none⟩) (Nat.le_refl _) _).setCell (p := ⟨w.heap.size, 4, none⟩) (Nat.le_refl _) _))
          refine bodyPost_ret (resCT rfl _ _ w.heap.size 37 (repC 0 fd ds way st) _ rfl ?_ Try.underlying37 rfl (by kernel_rfl)) rfl ⟨.inr (.inr ⟨t, fd, ds, way, st, false, [], rfl, QG.out, .inl ⟨rfl, rfl, rfl⟩⟩), HEND.out⟩
          exact ((((KR.out.set_ 0 (.int .i64 0)).set_ 1 (.bool fd)).set_ 2 (.int .u64 ds)).set_ 3 way).set_ 4 (.int .u8 st)
        · have a00 : w5.cell? ⟨w1.heap.size, 0, none⟩ = some (.slice A5 (t'.length + 1) c5) := a0
          have hpos : (0 : Int) < ((t'.length + 1 : Nat) : Int) := by omega
          clear a0
          go_wp2_with fail
          refine bodyPost_ret (resCT rfl _ _ w.heap.size 37 (repC 0 false 0 nil_ 0) _ rfl ?_ Try.underlying37 rfl (by kernel_rfl)) rfl ⟨.inr (.inr ⟨t, fd, ds, way, st, false, _, rfl, QZ.out, .inr ⟨.inr (by simp), rfl⟩⟩), FINE.out _ _ _ _ HA5.out HB5.out⟩
          exact ((((KR.out.set_ 0 (.int .i64 0)).set_ 1 (.bool false)).set_ 2 (.int .u64 0)).set_ 3 (.slice none 0 0)).set_ 4 (.int .u8 0)
      · clear a0
        go_wp2_with fail
        refine bodyPost_ret (resCT rfl _ _ w.heap.size 37 (repC 0 false 0 nil_ 0) _ rfl ?_ Try.underlying37 rfl (by kernel_rfl)) rfl ⟨.inr (.inr ⟨t, fd, ds, way, st, true, _, rfl, QZ.out, .inr ⟨.inl rfl, rfl⟩⟩), FINE.out _ _ _ _ HA5.out HB5.out⟩
        exact ((((KR.out.set_ 0 (.int .i64 0)).set_ 1 (.bool false)).set_ 2 (.int .u64 0)).set_ 3 (.slice none 0 0)).set_ 4 (.int .u8 0)
    · have hd : ((b.toNat : Int) == 0) = false := by
        rw [beq_eq_false_iff_ne]
        intro e
        exact hz (UInt8.toNat_inj.1 (by show b.toNat = 0; omega))
      have HZ := Lib.hid hz
      clear hz k1
      rcases t with _ | ⟨b', t'⟩
      · obtain rfl : nt = 0 := hnt
        go_wp2_with fail
        have HEND : Hid (Below w.heap.size w (((((w4.setCell ⟨w.heap.size, 0, none⟩ (.int .i64 (b.toNat : Int))).setCell ⟨w.heap.size, 1, none⟩ (.bool false)).setCell ⟨w.heap.size, 2, none⟩ (.int .u64 0)).setCell ⟨w.heap.size, 3, none⟩ nil_).setCell ⟨w.heap.size, 4, none⟩ (.int .u8 0))) := Lib.hid ((((((HB4.out.setCell (p := ⟨w.heap.size, 0, none⟩) (Nat.le_refl _) _).setCell (p := ⟨w.heap.size, 1, none⟩) (Nat.le_refl _) _).setCell (p := ⟨w.heap.size, 2, none⟩) (Nat.le_refl _) _).setCell (p := ⟨w.heap.size, 3, none⟩) (Nat.le_refl _) _).setCell (p := ⟨w.heap.size, 4, none⟩) (Nat.le_refl _) _))
        refine bodyPost_ret (resCT rfl _ _ w.heap.size 37 (repC (b.toNat : Int) false 0 nil_ 0) _ rfl ?_ Try.underlying37 rfl (by kernel_rfl)) rfl ⟨.inr (.inl ⟨b, [], rfl, HZ.out, .inl ⟨rfl, rfl⟩⟩), HEND.out⟩
        exact ((((KR.out.set_ 0 (.int .i64 (b.toNat : Int))).set_ 1 (.bool false)).set_ 2 (.int .u64 0)).set_ 3 nil_).set_ 4 (.int .u8 0)
      · have hpos : (0 : Int) < (nt : Int) := by rw [hnt]; simp
        clear hnt
        go_wp2_with fail
        refine bodyPost_ret (resCT rfl _ _ w.heap.size 37 (repC 0 false 0 nil_ 0) _ rfl ?_ Try.underlying37 rfl (by kernel_rfl)) rfl ⟨.inr (.inl ⟨b, _, rfl, HZ.out, .inr ⟨by simp, rfl⟩⟩), FINE.out _ _ _ _ HA4.out HB4.out⟩
        exact ((((KR.out.set_ 0 (.int .i64 0)).set_ 1 (.bool false)).set_ 2 (.int .u64 0)).set_ 3 (.slice none 0 0)).set_ 4 (.int .u8 0)

set_option maxRecDepth 100000 in
set_option maxHeartbeats 6400000 in
theorem read_state (k n c : Nat) (g : Value) (A : Option Addr) (l : List UInt8) (Q : Bool → Nat → Value → Nat → Bool → List UInt8 → World → Prop) (w : World) (hg : g.oneCell' = true) (hl : l.length = n) (hb : Bytes w w.heap.size A l) (hn : n ≤ 1099511627776) (hnc : n ≤ c) (hcm : c ≤ maxLen)
    (hlk : ∀ W m, Kinds W m → (Instr.lookup 57 (.map (some m)) (.int .u8 k) true).run Try.prog W = .ok (.tuple #[.agg #[g, .func (.func 46) #[] #[]], .bool true]) W)
    (hQ : ∀ fd ds way st bd l' (W W' : World) R, Blk W w.heap.size 37 R → W.grownBy W' (some w.heap.size) → Q fd ds way st bd l' W → Q fd ds way st bd l' W')
    (hF : ∀ W ga t, l = 0 :: t → ARs W w.heap.size ga w.heap.size false (repC 0 false 0 nil_ 0) t → Below w.heap.size w W → Calls Try.prog 46 #[.pointer (some ⟨ga, 0, none⟩), .pointer (some ⟨w.heap.size, 0, none⟩)] W fun e w' => ∃ fd ds way st bd l', e = .returned (.tuple #[]) ∧ way.oneCell' = true ∧ Q fd ds way st bd l' w' ∧ ARs w' w.heap.size ga w.heap.size bd (repC 0 fd ds way st) l' ∧ Below w.heap.size W w') :
    Calls Try.prog 23 #[.int .u8 k, .slice A n c] w fun e w' => RH l Q e w' ∧ Below w.heap.size w w' := by
  have HL := Lib.hid hl
  have HB := Lib.hid hb
  have HLK := Lib.hid hlk
  have HQ := Lib.hid hQ
  have HF := Lib.hid hF
  have hgs : ∀ (W : World) (a : Addr) (m : Mode), (store a g m).run Try.prog W = stored Try.prog W a g m := fun W a m => run_store Try.prog W a g m hg
  clear hl hb hlk hQ hF
  have Z0 : Hid (Below w.heap.size w (w.alloc (.cells #[.int .i64 0, .bool false, .int .u64 0, .slice none 0 0, .int .u8 0] 37))) := by
    have h : Below w.heap.size w (w.alloc (.cells #[.int .i64 0, .bool false, .int .u64 0, .slice none 0 0, .int .u8 0] 37)) := (Below.refl _ _).alloc (Nat.le_refl _) _
    exact h
  have K0 : Hid (Blk (w.alloc (.cells #[.int .i64 0, .bool false, .int .u64 0, .slice none 0 0, .int .u8 0] 37)) w.heap.size 37 (repC 0 false 0 nil_ 0)) := by
    have h : Blk (w.alloc (.cells #[.int .i64 0, .bool false, .int .u64 0, .slice none 0 0, .int .u8 0] 37)) w.heap.size 37 (repC 0 false 0 nil_ 0) := Blk.new _ _ _
    exact h
  go_enter Try.func23, Try.ntmps23
  go_wp2_with fail
  generalize w.alloc (.cells #[.int .i64 0, .bool false, .int .u64 0, .slice none 0 0, .int .u8 0] 37) = w0 at *
  refine (kinds_any _).mono ?_
  rintro e wk ⟨m, rfl, hK, hge, hbk⟩
  have hlook := HLK.out _ _ hK
  have K1 := Lib.hid ((K0.out.below hbk K0.out.lt).alloc (.cells #[g, .func (.func 46) #[] #[]] 55))
  have Z1 : Hid (Below w.heap.size w (wk.alloc (.cells #[g, .func (.func 46) #[] #[]] 55))) := by
    have h0 := Z0.out.trans (hbk.mono Z0.out.size)
    have h := h0.alloc h0.size (.cells #[g, .func (.func 46) #[] #[]] 55)
    exact h
  have KW : Hid (Blk (wk.alloc (.cells #[g, .func (.func 46) #[] #[]] 55)) wk.heap.size 55 #[g, .func (.func 46) #[] #[]]) := Lib.hid (Blk.new _ _ _)
  clear hK hge hbk
  go_upto_region 4 with (fail)
  clear hlook
  generalize wk.alloc (.cells #[g, .func (.func 46) #[] #[]] 55) = w1 at *
  have HA2 : Hid (ARs (w1.alloc (.cells #[.slice A n c, .bool false] 66)) w.heap.size w1.heap.size w.heap.size false (repC 0 false 0 nil_ 0) l) := by
    have h : ARs (w1.alloc (.cells #[.slice A n c, .bool false] 66)) w.heap.size w1.heap.size w.heap.size false (repC 0 false 0 nil_ 0) l := by
      refine ⟨A, c, ?_, ?_, by rw [HL.out]; exact hnc, hcm, K1.out.alloc _, Z1.out.size, Nat.le_refl _, ?_⟩
      · rw [HL.out]; exact Blk.new _ _ _
      · exact HB.out.below (Z1.out.alloc Z1.out.size _)
      · have := Z1.out.size; simp; omega
    exact h
  have Z2 := Lib.hid (Z1.out.alloc Z1.out.size (.cells #[.slice A n c, .bool false] 66))
  have KW2 := Lib.hid (KW.out.alloc (.cells #[.slice A n c, .bool false] 66))
  have hkw : wk.heap.size < w1.heap.size := KW.out.lt
  have hlo1 : w.heap.size ≤ w1.heap.size := Z1.out.size
  have FINE : Hid (∀ (W : World) (bd : Bool) (R : Array Value) (l' : List UInt8), ARs W w.heap.size w1.heap.size w.heap.size bd R l' → Below w.heap.size w W → Below w.heap.size w (((((W.setCell ⟨w.heap.size, 0, none⟩ (.int .i64 0)).setCell ⟨w.heap.size, 1, none⟩ (.bool false)).setCell ⟨w.heap.size, 2, none⟩ (.int .u64 0)).setCell ⟨w.heap.size, 3, none⟩ (.slice none 0 0)).setCell ⟨w.heap.size, 4, none⟩ (.int .u8 0))) := by
    have h : ∀ (W : World) (bd : Bool) (R : Array Value) (l' : List UInt8), ARs W w.heap.size w1.heap.size w.heap.size bd R l' → Below w.heap.size w W → Below w.heap.size w (((((W.setCell ⟨w.heap.size, 0, none⟩ (.int .i64 0)).setCell ⟨w.heap.size, 1, none⟩ (.bool false)).setCell ⟨w.heap.size, 2, none⟩ (.int .u64 0)).setCell ⟨w.heap.size, 3, none⟩ (.slice none 0 0)).setCell ⟨w.heap.size, 4, none⟩ (.int .u8 0)) := fun W bd R l' _ hB =>
      (((((hB.setCell (p := ⟨w.heap.size, 0, none⟩) (Nat.le_refl _) _).setCell (p := ⟨w.heap.size, 1, none⟩) (Nat.le_refl _) _).setCell (p := ⟨w.heap.size, 2, none⟩) (Nat.le_refl _) _).setCell (p := ⟨w.heap.size, 3, none⟩) (Nat.le_refl _) _).setCell (p := ⟨w.heap.size, 4, none⟩) (Nat.le_refl _) _)
    exact h
  rcases l with _ | ⟨b, t⟩
  · obtain rfl : n = 0 := HL.out.symm
    go_wp2_with fail
    refine (take_no w.heap.size w1.heap.size w.heap.size 1 false _ [] _ HA2.out (by simp) (by simp)).mono ?_
    rintro e w3 ⟨rfl, hA3, hg3⟩
    have HA3 := Lib.hid hA3
    have HB3 := Lib.hid (below_only Z2.out hg3 hlo1 (by simp; omega))
    obtain ⟨A3, c3, h3⟩ := hA3
    have r0 : w3.cell? ⟨w.heap.size, 0, none⟩ = some (.int .i64 0) := (h3.r.cell 0).trans rfl
    have f0 := h3.r.frozen 0
    clear h3 hg3
    go_upto_region 6 with (fail)
    have HA4 : Hid (ARs (w3.setCell ⟨w.heap.size, 0, none⟩ (.int .i64 0)) w.heap.size w1.heap.size w.heap.size true (repC 0 false 0 nil_ 0) []) := by
      have h := HA3.out.reply 0 (.int .i64 0)
      exact h
    have HB4 := Lib.hid (HB3.out.setCell (p := ⟨w.heap.size, 0, none⟩) (Nat.le_refl _) (.int .i64 0))
    clear r0 f0
    generalize w3.setCell ⟨w.heap.size, 0, none⟩ (.int .i64 0) = w4 at *
    obtain ⟨A4, c4, h4⟩ := HA4.out
    have r0 : w4.cell? ⟨w.heap.size, 0, none⟩ = some (.int .i64 0) := (h4.r.cell 0).trans rfl
    have r1 : w4.cell? ⟨w.heap.size, 1, none⟩ = some (.bool false) := (h4.r.cell 1).trans rfl
    have r2 : w4.cell? ⟨w.heap.size, 2, none⟩ = some (.int .u64 0) := (h4.r.cell 2).trans rfl
    have r3 : w4.cell? ⟨w.heap.size, 3, none⟩ = some nil_ := (h4.r.cell 3).trans rfl
    have r4 : w4.cell? ⟨w.heap.size, 4, none⟩ = some (.int .u8 0) := (h4.r.cell 4).trans rfl
    have f0 := h4.r.frozen 0
    have f1 := h4.r.frozen 1
    have f2 := h4.r.frozen 2
    have f3 := h4.r.frozen 3
    have f4 := h4.r.frozen 4
    have a0 : w4.cell? ⟨w1.heap.size, 0, none⟩ = some (.slice A4 0 c4) := (h4.a.cell 0).trans rfl
    have a1 : w4.cell? ⟨w1.heap.size, 1, none⟩ = some (.bool true) := (h4.a.cell 1).trans rfl
    have KR : Hid (Blk w4 w.heap.size 37 (repC 0 false 0 nil_ 0)) := Lib.hid h4.r
    clear h4
    go_wp2_with fail
    refine bodyPost_ret (resCT rfl _ _ w.heap.size 37 (repC 0 false 0 nil_ 0) _ rfl ?_ Try.underlying37 rfl (by kernel_rfl)) rfl ⟨.inl ⟨rfl, rfl⟩, FINE.out _ _ _ _ HA4.out HB4.out⟩
    exact ((((KR.out.set_ 0 (.int .i64 0)).set_ 1 (.bool false)).set_ 2 (.int .u64 0)).set_ 3 (.slice none 0 0)).set_ 4 (.int .u8 0)
  · have hbl := b.toNat_lt
    go_wp2_with fail
    refine (take_ok w.heap.size w1.heap.size w.heap.size 1 false _ (b :: t) _ HA2.out (by rw [HL.out]; omega) sz1 (by simp)).mono ?_
    rintro e w3 ⟨rfl, hA3, hg3⟩
    rw [num_one]
    have HA3 := Lib.hid hA3
    have HB3 := Lib.hid (below_only Z2.out hg3 hlo1 (by simp; omega))
    have KW3 : Hid (Blk w3 wk.heap.size 55 #[g, .func (.func 46) #[] #[]]) := by
      have h : Blk w3 wk.heap.size 55 #[g, .func (.func 46) #[] #[]] := (hg3.block _ KW2.out.lt (by intro e; injection e with e; omega)).trans KW2.out
      exact h
    obtain ⟨A3, c3, h3⟩ := hA3
    have r0 : w3.cell? ⟨w.heap.size, 0, none⟩ = some (.int .i64 0) := (h3.r.cell 0).trans rfl
    have f0 := h3.r.frozen 0
    clear h3 hg3
    go_upto_region 6 with (fail)
    have HA4 : Hid (ARs (w3.setCell ⟨w.heap.size, 0, none⟩ (.int .i64 (b.toNat : Int))) w.heap.size w1.heap.size w.heap.size false (repC (b.toNat : Int) false 0 nil_ 0) t) := by
      have h := HA3.out.reply 0 (.int .i64 (b.toNat : Int))
      exact h
    have HB4 := Lib.hid (HB3.out.setCell (p := ⟨w.heap.size, 0, none⟩) (Nat.le_refl _) (.int .i64 (b.toNat : Int)))
    have KW4 := Lib.hid (KW3.out.far (p := ⟨w.heap.size, 0, none⟩) (by obtain ⟨A, c, h⟩ := HA3.out; exact blk_ne KW3.out h.r (by decide)) (.int .i64 (b.toNat : Int)))
    clear r0 f0
    generalize w3.setCell ⟨w.heap.size, 0, none⟩ (.int .i64 (b.toNat : Int)) = w4 at *
    obtain ⟨nt, hnt⟩ : ∃ nt, nt = t.length := ⟨_, rfl⟩
    obtain ⟨A4, c4, h4⟩ := HA4.out
    have r0 : w4.cell? ⟨w.heap.size, 0, none⟩ = some (.int .i64 (b.toNat : Int)) := (h4.r.cell 0).trans rfl
    have r1 : w4.cell? ⟨w.heap.size, 1, none⟩ = some (.bool false) := (h4.r.cell 1).trans rfl
    have r2 : w4.cell? ⟨w.heap.size, 2, none⟩ = some (.int .u64 0) := (h4.r.cell 2).trans rfl
    have r3 : w4.cell? ⟨w.heap.size, 3, none⟩ = some nil_ := (h4.r.cell 3).trans rfl
    have r4 : w4.cell? ⟨w.heap.size, 4, none⟩ = some (.int .u8 0) := (h4.r.cell 4).trans rfl
    have f0 := h4.r.frozen 0
    have f1 := h4.r.frozen 1
    have f2 := h4.r.frozen 2
    have f3 := h4.r.frozen 3
    have f4 := h4.r.frozen 4
    have a0 : w4.cell? ⟨w1.heap.size, 0, none⟩ = some (.slice A4 t.length c4) := (h4.a.cell 0).trans rfl
    have a1 : w4.cell? ⟨w1.heap.size, 1, none⟩ = some (.bool false) := (h4.a.cell 1).trans rfl
    have KR : Hid (Blk w4 w.heap.size 37 (repC (b.toNat : Int) false 0 nil_ 0)) := Lib.hid h4.r
    clear h4
    have k1 : w4.cell? ⟨wk.heap.size, 1, none⟩ = some (.func (.func 46) #[] #[]) := (KW4.out.cell 1).trans rfl
    rw [← hnt] at a0
    by_cases hz : b = 0
    · subst hz
      have hzz : ((0 : UInt8).toNat : Int) = 0 := rfl
      rw [hzz] at r0
      have HNT := Lib.hid hnt
      clear hnt hzz
      have HA4' : Hid (ARs w4 w.heap.size w1.heap.size w.heap.size false (repC 0 false 0 nil_ 0) t) := HA4
      go_wp2_with fail
      refine (HF.out w4 w1.heap.size t rfl HA4'.out HB4.out).mono ?_
      rintro e w5 ⟨fd, ds, way, st, bd, l', rfl, hway, hq, hA5, hb5⟩
      have HA5 := Lib.hid hA5
      have HB5 := Lib.hid (HB4.out.trans hb5)
      have HQ5 := Lib.hid hq
      have hws : ∀ (W : World) (a : Addr) (m : Mode), (store a way m).run Try.prog W = stored Try.prog W a way m := fun W a m => run_store Try.prog W a way m hway
      clear hA5 hb5 hq k1 r0 r1 r2 r3 r4 f0 f1 f2 f3 f4 a0 a1 KR hway
      have QZ : Hid (Q fd ds way st bd l' (((((w5.setCell ⟨w.heap.size, 0, none⟩ (.int .i64 0)).setCell ⟨w.heap.size, 1, none⟩ (.bool false)).setCell ⟨w.heap.size, 2, none⟩ (.int .u64 0)).setCell ⟨w.heap.size, 3, none⟩ (.slice none 0 0)).setCell ⟨w.heap.size, 4, none⟩ (.int .u8 0))) := by
        have h : Q fd ds way st bd l' (((((w5.setCell ⟨w.heap.size, 0, none⟩ (.int .i64 0)).setCell ⟨w.heap.size, 1, none⟩ (.bool false)).setCell ⟨w.heap.size, 2, none⟩ (.int .u64 0)).setCell ⟨w.heap.size, 3, none⟩ (.slice none 0 0)).setCell ⟨w.heap.size, 4, none⟩ (.int .u8 0)) := by
          obtain ⟨A, c, h⟩ := HA5.out
          exact HQ.out fd ds way st bd l' w5 _ _ h.r (grown_two (grown_two (grown_two (grown_two (grown_two (World.grownBy.refl w5 _) 0 _) 1 _) 2 _) 3 _) 4 _) HQ5.out
        exact h
      have QG : Hid (Q fd ds way st bd l' (((((w5.setCell ⟨w.heap.size, 0, none⟩ (.int .i64 0)).setCell ⟨w.heap.size, 1, none⟩ (.bool fd)).setCell ⟨w.heap.size, 2, none⟩ (.int .u64 ds)).setCell ⟨w.heap.size, 3, none⟩ way).setCell ⟨w.heap.size, 4, none⟩ (.int .u8 st))) := by
        have h : Q fd ds way st bd l' (((((w5.setCell ⟨w.heap.size, 0, none⟩ (.int .i64 0)).setCell ⟨w.heap.size, 1, none⟩ (.bool fd)).setCell ⟨w.heap.size, 2, none⟩ (.int .u64 ds)).setCell ⟨w.heap.size, 3, none⟩ way).setCell ⟨w.heap.size, 4, none⟩ (.int .u8 st)) := by
          obtain ⟨A, c, h⟩ := HA5.out
          exact HQ.out fd ds way st bd l' w5 _ _ h.r (grown_two (grown_two (grown_two (grown_two (grown_two (World.grownBy.refl w5 _) 0 _) 1 _) 2 _) 3 _) 4 _) HQ5.out
        exact h
      obtain ⟨A5, c5, h4⟩ := HA5.out
      have r0 : w5.cell? ⟨w.heap.size, 0, none⟩ = some (.int .i64 0) := (h4.r.cell 0).trans rfl
      have r1 : w5.cell? ⟨w.heap.size, 1, none⟩ = some (.bool fd) := (h4.r.cell 1).trans rfl
      have r2 : w5.cell? ⟨w.heap.size, 2, none⟩ = some (.int .u64 ds) := (h4.r.cell 2).trans rfl
      have r3 : w5.cell? ⟨w.heap.size, 3, none⟩ = some way := (h4.r.cell 3).trans rfl
      have r4 : w5.cell? ⟨w.heap.size, 4, none⟩ = some (.int .u8 st) := (h4.r.cell 4).trans rfl
      have f0 := h4.r.frozen 0
      have f1 := h4.r.frozen 1
      have f2 := h4.r.frozen 2
      have f3 := h4.r.frozen 3
      have f4 := h4.r.frozen 4
      have a0 : w5.cell? ⟨w1.heap.size, 0, none⟩ = some (.slice A5 l'.length c5) := (h4.a.cell 0).trans rfl
      have a1 : w5.cell? ⟨w1.heap.size, 1, none⟩ = some (.bool bd) := (h4.a.cell 1).trans rfl
      have KR : Hid (Blk w5 w.heap.size 37 (repC 0 fd ds way st)) := Lib.hid h4.r
      clear h4
      cases bd
      · rcases l' with _ | ⟨b', t'⟩
        · have a00 : w5.cell? ⟨w1.heap.size, 0, none⟩ = some (.slice A5 0 c5) := a0
          clear a0
          go_wp2_with fail
          have HEND : Hid (Below w.heap.size w (((((w5.setCell ⟨w.heap.size, 0, none⟩ (.int .i64 0)).setCell ⟨w.heap.size, 1, none⟩ (.bool fd)).setCell ⟨w.heap.size, 2, none⟩ (.int .u64 ds)).setCell ⟨w.heap.size, 3, none⟩ way).setCell ⟨w.heap.size, 4, none⟩ (.int .u8 st))) := Lib.hid ((((((HB5.out.setCell (p := ⟨w.heap.size, 0, none⟩) (Nat.le_refl _) _).setCell (p := ⟨w.heap.size, 1, none⟩) (Nat.le_refl _) _).setCell (p := ⟨w.heap.size, 2, none⟩) (Nat.le_refl _) _).setCell (p := ⟨w.heap.size, 3, none⟩) (Nat.le_refl _) _).setCell (p := ⟨w.heap.size, 4, none⟩) (Nat.le_refl _) _))
          refine bodyPost_ret (resCT rfl _ _ w.heap.size 37 (repC 0 fd ds way st) _ rfl ?_ Try.underlying37 rfl (by kernel_rfl)) rfl ⟨.inr (.inr ⟨t, fd, ds, way, st, false, [], rfl, QG.out, .inl ⟨rfl, rfl, rfl⟩⟩), HEND.out⟩
          exact ((((KR.out.set_ 0 (.int .i64 0)).set_ 1 (.bool fd)).set_ 2 (.int .u64 ds)).set_ 3 way).set_ 4 (.int .u8 st)
        · have a00 : w5.cell? ⟨w1.heap.size, 0, none⟩ = some (.slice A5 (t'.length + 1) c5) := a0
          have hpos : (0 : Int) < ((t'.length + 1 : Nat) : Int) := by omega
          clear a0
          go_wp2_with fail
          refine bodyPost_ret (resCT rfl _ _ w.heap.size 37 (repC 0 false 0 nil_ 0) _ rfl ?_ Try.underlying37 rfl (by kernel_rfl)) rfl ⟨.inr (.inr ⟨t, fd, ds, way, st, false, _, rfl, QZ.out, .inr ⟨.inr (by simp), rfl⟩⟩), FINE.out _ _ _ _ HA5.out HB5.out⟩
          exact ((((KR.out.set_ 0 (.int .i64 0)).set_ 1 (.bool false)).set_ 2 (.int .u64 0)).set_ 3 (.slice none 0 0)).set_ 4 (.int .u8 0)
      · clear a0
        go_wp2_with fail
        refine bodyPost_ret (resCT rfl _ _ w.heap.size 37 (repC 0 false 0 nil_ 0) _ rfl ?_ Try.underlying37 rfl (by kernel_rfl)) rfl ⟨.inr (.inr ⟨t, fd, ds, way, st, true, _, rfl, QZ.out, .inr ⟨.inl rfl, rfl⟩⟩), FINE.out _ _ _ _ HA5.out HB5.out⟩
        exact ((((KR.out.set_ 0 (.int .i64 0)).set_ 1 (.bool false)).set_ 2 (.int .u64 0)).set_ 3 (.slice none 0 0)).set_ 4 (.int .u8 0)
    · have hd : ((b.toNat : Int) == 0) = false := by
        rw [beq_eq_false_iff_ne]
        intro e
        exact hz (UInt8.toNat_inj.1 (by show b.toNat = 0; omega))
      have HZ := Lib.hid hz
      clear hz k1
      rcases t with _ | ⟨b', t'⟩
      · obtain rfl : nt = 0 := hnt
        go_wp2_with fail
        have HEND : Hid (Below w.heap.size w (((((w4.setCell ⟨w.heap.size, 0, none⟩ (.int .i64 (b.toNat : Int))).setCell ⟨w.heap.size, 1, none⟩ (.bool false)).setCell ⟨w.heap.size, 2, none⟩ (.int .u64 0)).setCell ⟨w.heap.size, 3, none⟩ nil_).setCell ⟨w.heap.size, 4, none⟩ (.int .u8 0))) := Lib.hid ((((((HB4.out.setCell (p := ⟨w.heap.size, 0, none⟩) (Nat.le_refl _) _).setCell (p := ⟨w.heap.size, 1, none⟩) (Nat.le_refl _) _).setCell (p := ⟨w.heap.size, 2, none⟩) (Nat.le_refl _) _).setCell (p := ⟨w.heap.size, 3, none⟩) (Nat.le_refl _) _).setCell (p := ⟨w.heap.size, 4, none⟩) (Nat.le_refl _) _))
        refine bodyPost_ret (resCT rfl _ _ w.heap.size 37 (repC (b.toNat : Int) false 0 nil_ 0) _ rfl ?_ Try.underlying37 rfl (by kernel_rfl)) rfl ⟨.inr (.inl ⟨b, [], rfl, HZ.out, .inl ⟨rfl, rfl⟩⟩), HEND.out⟩
        exact ((((KR.out.set_ 0 (.int .i64 (b.toNat : Int))).set_ 1 (.bool false)).set_ 2 (.int .u64 0)).set_ 3 nil_).set_ 4 (.int .u8 0)
      · have hpos : (0 : Int) < (nt : Int) := by rw [hnt]; simp
        clear hnt
        go_wp2_with fail
        refine bodyPost_ret (resCT rfl _ _ w.heap.size 37 (repC 0 false 0 nil_ 0) _ rfl ?_ Try.underlying37 rfl (by kernel_rfl)) rfl ⟨.inr (.inl ⟨b, _, rfl, HZ.out, .inr ⟨by simp, rfl⟩⟩), FINE.out _ _ _ _ HA4.out HB4.out⟩
        exact ((((KR.out.set_ 0 (.int .i64 0)).set_ 1 (.bool false)).set_ 2 (.int .u64 0)).set_ 3 (.slice none 0 0)).set_ 4 (.int .u8 0)

set_option maxRecDepth 100000 in
set_option maxHeartbeats 3200000 in
/-- ReadAnswer, of no kind. -/
theorem read_none (k n c : Nat) (A : Option Addr) (w : World) (hk1 : k ≠ 1) (hk2 : k ≠ 2) (hk3 : k ≠ 3) :
    Calls Try.prog 23 #[.int .u8 k, .slice A n c] w fun e w' => e = noAns ∧ Below w.heap.size w w' := by
  have Z0 : Hid (Below w.heap.size w (w.alloc (.cells #[.int .i64 0, .bool false, .int .u64 0, .slice none 0 0, .int .u8 0] 37))) := by
    have h : Below w.heap.size w (w.alloc (.cells #[.int .i64 0, .bool false, .int .u64 0, .slice none 0 0, .int .u8 0] 37)) := (Below.refl _ _).alloc (Nat.le_refl _) _
    exact h
  have K0 : Hid (Blk (w.alloc (.cells #[.int .i64 0, .bool false, .int .u64 0, .slice none 0 0, .int .u8 0] 37)) w.heap.size 37 (repC 0 false 0 nil_ 0)) := by
    have h : Blk (w.alloc (.cells #[.int .i64 0, .bool false, .int .u64 0, .slice none 0 0, .int .u8 0] 37)) w.heap.size 37 (repC 0 false 0 nil_ 0) := Blk.new _ _ _
    exact h
  have H1 := Lib.hid hk1
  have H2 := Lib.hid hk2
  have H3 := Lib.hid hk3
  clear hk1 hk2 hk3
  go_enter Try.func23, Try.ntmps23
  go_wp2_with fail
  generalize w.alloc (.cells #[.int .i64 0, .bool false, .int .u64 0, .slice none 0 0, .int .u8 0] 37) = w0 at *
  refine (kinds_any _).mono ?_
  rintro e wk ⟨m, rfl, hK, hge, hbk⟩
  have hlook := look_no k H1.out H2.out H3.out hK
  have K1 := Lib.hid ((K0.out.below hbk K0.out.lt).alloc (.cells #[.nilFunc, .nilFunc] 55))
  have Z1 : Hid (Below w.heap.size w (wk.alloc (.cells #[.nilFunc, .nilFunc] 55))) := by
    have h0 := Z0.out.trans (hbk.mono Z0.out.size)
    have h := h0.alloc h0.size (.cells #[.nilFunc, .nilFunc] 55)
    exact h
  clear hK hge hbk
  go_upto_region 2 with (fail)
  clear hlook
  generalize wk.alloc (.cells #[.nilFunc, .nilFunc] 55) = w1 at *
  have r0 : w1.cell? ⟨w.heap.size, 0, none⟩ = some (.int .i64 0) := (K1.out.cell 0).trans rfl
  have r1 : w1.cell? ⟨w.heap.size, 1, none⟩ = some (.bool false) := (K1.out.cell 1).trans rfl
  have r2 : w1.cell? ⟨w.heap.size, 2, none⟩ = some (.int .u64 0) := (K1.out.cell 2).trans rfl
  have r3 : w1.cell? ⟨w.heap.size, 3, none⟩ = some (.slice none 0 0) := (K1.out.cell 3).trans rfl
  have r4 : w1.cell? ⟨w.heap.size, 4, none⟩ = some (.int .u8 0) := (K1.out.cell 4).trans rfl
  have f0 := K1.out.frozen 0
  have f1 := K1.out.frozen 1
  have f2 := K1.out.frozen 2
  have f3 := K1.out.frozen 3
  have f4 := K1.out.frozen 4
  go_wp2_with fail
  refine bodyPost_ret (resCT rfl _ _ w.heap.size 37 (repC 0 false 0 nil_ 0) _ rfl ?_ Try.underlying37 rfl (by kernel_rfl)) rfl ⟨rfl, (((((Z1.out.setCell (p := ⟨w.heap.size, 0, none⟩) (Nat.le_refl _) _).setCell (p := ⟨w.heap.size, 1, none⟩) (Nat.le_refl _) _).setCell (p := ⟨w.heap.size, 2, none⟩) (Nat.le_refl _) _).setCell (p := ⟨w.heap.size, 3, none⟩) (Nat.le_refl _) _).setCell (p := ⟨w.heap.size, 4, none⟩) (Nat.le_refl _) _)⟩
  exact ((((K1.out.set_ 0 (.int .i64 0)).set_ 1 (.bool false)).set_ 2 (.int .u64 0)).set_ 3 (.slice none 0 0)).set_ 4 (.int .u8 0)
end Go.Proofs.Ytjiiabekjiilbaa
