/- What Write of package request writes, and Read reads. -/
import Derived.Test.YtjiiabekjiilbaaReqKinds
import Derived.Test.YtjiiabekjiilbaaOctWrite
import Derived.Test.YtjiiabekjiilbaaOctGet
import Derived.Test.YtjiiabekjiilbaaRes
import Derived.Test.YtjiiabekjiilbaaSame
import Derived.Deep.RegionHeld3
import Derived.IntWalk
set_option linter.unusedSimpArgs false
set_option linter.unusedVariables false
namespace Go.Proofs.Ytjiiabekjiilbaa
open Go.RowKit Mp

theorem sz1 : Sz (1 : Int) := by simp [Sz]
theorem sz4 : Sz (4 : Int) := by simp [Sz]
theorem sz8 : Sz (8 : Int) := by simp [Sz]
theorem Since.alloc {w w' : World} (h : Since w w') (o : Obj) : Since w (w'.alloc o) := Below.alloc h (Below.size h) o
theorem putk_any (A : Option Addr) (n c x k : Nat) (l : List UInt8) (w : World) (hk : Sz (k : Int)) (hl : l.length = n) (hb : Bytes w w.heap.size A l) (hn : n ≤ 536870912) (hnc : n ≤ c) (hx : x ≤ 18446744073709551615) :
    Calls Try.prog 33 #[.slice A n c, .int .u64 x, .int .i64 k] w fun e w' => ∃ A' c', e = .returned (.slice A' (n + k) c') ∧ OwnB w' w.heap.size 5 A' (n + k) c' (l ++ le k x) ∧ Below w.heap.size w w' :=
  (put_any A n c x k l w hl hb hn hnc hx).mono fun e w' ⟨A', m, c', h1, h2, h3⟩ => by
    rw [putL_yes l x hk] at h2
    have hm : m = n + k := by rw [← h2.1, List.length_append, le_length, hl]
    subst hm
    exact ⟨A', c', h1, h2, h3⟩
theorem put_since {w0 : World} (A : Option Addr) (n c x k : Nat) (l : List UInt8) (W : World) (hl : l.length = n) (hb : Bytes W W.heap.size A l) (hS : Since w0 W) (hn : n ≤ 536870912) (hnc : n ≤ c) (hk : Sz (k : Int)) (hx : x ≤ 18446744073709551615) :
    Calls Try.prog 33 #[.slice A n c, .int .u64 x, .int .i64 k] W fun e w' => ∃ A' c', e = .returned (.slice A' (n + k) c') ∧ OwnB w' w0.heap.size 5 A' (n + k) c' (l ++ le k x) ∧ Since w0 w' :=
  (putk_any A n c x k l W hk hl hb hn hnc hx).mono fun _ _ ⟨A', c', h1, h2, h3⟩ => ⟨A', c', h1, h2.mono (Below.size hS), hS.step h3⟩

/-- a question's bytes. -/
def askL (k : UInt8) (s t : Nat) : List UInt8 := [k] ++ le 4 s ++ le 4 t
theorem askL_length (k : UInt8) (s t : Nat) : (askL k s t).length = 9 := by simp [askL, le_length]

set_option maxRecDepth 100000 in
set_option maxHeartbeats 1600000 in
theorem write_any (k : UInt8) (s t : Nat) (w : World) (hs : s ≤ 4294967295) (ht : t ≤ 4294967295) :
    Calls Try.prog 16 #[.agg #[.int .u8 (k.toNat : Int), .int .u32 s, .int .u32 t]] w fun e w' => ∃ A' c', e = .returned (.slice A' 9 c') ∧ OwnB w' w.heap.size 5 A' 9 c' (askL k s t) ∧ Below w.heap.size w w' := by
  have Hk : Hid (∀ w', Since (w.alloc (.cells #[.int .u8 (k.toNat : Int), .int .u32 s, .int .u32 t] 25)) w' → (w'.cell? ⟨w.heap.size, 0, none⟩ = some (.int .u8 (k.toNat : Int)) ∧ w'.cell? ⟨w.heap.size, 1, none⟩ = some (.int .u32 s) ∧ w'.cell? ⟨w.heap.size, 2, none⟩ = some (.int .u32 t) ∧ Since (w.alloc (.cells #[.int .u8 (k.toNat : Int), .int .u32 s, .int .u32 t] 25)) w')) := fun w' hq => by
    have h := (Blk.new w 25 #[.int .u8 (k.toNat : Int), .int .u32 s, .int .u32 t]).below hq (Blk.new w 25 #[.int .u8 (k.toNat : Int), .int .u32 s, .int .u32 t]).lt
    exact ⟨(h.cell 0).trans rfl, (h.cell 1).trans rfl, (h.cell 2).trans rfl, hq⟩
  have hst := Since.refl (w.alloc (.cells #[.int .u8 (k.toNat : Int), .int .u32 s, .int .u32 t] 25))
  have hbw : Hid (Below w.heap.size w (w.alloc (.cells #[.int .u8 (k.toNat : Int), .int .u32 s, .int .u32 t] 25))) := by
    have h : Below w.heap.size w (w.alloc (.cells #[.int .u8 (k.toNat : Int), .int .u32 s, .int .u32 t] 25)) := (Below.refl _ _).alloc (Nat.le_refl _) _
    exact h
  go_enter Try.func16, Try.ntmps16
  go_wp2_with fail
  generalize w.alloc (.cells #[.int .u8 (k.toNat : Int), .int .u32 s, .int .u32 t] 25) = w0 at *
  have hst1 := Since.drew hst
  have hst2 := Since.drew (Since.alloc hst (.cells #[.int .u8 (k.toNat : Int)] 5))
  have hst3 := Since.alloc hst1 (.cells #[.int .u8 (k.toNat : Int)] 5)
  have HBY : Hid (∀ W : World, Bytes (W.alloc (.cells #[.int .u8 (k.toNat : Int)] 5)) (W.alloc (.cells #[.int .u8 (k.toNat : Int)] 5)).heap.size (some ⟨W.heap.size, 0, none⟩) [k]) := by
    have h : ∀ W : World, Bytes (W.alloc (.cells #[.int .u8 (k.toNat : Int)] 5)) (W.alloc (.cells #[.int .u8 (k.toNat : Int)] 5)).heap.size (some ⟨W.heap.size, 0, none⟩) [k] := fun W => (bytes_one W 5 _ k rfl).more (by simp)
    exact h
  have P0 : Hid (∀ W A, Bytes W W.heap.size A [k] → Since w0 W → Calls Try.prog 33 #[.slice A 1 1, .int .u64 s, .int .i64 4] W fun e w' => ∃ A' c', e = .returned (.slice A' 5 c') ∧ OwnB w' w0.heap.size 5 A' 5 c' ([k] ++ le 4 s) ∧ Since w0 w') := fun W A hB hS =>
    put_since A 1 1 s 4 [k] W rfl hB hS (by omega) (by omega) sz4 (by omega)
  have P1 : Hid (∀ W A c, OwnB W w0.heap.size 5 A 5 c ([k] ++ le 4 s) → Since w0 W → Calls Try.prog 33 #[.slice A 5 c, .int .u64 t, .int .i64 4] W fun e w' => ∃ A' c', e = .returned (.slice A' 9 c') ∧ OwnB w' w0.heap.size 5 A' 9 c' (askL k s t) ∧ Since w0 w') := fun W A c hO hS =>
    put_since A 5 c t 4 ([k] ++ le 4 s) W hO.1 hO.bytes hS (by omega) hO.2.1 sz4 (by omega)
  have hw1 : IntKind.u64.wrap (s : Int) = (s : Int) := IntWalk.u64_in _ (by omega)
  have hw2 : IntKind.u64.wrap (t : Int) = (t : Int) := IntWalk.u64_in _ (by omega)
  go_region_held3 (fun w' => (w'.cell? ⟨w.heap.size, 0, none⟩ = some (.int .u8 (k.toNat : Int)) ∧ w'.cell? ⟨w.heap.size, 1, none⟩ = some (.int .u32 s) ∧ w'.cell? ⟨w.heap.size, 2, none⟩ = some (.int .u32 t) ∧ Since w0 w')) (first | ((with_reducible refine Hk.out _ ?_); (with_reducible assumption)) | ((with_reducible refine Hk.out _ (Since.drew ?_)); (with_reducible assumption)) | ((with_reducible refine Hk.out _ (Since.alloc ?_ _)); (with_reducible assumption)) | ((with_reducible refine Hk.out _ (Since.drew (Since.alloc ?_ _))); (with_reducible assumption))) (first | (go_at_call_of 33 s; (first | (refine Calls.mono (P0.out _ _ (HBY.out _) ?_) ?_) | (refine Calls.mono (P0.out _ _ (show Bytes _ _ _ _ from HBY.out w0) ?_) ?_)); (with_reducible assumption); rintro e wq0 ⟨A0, c0, rfl, hO0, hsq0⟩) | (go_at_call_of 33 t; (with_reducible refine Calls.mono (P1.out _ _ _ hO0 hsq0) ?_); rintro e wq1 ⟨A1, c1, rfl, hO1, hsq1⟩))
  go_wp2_with fail
  go_ret
  exact ⟨_, _, rfl, OwnB.mono hO1 hbw.out.size, hbw.out.trans (Below.mono (show Below _ _ _ from hsq1) hbw.out.size)⟩

theorem bcell {W w1 : World} (hb : Below W.heap.size W w1) : (∀ b o, b < W.heap.size → w1.cell? ⟨b, o, none⟩ = W.cell? ⟨b, o, none⟩) ∧ (∀ b o, b < W.heap.size → w1.frozen? ⟨b, o, none⟩ = W.frozen? ⟨b, o, none⟩) :=
  ⟨fun b o h => hb.cell (p := ⟨b, o, none⟩) h, fun b o h => hb.frozen (p := ⟨b, o, none⟩) h⟩
theorem Since.setFar {w w' : World} (h : Since w w') (o : Nat) (u : Value) : Since w (w'.setCell ⟨w.heap.size, o, none⟩ u) := Below.setCell h (Nat.le_refl _) u
/-- bytes that ask. -/
def Asks (l : List UInt8) (k : UInt8) : Prop := l.length = 9 ∧ l[0]? = some k ∧ (k = 1 ∨ k = 2 ∨ k = 3)
theorem num32 (l : List UInt8) (a : Nat) : num l a 4 ≤ 4294967295 := by
  have := num_lt l a 4
  simp only [Nat.reduceMul, Nat.reducePow] at this
  omega
set_option maxRecDepth 100000 in
set_option maxHeartbeats 3200000 in
/-- nine bytes. -/
theorem read9 (A : Option Addr) (c : Nat) (k : UInt8) (l : List UInt8) (hw : Value) (ok : Bool) (w : World) (hl : l.length = 9) (hk : l[0]? = some k) (hb : Bytes w w.heap.size A l) (hnc : 9 ≤ c)
    (hlk : ∀ W m, Kinds W m → (Instr.lookup 57 (.map (some m)) (.int .u8 (k.toNat : Int)) true).run Try.prog W = .ok (.tuple #[hw, .bool ok]) W) (hhw : ∃ f g, hw = .agg #[f, g] ∧ f.oneCell' = true ∧ g.oneCell' = true) :
    Calls Try.prog 12 #[.slice A 9 c] w fun e w' => e = .returned (.tuple #[if ok then .agg #[.int .u8 (k.toNat : Int), .int .u32 (num l 1 4 : Nat), .int .u32 (num l 5 4 : Nat)] else .agg #[.int .u8 0, .int .u32 0, .int .u32 0], .int .i64 (if ok then 0 else 8)]) ∧ Below w.heap.size w w' := by
  obtain ⟨b, off, rfl, hbB, hcell⟩ := hb.open_ hl (by omega)
  have h0 : l[0]'(by omega) = k := by rw [List.getElem?_eq_getElem (by omega)] at hk; exact Option.some.inj hk
  have hc0 : w.cell? ⟨b, off, none⟩ = some (.int .u8 (k.toNat : Int)) := by have := hcell 0 (by omega); rw [h0] at this; exact this
  obtain ⟨f1, f2, rfl, ho1, ho2⟩ := hhw
  have HB := Lib.hid hb
  have HL := Lib.hid hl
  have HLK := Lib.hid hlk
  clear hcell h0 hl hk hb hlk
  have Z0 : Hid (Below w.heap.size w (w.alloc (.cells #[.int .u8 0, .int .u32 0, .int .u32 0] 25))) := by
    have h : Below w.heap.size w (w.alloc (.cells #[.int .u8 0, .int .u32 0, .int .u32 0] 25)) := (Below.refl _ _).alloc (Nat.le_refl _) _
    exact h
  have K0 : Hid (Blk (w.alloc (.cells #[.int .u8 0, .int .u32 0, .int .u32 0] 25)) w.heap.size 25 #[.int .u8 0, .int .u32 0, .int .u32 0]) := Lib.hid (Blk.new _ _ _)
  have hst := Since.refl (w.alloc (.cells #[.int .u8 0, .int .u32 0, .int .u32 0] 25))
  have HC : Hid (∀ W, Since (w.alloc (.cells #[.int .u8 0, .int .u32 0, .int .u32 0] 25)) W → (W.cell? ⟨b, off, none⟩ = some (.int .u8 (k.toNat : Int)) ∧ Since (w.alloc (.cells #[.int .u8 0, .int .u32 0, .int .u32 0] 25)) W)) := by
    have h : ∀ W, Since (w.alloc (.cells #[.int .u8 0, .int .u32 0, .int .u32 0] 25)) W → (W.cell? ⟨b, off, none⟩ = some (.int .u8 (k.toNat : Int)) ∧ Since (w.alloc (.cells #[.int .u8 0, .int .u32 0, .int .u32 0] 25)) W) := fun W hS => by
      have hz : Below w.heap.size w W := Below.trans Z0.out (Below.mono hS Z0.out.size)
      exact ⟨(hz.cell (p := ⟨b, off, none⟩) hbB).trans hc0, hS⟩
    exact h
  have HC6 : Hid (∀ W, Below w.heap.size w W → W.cell? ⟨b, off, none⟩ = some (.int .u8 (k.toNat : Int))) := by
    have h : ∀ W, Below w.heap.size w W → W.cell? ⟨b, off, none⟩ = some (.int .u8 (k.toNat : Int)) := fun W hz => (hz.cell (p := ⟨b, off, none⟩) hbB).trans hc0
    exact h
  clear hc0
  go_enter Try.func12, Try.ntmps12
  go_wp2_with fail
  generalize w.alloc (.cells #[.int .u8 0, .int .u32 0, .int .u32 0] 25) = w0 at *
  have hst1 := Since.drew hst
  have PK : Hid (∀ W, Since w0 W → Calls Try.prog 29 #[] W fun e w' => ∃ m, e = .returned (.map (some m)) ∧ Kinds w' m ∧ Since w0 w') := fun W hS => (kinds_any W).mono fun e w' ⟨m, h1, h2, _, h3⟩ => ⟨m, h1, h2, hS.step h3⟩
  have hsf1 : ∀ (W : World) (a : Addr) (m : Mode), (store a f1 m).run Try.prog W = stored Try.prog W a f1 m := fun W a m => run_store Try.prog W a f1 m ho1
  have hsf2 : ∀ (W : World) (a : Addr) (m : Mode), (store a f2 m).run Try.prog W = stored Try.prog W a f2 m := fun W a m => run_store Try.prog W a f2 m ho2
  have hst2 := Since.drew (Since.alloc hst (.cells #[.nilFunc, .nilFunc] 55))
  go_region_held3 (fun w' => (w'.cell? ⟨b, off, none⟩ = some (.int .u8 (k.toNat : Int)) ∧ Since w0 w')) (first | ((with_reducible refine HC.out _ ?_); (with_reducible assumption)) | ((with_reducible refine HC.out _ (Since.drew ?_)); (with_reducible assumption)) | ((with_reducible refine HC.out _ (Since.alloc ?_ _)); (with_reducible assumption)) | ((with_reducible refine HC.out _ (Since.drew (Since.alloc ?_ _))); (with_reducible assumption)) | ((refine HC.out _ (Since.setFar (Since.setFar ?_ _ _) _ _)); (with_reducible assumption))) (first | (go_at_call 29; (with_reducible refine (kinds_any _).mono ?_); rintro e wk ⟨m, rfl, hK, hge, hbk⟩; (first | (have hsk := Since.step hst1 hbk) | (have hsk := Since.step hst2 hbk)); obtain ⟨hbc, hbf⟩ := bcell hbk; have hlook := HLK.out _ _ hK; have hlook2 := fun o => HLK.out _ _ (hK.alloc o)))
  all_goals
    (first
      | (have hH : (wk.alloc (.cells #[f1, f2] 55)).cell? ⟨b, off, none⟩ = some (Value.int IntKind.u8 (k.toNat : Int)) ∧ Since w0 (wk.alloc (.cells #[f1, f2] 55)) := by assumption)
      | (have hH : ((wk.setCell ⟨w0.heap.size, 0, none⟩ f1).setCell ⟨w0.heap.size, 1, none⟩ f2).cell? ⟨b, off, none⟩ = some (Value.int IntKind.u8 (k.toNat : Int)) ∧ Since w0 ((wk.setCell ⟨w0.heap.size, 0, none⟩ f1).setCell ⟨w0.heap.size, 1, none⟩ f2) := by assumption))
    obtain ⟨q0, hskE⟩ := hH
    clear hbc hbf hlook hlook2
    have KK := Lib.hid (K0.out.below hskE K0.out.lt)
    cases ok
    · have f0 := KK.out.frozen 0
      have g0 := (KK.out.cell 0).trans rfl
      have f1 := KK.out.frozen 1
      have g1 := (KK.out.cell 1).trans rfl
      have f2 := KK.out.frozen 2
      have g2 := (KK.out.cell 2).trans rfl
      go_wp2_with fail
      refine bodyPost_ret (resCT rfl _ _ w.heap.size 25 #[.int .u8 0, .int .u32 0, .int .u32 0] _ rfl ?_ Try.underlying25 rfl (by kernel_rfl)) rfl ⟨rfl, ?_⟩
      · exact ((KK.out.set_ 0 (.int .u8 0)).set_ 1 (.int .u32 0)).set_ 2 (.int .u32 0)
      · exact ((((Z0.out.trans (Below.mono hskE Z0.out.size)).setCell (p := ⟨w.heap.size, 0, none⟩) (Nat.le_refl _) (.int .u8 0)).setCell (p := ⟨w.heap.size, 1, none⟩) (Nat.le_refl _) (.int .u32 0)).setCell (p := ⟨w.heap.size, 2, none⟩) (Nat.le_refl _) (.int .u32 0))
    · have HZ := Lib.hid (Z0.out.trans (Below.mono hskE Z0.out.size))
      have n1 := num32 l 1
      have n5 := num32 l 5
      go_wp2_with fail
      refine (get_ok (some ⟨b, off, none⟩) 9 c 1 4 l _ HL.out ((HB.out.below HZ.out).more HZ.out.size) (by omega) hnc sz4 (by omega)).mono ?_
      rintro e w5 ⟨rfl, hb5⟩
      have K5 := Lib.hid (KK.out.below hb5 KK.out.lt)
      have HZ5 := Lib.hid (HZ.out.trans (hb5.mono HZ.out.size))
      clear hb5
      go_wp2_with fail
      refine (get_ok (some ⟨b, off, none⟩) 9 c 5 4 l _ HL.out ((HB.out.below HZ5.out).more HZ5.out.size) (by omega) hnc sz4 (by omega)).mono ?_
      rintro e w6 ⟨rfl, hb6⟩
      have K6 := Lib.hid (K5.out.below hb6 K5.out.lt)
      have HZ6 := Lib.hid (HZ5.out.trans (hb6.mono HZ5.out.size))
      clear hb6
      have q6 := HC6.out _ HZ6.out
      have f0 := K6.out.frozen 0
      have g0 := (K6.out.cell 0).trans rfl
      have f1 := K6.out.frozen 1
      have g1 := (K6.out.cell 1).trans rfl
      have f2 := K6.out.frozen 2
      have g2 := (K6.out.cell 2).trans rfl
      obtain ⟨x1, hx1⟩ : ∃ x, x = num l 1 4 := ⟨_, rfl⟩
      obtain ⟨x5, hx5⟩ : ∃ x, x = num l 5 4 := ⟨_, rfl⟩
      rw [← hx1] at n1 ⊢
      rw [← hx5] at n5 ⊢
      have HX1 := Lib.hid hx1
      have HX5 := Lib.hid hx5
      clear hx1 hx5
      go_wp2_with fail
      refine bodyPost_ret (resCT rfl _ _ w.heap.size 25 #[.int .u8 (k.toNat : Int), .int .u32 x1, .int .u32 x5] _ rfl ?_ Try.underlying25 rfl (by kernel_rfl)) rfl ⟨by rw [HX1.out, HX5.out]; rfl, ?_⟩
      · exact ((K6.out.set_ 0 (.int .u8 (k.toNat : Int))).set_ 1 (.int .u32 x1)).set_ 2 (.int .u32 x5)
      · exact ((HZ6.out.setCell (p := ⟨w.heap.size, 0, none⟩) (Nat.le_refl _) (.int .u8 (k.toNat : Int))).setCell (p := ⟨w.heap.size, 1, none⟩) (Nat.le_refl _) (.int .u32 x1)).setCell (p := ⟨w.heap.size, 2, none⟩) (Nat.le_refl _) (.int .u32 x5)
theorem read_short (A : Option Addr) (n c : Nat) (w : World) (hn : n ≠ 9) (hn2 : n ≤ 1099511627776) :
    Calls Try.prog 12 #[.slice A n c] w fun e w' => e = .returned (.tuple #[.agg #[.int .u8 0, .int .u32 0, .int .u32 0], .int .i64 8]) ∧ Below w.heap.size w w' := by
  have hd : ((n : Int) != 9) = true := by simp; omega
  have K0 := Blk.new w 25 #[.int .u8 0, .int .u32 0, .int .u32 0]
  have hd2 : ((n : Int) == 9) = false := by simp; omega
  have KH := Lib.hid K0
  clear K0
  go_enter Try.func12, Try.ntmps12
  go_wp2_with fail
  refine bodyPost_ret (resCT rfl _ _ w.heap.size 25 #[.int .u8 0, .int .u32 0, .int .u32 0] _ rfl KH.out Try.underlying25 rfl (by kernel_rfl)) rfl ⟨rfl, ?_⟩
  exact (Below.refl _ _).alloc (Nat.le_refl _) _
/-- what Read answers. -/
def AskAns (l : List UInt8) (K S T : Nat) (E : Int) : Prop := (∃ k : UInt8, Asks l k ∧ K = k.toNat ∧ S = num l 1 4 ∧ T = num l 5 4 ∧ E = 0) ∨ ((∀ k, ¬ Asks l k) ∧ K = 0 ∧ S = 0 ∧ T = 0 ∧ E = 8)
theorem askAns (l : List UInt8) : ∃ K S T E, AskAns l K S T E := by
  by_cases h : ∃ k, Asks l k
  · obtain ⟨k, h⟩ := h
    exact ⟨_, _, _, _, .inl ⟨k, h, rfl, rfl, rfl, rfl⟩⟩
  · exact ⟨0, 0, 0, 8, .inr ⟨fun k hk => h ⟨k, hk⟩, rfl, rfl, rfl, rfl⟩⟩
theorem read_ans (A : Option Addr) (n c : Nat) (l : List UInt8) (K S T : Nat) (E : Int) (w : World) (hA : AskAns l K S T E) (hl : l.length = n) (hb : Bytes w w.heap.size A l) (hn2 : n ≤ 1099511627776) (hnc : n ≤ c) :
    Calls Try.prog 12 #[.slice A n c] w fun e w' => e = .returned (.tuple #[.agg #[.int .u8 K, .int .u32 S, .int .u32 T], .int .i64 E]) ∧ Below w.heap.size w w' := by
  by_cases h9 : n = 9
  · subst h9
    obtain ⟨k, hk⟩ : ∃ k, l[0]? = some k := ⟨_, List.getElem?_eq_getElem (by omega)⟩
    by_cases hkk : k = 1 ∨ k = 2 ∨ k = 3
    · rcases hA with ⟨k', ⟨_, h2, _⟩, rfl, rfl, rfl, rfl⟩ | ⟨h, _⟩
      · rw [hk] at h2
        obtain rfl := Option.some.inj h2
        rcases hkk with rfl | rfl | rfl
        · exact read9 A c 1 l howD true w hl hk hb hnc (fun W m h => look1 h) ⟨_, _, rfl, rfl, rfl⟩
        · exact read9 A c 2 l howP true w hl hk hb hnc (fun W m h => look2 h) ⟨_, _, rfl, rfl, rfl⟩
        · exact read9 A c 3 l howS true w hl hk hb hnc (fun W m h => look3 h) ⟨_, _, rfl, rfl, rfl⟩
      · exact absurd ⟨hl, hk, hkk⟩ (h k)
    · rcases hA with ⟨k', ⟨_, h2, h3⟩, _⟩ | ⟨_, rfl, rfl, rfl, rfl⟩
      · rw [hk] at h2
        obtain rfl := Option.some.inj h2
        exact absurd h3 hkk
      · have hne : ∀ j : UInt8, k ≠ j → k.toNat ≠ j.toNat := fun j h e => h (UInt8.toNat_inj.1 e)
        exact read9 A c k l (.agg #[.nilFunc, .nilFunc]) false w hl hk hb hnc (fun W m h => look_no k.toNat (hne 1 fun e => hkk (.inl e)) (hne 2 fun e => hkk (.inr (.inl e))) (hne 3 fun e => hkk (.inr (.inr e))) h) ⟨_, _, rfl, rfl, rfl⟩
  · rcases hA with ⟨k', ⟨h1, _⟩, _⟩ | ⟨_, rfl, rfl, rfl, rfl⟩
    · exact absurd (hl.symm.trans h1) h9
    · exact read_short A n c w h9 hn2
end Go.Proofs.Ytjiiabekjiilbaa
