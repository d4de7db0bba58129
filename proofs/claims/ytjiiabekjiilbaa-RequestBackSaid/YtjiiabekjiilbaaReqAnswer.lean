/- What Answer of package request answers. -/
import Derived.Test.YtjiiabekjiilbaaReqPut
import Derived.Deep.Cut
import Derived.Laws.EntriesVeiled
set_option linter.unusedSimpArgs false
set_option linter.unusedVariables false
namespace Go.Proofs.Ytjiiabekjiilbaa
open Go.RowKit Mp

theorem own_one (W : World) (x : Int) (b : UInt8) (hx : x = (b.toNat : Int)) : OwnB (W.alloc (.cells #[.int .u8 x] 5)) W.heap.size 5 (some ⟨W.heap.size, 0, none⟩) 1 1 [b] := by
  refine ⟨rfl, Nat.le_refl _, by simp [maxLen], .inr ⟨W.heap.size, _, (0, 0), rfl, Nat.le_refl _, heap_alloc_new W _, rfl, fun i _ => by omega, fun i hi => ?_⟩⟩
  have h0 : i = 0 := by simp at hi; omega
  subst h0
  simp [hx]
theorem AWs.below {w w' : World} {lo ga gr : Nat} {R : Array Value} {l : List UInt8} (h : AWs w lo ga gr R l) (hb : Below w.heap.size w w') : AWs w' lo ga gr R l := by
  obtain ⟨A, c, h⟩ := h
  exact ⟨A, c, h.a.below hb h.a.lt, h.o.below hb, h.r.below hb h.r.lt, h.lga, Nat.le_trans h.lsz hb.size⟩
theorem AWs.alloc {w : World} {lo ga gr : Nat} {R : Array Value} {l : List UInt8} (h : AWs w lo ga gr R l) (o : Obj) : AWs (w.alloc o) lo ga gr R l := h.below ((Below.refl _ _).alloc (Nat.le_refl _) o)

/-- an answer's bytes: the error's byte, and what is put behind it if there is none. -/
def ansL (eb : UInt8) (X : List UInt8) : List UInt8 := if eb = 0 then [eb] ++ X else [eb]
theorem ansL_zero {eb : UInt8} {X : List UInt8} (h : eb = 0) : ansL eb X = [eb] ++ X := if_pos h
theorem ansL_other {eb : UInt8} {X : List UInt8} (h : eb ≠ 0) : ansL eb X = [eb] := if_neg h

set_option maxRecDepth 100000 in
set_option maxHeartbeats 3200000 in
/-- Answer, by how its kind is written: F says what is put behind the first byte. -/
theorem answer_dist (k : Nat) (err : Int) (fd : Bool) (ds st : Nat) (way : Value) (eb : UInt8) (g : Value) (X : List UInt8) (w : World) (hway : way.oneCell' = true) (heb : err % 256 = (eb.toNat : Int)) (hg : g.oneCell' = true) (herr : -9223372036854775808 ≤ err ∧ err ≤ 9223372036854775807)
    (hlk : ∀ W m, Kinds W m → (Instr.lookup 57 (.map (some m)) (.int .u8 k) true).run Try.prog W = .ok (.tuple #[.agg #[.func (.func 41) #[] #[], g], .bool true]) W)
    (hF : ∀ W ga, w.heap.size ≤ ga → AWs W w.heap.size ga w.heap.size (repC err fd ds way st) [eb] → Below w.heap.size w W → Calls Try.prog 41 #[.pointer (some ⟨ga, 0, none⟩), .pointer (some ⟨w.heap.size, 0, none⟩)] W fun e w' => e = .returned (.tuple #[]) ∧ AWs w' w.heap.size ga w.heap.size (repC err fd ds way st) ([eb] ++ X) ∧ Below w.heap.size W w') :
    Calls Try.prog 19 #[.int .u8 k, .agg (repC err fd ds way st)] w fun e w' => ∃ A' n c', e = .returned (.slice A' n c') ∧ OwnB w' w.heap.size 5 A' n c' (ansL eb X) ∧ Below w.heap.size w w' := by
  have HLK := Lib.hid hlk
  have HF := Lib.hid hF
  have HEB := Lib.hid heb
  have hws : ∀ (W : World) (a : Addr) (m : Mode), (store a way m).run Try.prog W = stored Try.prog W a way m := fun W a m => run_store Try.prog W a way m hway
  have hgs : ∀ (W : World) (a : Addr) (m : Mode), (store a g m).run Try.prog W = stored Try.prog W a g m := fun W a m => run_store Try.prog W a g m hg
  clear hlk hF heb
  unfold repC
  go_enter Try.func19, Try.ntmps19
  go_wp2_with fail
  have HW : Hid (AWs (((w.alloc (.cells #[.int .i64 err, .bool fd, .int .u64 ds, way, .int .u8 st] 37)).alloc (.cells #[.int .u8 (err % 256)] 5)).alloc (.cells #[.slice (some ⟨w.heap.size + 1, 0, none⟩) 1 1, .bool false] 66)) w.heap.size (w.heap.size + 1 + 1) w.heap.size (repC err fd ds way st) [eb]) := by
    have h : AWs (((w.alloc (.cells #[.int .i64 err, .bool fd, .int .u64 ds, way, .int .u8 st] 37)).alloc (.cells #[.int .u8 (err % 256)] 5)).alloc (.cells #[.slice (some ⟨w.heap.size + 1, 0, none⟩) 1 1, .bool false] 66)) w.heap.size (w.heap.size + 1 + 1) w.heap.size (repC err fd ds way st) [eb] := by
      refine ⟨some ⟨w.heap.size + 1, 0, none⟩, 1, ?_, ?_, ?_, by omega, by simp; omega⟩
      · have h := Blk.new ((w.alloc (.cells #[.int .i64 err, .bool fd, .int .u64 ds, way, .int .u8 st] 37)).alloc (.cells #[.int .u8 (err % 256)] 5)) 66 #[.slice (some ⟨w.heap.size + 1, 0, none⟩) 1 1, .bool false]
        rw [World.size_alloc, World.size_alloc] at h
        exact h
      · have h := (own_one (w.alloc (.cells #[.int .i64 err, .bool fd, .int .u64 ds, way, .int .u8 st] 37)) (err % 256) eb HEB.out).alloc (.cells #[.slice (some ⟨w.heap.size + 1, 0, none⟩) 1 1, .bool false] 66)
        rw [World.size_alloc] at h
        exact h.mono (by omega)
      · exact ((Blk.new w 37 #[.int .i64 err, .bool fd, .int .u64 ds, way, .int .u8 st]).alloc _).alloc _
    exact h
  have ZW : Hid (Below w.heap.size w (((w.alloc (.cells #[.int .i64 err, .bool fd, .int .u64 ds, way, .int .u8 st] 37)).alloc (.cells #[.int .u8 (err % 256)] 5)).alloc (.cells #[.slice (some ⟨w.heap.size + 1, 0, none⟩) 1 1, .bool false] 66))) := by
    have h : Below w.heap.size w (((w.alloc (.cells #[.int .i64 err, .bool fd, .int .u64 ds, way, .int .u8 st] 37)).alloc (.cells #[.int .u8 (err % 256)] 5)).alloc (.cells #[.slice (some ⟨w.heap.size + 1, 0, none⟩) 1 1, .bool false] 66)) := (((Below.refl _ _).alloc (Nat.le_refl _) _).alloc (by simp) _).alloc (by simp; omega) _
    exact h
  generalize (((w.alloc (.cells #[.int .i64 err, .bool fd, .int .u64 ds, way, .int .u8 st] 37)).alloc (.cells #[.int .u8 (err % 256)] 5)).alloc (.cells #[.slice (some ⟨w.heap.size + 1, 0, none⟩) 1 1, .bool false] 66)) = w3 at *
  refine (kinds_any _).mono ?_
  rintro e wk ⟨m, rfl, hK, hge, hbk⟩
  have hlook := HLK.out _ _ hK
  have HW5 : Hid (AWs (wk.alloc (.cells #[.func (.func 41) #[] #[], g] 55)) w.heap.size (w.heap.size + 1 + 1) w.heap.size (repC err fd ds way st) [eb]) := by
    have h := (HW.out.below hbk).alloc (.cells #[.func (.func 41) #[] #[], g] 55)
    exact h
  have ZW5 : Hid (Below w.heap.size w (wk.alloc (.cells #[.func (.func 41) #[] #[], g] 55))) := by
    have h0 := ZW.out.trans (hbk.mono ZW.out.size)
    have h := h0.alloc h0.size (.cells #[.func (.func 41) #[] #[], g] 55)
    exact h
  have hfl : (wk.alloc (.cells #[.func (.func 41) #[] #[], g] 55)).cell? ⟨wk.heap.size, 0, none⟩ = some (.func (.func 41) #[] #[]) := ((Blk.new wk 55 #[.func (.func 41) #[] #[], g]).cell 0).trans rfl
  clear hbk hK hge
  obtain ⟨A5, c5, h5⟩ := HW5.out
  have c50 : (wk.alloc (.cells #[.func (.func 41) #[] #[], g] 55)).cell? ⟨w.heap.size + 1 + 1, 0, none⟩ = some (.slice A5 1 c5) := (h5.a.cell 0).trans rfl
  obtain ⟨gb, rfl, _, _, hgb, hcb, _⟩ := h5.o.open_ (by have := h5.o.2.1; simp at this; omega)
  have c51 : (wk.alloc (.cells #[.func (.func 41) #[] #[], g] 55)).cell? ⟨gb, 0, none⟩ = some (.int .u8 (eb.toNat : Int)) := hcb 0 (by simp)
  have HO5 := Lib.hid h5.o
  clear h5 hcb
  go_upto_region 3 with (fail)
  clear hlook
  generalize wk.alloc (.cells #[.func (.func 41) #[] #[], g] 55) = w5 at *
  by_cases hz : eb = 0
  · have hd : ((eb.toNat : Int) == 0) = true := by rw [hz]; rfl
    have HZ := Lib.hid hz
    clear hz
    go_wp2_with fail
    refine (HF.out w5 (w.heap.size + 1 + 1) (by omega) HW5.out ZW5.out).mono ?_
    rintro e w6 ⟨rfl, hA6, hb6⟩
    obtain ⟨A6, c6, h6⟩ := hA6
    have H6 := Lib.hid h6
    have HB6 := Lib.hid hb6
    have c60 : w6.cell? ⟨w.heap.size + 1 + 1, 0, none⟩ = some (.slice A6 ([eb] ++ X).length c6) := (h6.a.cell 0).trans rfl
    clear h6 hb6 c50 c51 hd
    obtain ⟨nx, hnx⟩ : ∃ nx, nx = ([eb] ++ X).length := ⟨_, rfl⟩
    rw [← hnx] at c60
    have HNX := Lib.hid hnx
    clear hnx
    go_wp2_with fail
    go_ret
    refine ⟨A6, nx, c6, rfl, ?_, ZW5.out.trans HB6.out⟩
    rw [ansL_zero HZ.out, HNX.out]
    exact H6.out.o
  · have hd : ((eb.toNat : Int) == 0) = false := by
      rw [beq_eq_false_iff_ne]
      intro e
      exact hz (UInt8.toNat_inj.1 (by show eb.toNat = 0; omega))
    have HZ := Lib.hid hz
    clear hz
    go_wp2_with fail
    go_ret
    refine ⟨_, 1, c5, rfl, ?_, ZW5.out⟩
    rw [ansL_other HZ.out]
    exact HO5.out
set_option maxRecDepth 100000 in
set_option maxHeartbeats 3200000 in
/-- Answer, by how its kind is written: F says what is put behind the first byte. -/
theorem answer_path (k : Nat) (err : Int) (fd : Bool) (ds st : Nat) (way : Value) (eb : UInt8) (g : Value) (X : List UInt8) (w : World) (hway : way.oneCell' = true) (heb : err % 256 = (eb.toNat : Int)) (hg : g.oneCell' = true) (herr : -9223372036854775808 ≤ err ∧ err ≤ 9223372036854775807)
    (hlk : ∀ W m, Kinds W m → (Instr.lookup 57 (.map (some m)) (.int .u8 k) true).run Try.prog W = .ok (.tuple #[.agg #[.func (.func 43) #[] #[], g], .bool true]) W)
    (hF : ∀ W ga, w.heap.size ≤ ga → AWs W w.heap.size ga w.heap.size (repC err fd ds way st) [eb] → Below w.heap.size w W → Calls Try.prog 43 #[.pointer (some ⟨ga, 0, none⟩), .pointer (some ⟨w.heap.size, 0, none⟩)] W fun e w' => e = .returned (.tuple #[]) ∧ AWs w' w.heap.size ga w.heap.size (repC err fd ds way st) ([eb] ++ X) ∧ Below w.heap.size W w') :
    Calls Try.prog 19 #[.int .u8 k, .agg (repC err fd ds way st)] w fun e w' => ∃ A' n c', e = .returned (.slice A' n c') ∧ OwnB w' w.heap.size 5 A' n c' (ansL eb X) ∧ Below w.heap.size w w' := by
  have HLK := Lib.hid hlk
  have HF := Lib.hid hF
  have HEB := Lib.hid heb
  have hws : ∀ (W : World) (a : Addr) (m : Mode), (store a way m).run Try.prog W = stored Try.prog W a way m := fun W a m => run_store Try.prog W a way m hway
  have hgs : ∀ (W : World) (a : Addr) (m : Mode), (store a g m).run Try.prog W = stored Try.prog W a g m := fun W a m => run_store Try.prog W a g m hg
  clear hlk hF heb
  unfold repC
  go_enter Try.func19, Try.ntmps19
  go_wp2_with fail
  have HW : Hid (AWs (((w.alloc (.cells #[.int .i64 err, .bool fd, .int .u64 ds, way, .int .u8 st] 37)).alloc (.cells #[.int .u8 (err % 256)] 5)).alloc (.cells #[.slice (some ⟨w.heap.size + 1, 0, none⟩) 1 1, .bool false] 66)) w.heap.size (w.heap.size + 1 + 1) w.heap.size (repC err fd ds way st) [eb]) := by
    have h : AWs (((w.alloc (.cells #[.int .i64 err, .bool fd, .int .u64 ds, way, .int .u8 st] 37)).alloc (.cells #[.int .u8 (err % 256)] 5)).alloc (.cells #[.slice (some ⟨w.heap.size + 1, 0, none⟩) 1 1, .bool false] 66)) w.heap.size (w.heap.size + 1 + 1) w.heap.size (repC err fd ds way st) [eb] := by
      refine ⟨some ⟨w.heap.size + 1, 0, none⟩, 1, ?_, ?_, ?_, by omega, by simp; omega⟩
      · have h := Blk.new ((w.alloc (.cells #[.int .i64 err, .bool fd, .int .u64 ds, way, .int .u8 st] 37)).alloc (.cells #[.int .u8 (err % 256)] 5)) 66 #[.slice (some ⟨w.heap.size + 1, 0, none⟩) 1 1, .bool false]
        rw [World.size_alloc, World.size_alloc] at h
        exact h
      · have h := (own_one (w.alloc (.cells #[.int .i64 err, .bool fd, .int .u64 ds, way, .int .u8 st] 37)) (err % 256) eb HEB.out).alloc (.cells #[.slice (some ⟨w.heap.size + 1, 0, none⟩) 1 1, .bool false] 66)
        rw [World.size_alloc] at h
        exact h.mono (by omega)
      · exact ((Blk.new w 37 #[.int .i64 err, .bool fd, .int .u64 ds, way, .int .u8 st]).alloc _).alloc _
    exact h
  have ZW : Hid (Below w.heap.size w (((w.alloc (.cells #[.int .i64 err, .bool fd, .int .u64 ds, way, .int .u8 st] 37)).alloc (.cells #[.int .u8 (err % 256)] 5)).alloc (.cells #[.slice (some ⟨w.heap.size + 1, 0, none⟩) 1 1, .bool false] 66))) := by
    have h : Below w.heap.size w (((w.alloc (.cells #[.int .i64 err, .bool fd, .int .u64 ds, way, .int .u8 st] 37)).alloc (.cells #[.int .u8 (err % 256)] 5)).alloc (.cells #[.slice (some ⟨w.heap.size + 1, 0, none⟩) 1 1, .bool false] 66)) := (((Below.refl _ _).alloc (Nat.le_refl _) _).alloc (by simp) _).alloc (by simp; omega) _
    exact h
  generalize (((w.alloc (.cells #[.int .i64 err, .bool fd, .int .u64 ds, way, .int .u8 st] 37)).alloc (.cells #[.int .u8 (err % 256)] 5)).alloc (.cells #[.slice (some ⟨w.heap.size + 1, 0, none⟩) 1 1, .bool false] 66)) = w3 at *
  refine (kinds_any _).mono ?_
  rintro e wk ⟨m, rfl, hK, hge, hbk⟩
  have hlook := HLK.out _ _ hK
  have HW5 : Hid (AWs (wk.alloc (.cells #[.func (.func 43) #[] #[], g] 55)) w.heap.size (w.heap.size + 1 + 1) w.heap.size (repC err fd ds way st) [eb]) := by
    have h := (HW.out.below hbk).alloc (.cells #[.func (.func 43) #[] #[], g] 55)
    exact h
  have ZW5 : Hid (Below w.heap.size w (wk.alloc (.cells #[.func (.func 43) #[] #[], g] 55))) := by
    have h0 := ZW.out.trans (hbk.mono ZW.out.size)
    have h := h0.alloc h0.size (.cells #[.func (.func 43) #[] #[], g] 55)
    exact h
  have hfl : (wk.alloc (.cells #[.func (.func 43) #[] #[], g] 55)).cell? ⟨wk.heap.size, 0, none⟩ = some (.func (.func 43) #[] #[]) := ((Blk.new wk 55 #[.func (.func 43) #[] #[], g]).cell 0).trans rfl
  clear hbk hK hge
  obtain ⟨A5, c5, h5⟩ := HW5.out
  have c50 : (wk.alloc (.cells #[.func (.func 43) #[] #[], g] 55)).cell? ⟨w.heap.size + 1 + 1, 0, none⟩ = some (.slice A5 1 c5) := (h5.a.cell 0).trans rfl
  obtain ⟨gb, rfl, _, _, hgb, hcb, _⟩ := h5.o.open_ (by have := h5.o.2.1; simp at this; omega)
  have c51 : (wk.alloc (.cells #[.func (.func 43) #[] #[], g] 55)).cell? ⟨gb, 0, none⟩ = some (.int .u8 (eb.toNat : Int)) := hcb 0 (by simp)
  have HO5 := Lib.hid h5.o
  clear h5 hcb
  go_upto_region 3 with (fail)
  clear hlook
  generalize wk.alloc (.cells #[.func (.func 43) #[] #[], g] 55) = w5 at *
  by_cases hz : eb = 0
  · have hd : ((eb.toNat : Int) == 0) = true := by rw [hz]; rfl
    have HZ := Lib.hid hz
    clear hz
    go_wp2_with fail
    refine (HF.out w5 (w.heap.size + 1 + 1) (by omega) HW5.out ZW5.out).mono ?_
    rintro e w6 ⟨rfl, hA6, hb6⟩
    obtain ⟨A6, c6, h6⟩ := hA6
    have H6 := Lib.hid h6
    have HB6 := Lib.hid hb6
    have c60 : w6.cell? ⟨w.heap.size + 1 + 1, 0, none⟩ = some (.slice A6 ([eb] ++ X).length c6) := (h6.a.cell 0).trans rfl
    clear h6 hb6 c50 c51 hd
    obtain ⟨nx, hnx⟩ : ∃ nx, nx = ([eb] ++ X).length := ⟨_, rfl⟩
    rw [← hnx] at c60
    have HNX := Lib.hid hnx
    clear hnx
    go_wp2_with fail
    go_ret
    refine ⟨A6, nx, c6, rfl, ?_, ZW5.out.trans HB6.out⟩
    rw [ansL_zero HZ.out, HNX.out]
    exact H6.out.o
  · have hd : ((eb.toNat : Int) == 0) = false := by
      rw [beq_eq_false_iff_ne]
      intro e
      exact hz (UInt8.toNat_inj.1 (by show eb.toNat = 0; omega))
    have HZ := Lib.hid hz
    clear hz
    go_wp2_with fail
    go_ret
    refine ⟨_, 1, c5, rfl, ?_, ZW5.out⟩
    rw [ansL_other HZ.out]
    exact HO5.out
set_option maxRecDepth 100000 in
set_option maxHeartbeats 3200000 in
/-- Answer, by how its kind is written: F says what is put behind the first byte. -/
theorem answer_state (k : Nat) (err : Int) (fd : Bool) (ds st : Nat) (way : Value) (eb : UInt8) (g : Value) (X : List UInt8) (w : World) (hway : way.oneCell' = true) (heb : err % 256 = (eb.toNat : Int)) (hg : g.oneCell' = true) (herr : -9223372036854775808 ≤ err ∧ err ≤ 9223372036854775807)
    (hlk : ∀ W m, Kinds W m → (Instr.lookup 57 (.map (some m)) (.int .u8 k) true).run Try.prog W = .ok (.tuple #[.agg #[.func (.func 45) #[] #[], g], .bool true]) W)
    (hF : ∀ W ga, w.heap.size ≤ ga → AWs W w.heap.size ga w.heap.size (repC err fd ds way st) [eb] → Below w.heap.size w W → Calls Try.prog 45 #[.pointer (some ⟨ga, 0, none⟩), .pointer (some ⟨w.heap.size, 0, none⟩)] W fun e w' => e = .returned (.tuple #[]) ∧ AWs w' w.heap.size ga w.heap.size (repC err fd ds way st) ([eb] ++ X) ∧ Below w.heap.size W w') :
    Calls Try.prog 19 #[.int .u8 k, .agg (repC err fd ds way st)] w fun e w' => ∃ A' n c', e = .returned (.slice A' n c') ∧ OwnB w' w.heap.size 5 A' n c' (ansL eb X) ∧ Below w.heap.size w w' := by
  have HLK := Lib.hid hlk
  have HF := Lib.hid hF
  have HEB := Lib.hid heb
  have hws : ∀ (W : World) (a : Addr) (m : Mode), (store a way m).run Try.prog W = stored Try.prog W a way m := fun W a m => run_store Try.prog W a way m hway
  have hgs : ∀ (W : World) (a : Addr) (m : Mode), (store a g m).run Try.prog W = stored Try.prog W a g m := fun W a m => run_store Try.prog W a g m hg
  clear hlk hF heb
  unfold repC
  go_enter Try.func19, Try.ntmps19
  go_wp2_with fail
  have HW : Hid (AWs (((w.alloc (.cells #[.int .i64 err, .bool fd, .int .u64 ds, way, .int .u8 st] 37)).alloc (.cells #[.int .u8 (err % 256)] 5)).alloc (.cells #[.slice (some ⟨w.heap.size + 1, 0, none⟩) 1 1, .bool false] 66)) w.heap.size (w.heap.size + 1 + 1) w.heap.size (repC err fd ds way st) [eb]) := by
    have h : AWs (((w.alloc (.cells #[.int .i64 err, .bool fd, .int .u64 ds, way, .int .u8 st] 37)).alloc (.cells #[.int .u8 (err % 256)] 5)).alloc (.cells #[.slice (some ⟨w.heap.size + 1, 0, none⟩) 1 1, .bool false] 66)) w.heap.size (w.heap.size + 1 + 1) w.heap.size (repC err fd ds way st) [eb] := by
      refine ⟨some ⟨w.heap.size + 1, 0, none⟩, 1, ?_, ?_, ?_, by omega, by simp; omega⟩
      · have h := Blk.new ((w.alloc (.cells #[.int .i64 err, .bool fd, .int .u64 ds, way, .int .u8 st] 37)).alloc (.cells #[.int .u8 (err % 256)] 5)) 66 #[.slice (some ⟨w.heap.size + 1, 0, none⟩) 1 1, .bool false]
        rw [World.size_alloc, World.size_alloc] at h
        exact h
      · have h := (own_one (w.alloc (.cells #[.int .i64 err, .bool fd, .int .u64 ds, way, .int .u8 st] 37)) (err % 256) eb HEB.out).alloc (.cells #[.slice (some ⟨w.heap.size + 1, 0, none⟩) 1 1, .bool false] 66)
        rw [World.size_alloc] at h
        exact h.mono (by omega)
      · exact ((Blk.new w 37 #[.int .i64 err, .bool fd, .int .u64 ds, way, .int .u8 st]).alloc _).alloc _
    exact h
  have ZW : Hid (Below w.heap.size w (((w.alloc (.cells #[.int .i64 err, .bool fd, .int .u64 ds, way, .int .u8 st] 37)).alloc (.cells #[.int .u8 (err % 256)] 5)).alloc (.cells #[.slice (some ⟨w.heap.size + 1, 0, none⟩) 1 1, .bool false] 66))) := by
    have h : Below w.heap.size w (((w.alloc (.cells #[.int .i64 err, .bool fd, .int .u64 ds, way, .int .u8 st] 37)).alloc (.cells #[.int .u8 (err % 256)] 5)).alloc (.cells #[.slice (some ⟨w.heap.size + 1, 0, none⟩) 1 1, .bool false] 66)) := (((Below.refl _ _).alloc (Nat.le_refl _) _).alloc (by simp) _).alloc (by simp; omega) _
    exact h
  generalize (((w.alloc (.cells #[.int .i64 err, .bool fd, .int .u64 ds, way, .int .u8 st] 37)).alloc (.cells #[.int .u8 (err % 256)] 5)).alloc (.cells #[.slice (some ⟨w.heap.size + 1, 0, none⟩) 1 1, .bool false] 66)) = w3 at *
  refine (kinds_any _).mono ?_
  rintro e wk ⟨m, rfl, hK, hge, hbk⟩
  have hlook := HLK.out _ _ hK
  have HW5 : Hid (AWs (wk.alloc (.cells #[.func (.func 45) #[] #[], g] 55)) w.heap.size (w.heap.size + 1 + 1) w.heap.size (repC err fd ds way st) [eb]) := by
    have h := (HW.out.below hbk).alloc (.cells #[.func (.func 45) #[] #[], g] 55)
    exact h
  have ZW5 : Hid (Below w.heap.size w (wk.alloc (.cells #[.func (.func 45) #[] #[], g] 55))) := by
    have h0 := ZW.out.trans (hbk.mono ZW.out.size)
    have h := h0.alloc h0.size (.cells #[.func (.func 45) #[] #[], g] 55)
    exact h
  have hfl : (wk.alloc (.cells #[.func (.func 45) #[] #[], g] 55)).cell? ⟨wk.heap.size, 0, none⟩ = some (.func (.func 45) #[] #[]) := ((Blk.new wk 55 #[.func (.func 45) #[] #[], g]).cell 0).trans rfl
  clear hbk hK hge
  obtain ⟨A5, c5, h5⟩ := HW5.out
  have c50 : (wk.alloc (.cells #[.func (.func 45) #[] #[], g] 55)).cell? ⟨w.heap.size + 1 + 1, 0, none⟩ = some (.slice A5 1 c5) := (h5.a.cell 0).trans rfl
  obtain ⟨gb, rfl, _, _, hgb, hcb, _⟩ := h5.o.open_ (by have := h5.o.2.1; simp at this; omega)
  have c51 : (wk.alloc (.cells #[.func (.func 45) #[] #[], g] 55)).cell? ⟨gb, 0, none⟩ = some (.int .u8 (eb.toNat : Int)) := hcb 0 (by simp)
  have HO5 := Lib.hid h5.o
  clear h5 hcb
  go_upto_region 3 with (fail)
  clear hlook
  generalize wk.alloc (.cells #[.func (.func 45) #[] #[], g] 55) = w5 at *
  by_cases hz : eb = 0
  · have hd : ((eb.toNat : Int) == 0) = true := by rw [hz]; rfl
    have HZ := Lib.hid hz
    clear hz
    go_wp2_with fail
    refine (HF.out w5 (w.heap.size + 1 + 1) (by omega) HW5.out ZW5.out).mono ?_
    rintro e w6 ⟨rfl, hA6, hb6⟩
    obtain ⟨A6, c6, h6⟩ := hA6
    have H6 := Lib.hid h6
    have HB6 := Lib.hid hb6
    have c60 : w6.cell? ⟨w.heap.size + 1 + 1, 0, none⟩ = some (.slice A6 ([eb] ++ X).length c6) := (h6.a.cell 0).trans rfl
    clear h6 hb6 c50 c51 hd
    obtain ⟨nx, hnx⟩ : ∃ nx, nx = ([eb] ++ X).length := ⟨_, rfl⟩
    rw [← hnx] at c60
    have HNX := Lib.hid hnx
    clear hnx
    go_wp2_with fail
    go_ret
    refine ⟨A6, nx, c6, rfl, ?_, ZW5.out.trans HB6.out⟩
    rw [ansL_zero HZ.out, HNX.out]
    exact H6.out.o
  · have hd : ((eb.toNat : Int) == 0) = false := by
      rw [beq_eq_false_iff_ne]
      intro e
      exact hz (UInt8.toNat_inj.1 (by show eb.toNat = 0; omega))
    have HZ := Lib.hid hz
    clear hz
    go_wp2_with fail
    go_ret
    refine ⟨_, 1, c5, rfl, ?_, ZW5.out⟩
    rw [ansL_other HZ.out]
    exact HO5.out
set_option maxRecDepth 100000 in
set_option maxHeartbeats 3200000 in
/-- Answer, of no kind. -/
theorem answer_no (k : Nat) (err : Int) (fd : Bool) (ds st : Nat) (way : Value) (eb : UInt8) (w : World) (hway : way.oneCell' = true) (heb : err % 256 = (eb.toNat : Int)) (herr : -9223372036854775808 ≤ err ∧ err ≤ 9223372036854775807)
    (hlk : ∀ W m, Kinds W m → (Instr.lookup 57 (.map (some m)) (.int .u8 k) true).run Try.prog W = .ok (.tuple #[.agg #[.nilFunc, .nilFunc], .bool false]) W) :
    Calls Try.prog 19 #[.int .u8 k, .agg (repC err fd ds way st)] w fun e w' => ∃ A' n c', e = .returned (.slice A' n c') ∧ OwnB w' w.heap.size 5 A' n c' [eb] ∧ Below w.heap.size w w' := by
  have HLK := Lib.hid hlk
  have HEB := Lib.hid heb
  have hws : ∀ (W : World) (a : Addr) (m : Mode), (store a way m).run Try.prog W = stored Try.prog W a way m := fun W a m => run_store Try.prog W a way m hway
  clear hlk heb
  unfold repC
  go_enter Try.func19, Try.ntmps19
  go_wp2_with fail
  have HW : Hid (AWs (((w.alloc (.cells #[.int .i64 err, .bool fd, .int .u64 ds, way, .int .u8 st] 37)).alloc (.cells #[.int .u8 (err % 256)] 5)).alloc (.cells #[.slice (some ⟨w.heap.size + 1, 0, none⟩) 1 1, .bool false] 66)) w.heap.size (w.heap.size + 1 + 1) w.heap.size (repC err fd ds way st) [eb]) := by
    have h : AWs (((w.alloc (.cells #[.int .i64 err, .bool fd, .int .u64 ds, way, .int .u8 st] 37)).alloc (.cells #[.int .u8 (err % 256)] 5)).alloc (.cells #[.slice (some ⟨w.heap.size + 1, 0, none⟩) 1 1, .bool false] 66)) w.heap.size (w.heap.size + 1 + 1) w.heap.size (repC err fd ds way st) [eb] := by
      refine ⟨some ⟨w.heap.size + 1, 0, none⟩, 1, ?_, ?_, ?_, by omega, by simp; omega⟩
      · have h := Blk.new ((w.alloc (.cells #[.int .i64 err, .bool fd, .int .u64 ds, way, .int .u8 st] 37)).alloc (.cells #[.int .u8 (err % 256)] 5)) 66 #[.slice (some ⟨w.heap.size + 1, 0, none⟩) 1 1, .bool false]
        rw [World.size_alloc, World.size_alloc] at h
        exact h
      · have h := (own_one (w.alloc (.cells #[.int .i64 err, .bool fd, .int .u64 ds, way, .int .u8 st] 37)) (err % 256) eb HEB.out).alloc (.cells #[.slice (some ⟨w.heap.size + 1, 0, none⟩) 1 1, .bool false] 66)
        rw [World.size_alloc] at h
        exact h.mono (by omega)
      · exact ((Blk.new w 37 #[.int .i64 err, .bool fd, .int .u64 ds, way, .int .u8 st]).alloc _).alloc _
    exact h
  have ZW : Hid (Below w.heap.size w (((w.alloc (.cells #[.int .i64 err, .bool fd, .int .u64 ds, way, .int .u8 st] 37)).alloc (.cells #[.int .u8 (err % 256)] 5)).alloc (.cells #[.slice (some ⟨w.heap.size + 1, 0, none⟩) 1 1, .bool false] 66))) := by
    have h : Below w.heap.size w (((w.alloc (.cells #[.int .i64 err, .bool fd, .int .u64 ds, way, .int .u8 st] 37)).alloc (.cells #[.int .u8 (err % 256)] 5)).alloc (.cells #[.slice (some ⟨w.heap.size + 1, 0, none⟩) 1 1, .bool false] 66)) := (((Below.refl _ _).alloc (Nat.le_refl _) _).alloc (by simp) _).alloc (by simp; omega) _
    exact h
  generalize (((w.alloc (.cells #[.int .i64 err, .bool fd, .int .u64 ds, way, .int .u8 st] 37)).alloc (.cells #[.int .u8 (err % 256)] 5)).alloc (.cells #[.slice (some ⟨w.heap.size + 1, 0, none⟩) 1 1, .bool false] 66)) = w3 at *
  refine (kinds_any _).mono ?_
  rintro e wk ⟨m, rfl, hK, hge, hbk⟩
  have hlook := HLK.out _ _ hK
  have HW5 : Hid (AWs (wk.alloc (.cells #[.nilFunc, .nilFunc] 55)) w.heap.size (w.heap.size + 1 + 1) w.heap.size (repC err fd ds way st) [eb]) := by
    have h := (HW.out.below hbk).alloc (.cells #[.nilFunc, .nilFunc] 55)
    exact h
  have ZW5 : Hid (Below w.heap.size w (wk.alloc (.cells #[.nilFunc, .nilFunc] 55))) := by
    have h0 := ZW.out.trans (hbk.mono ZW.out.size)
    have h := h0.alloc h0.size (.cells #[.nilFunc, .nilFunc] 55)
    exact h
  have hfl : (wk.alloc (.cells #[.nilFunc, .nilFunc] 55)).cell? ⟨wk.heap.size, 0, none⟩ = some .nilFunc := ((Blk.new wk 55 #[.nilFunc, .nilFunc]).cell 0).trans rfl
  clear hbk hK hge
  obtain ⟨A5, c5, h5⟩ := HW5.out
  have c50 : (wk.alloc (.cells #[.nilFunc, .nilFunc] 55)).cell? ⟨w.heap.size + 1 + 1, 0, none⟩ = some (.slice A5 1 c5) := (h5.a.cell 0).trans rfl
  obtain ⟨gb, rfl, _, _, hgb, hcb, _⟩ := h5.o.open_ (by have := h5.o.2.1; simp at this; omega)
  have c51 : (wk.alloc (.cells #[.nilFunc, .nilFunc] 55)).cell? ⟨gb, 0, none⟩ = some (.int .u8 (eb.toNat : Int)) := hcb 0 (by simp)
  have HO5 := Lib.hid h5.o
  clear h5 hcb
  go_upto_region 3 with (fail)
  clear hlook
  generalize wk.alloc (.cells #[.nilFunc, .nilFunc] 55) = w5 at *
  go_wp2_with fail
  go_ret
  exact ⟨_, 1, c5, rfl, HO5.out, ZW5.out⟩
end Go.Proofs.Ytjiiabekjiilbaa
