/- The map of all kinds that package request makes, and what is looked up in it. -/
import Derived.Test.YtjiiabekjiilbaaMem2
import Derived.Test.YtjiiabekjiilbaaRows
import Derived.WalkKit
import Derived.ProofKit
import Derived.Lib.Hide
import Derived.MapKept
set_option linter.unusedSimpArgs false
set_option linter.unusedVariables false
namespace Go.Proofs.Ytjiiabekjiilbaa
open Go.RowKit Mp

theorem run_ins {P : Program} (w : World) (mty kt et : TypeId) (r clock : Nat) (es : Array MapEntry) (k : Int) (v : Value) (hm : P.underlying mty = some (.map kt et)) (hk : P.underlying kt = some (.int .u8)) (hb : w.heap[r]? = some (.map es clock))
    (hf : Instr.findNow (.int .u8) (.int .u8 k) es.toList 0 = some none) :
    (Instr.mapUpdate mty (.map (some r)) (.int .u8 k) v).run P w = .ok () { w with heap := w.heap.setIfInBounds r (.map (es.push { key := .int .u8 k, val := v, born := clock }) (clock + 1)) } := by
  have hc : (Instr.checkKey false 10000 kt (.int .u8 k)).run P w = .ok () w := MapKept.run_checkKey (k := .int .u8 k) hk (by simp [MapKept.IsKey]) false 9999
  simp [Instr.mapUpdate, run_underlying hm, MapKept.run_getObj_map hb, hc, MapKept.run_findKey hk hf, MapKept.run_setObj_map _ hb, Result.andThen]
theorem run_look {P : Program} (w : World) (mty kt et : TypeId) (r clock : Nat) (es : Array MapEntry) (k : Int) (v : Value) (i : Nat) (hm : P.underlying mty = some (.map kt et)) (hk : P.underlying kt = some (.int .u8)) (hb : w.heap[r]? = some (.map es clock))
    (hf : Instr.findNow (.int .u8) (.int .u8 k) es.toList 0 = some (some (i, v))) :
    (Instr.lookup mty (.map (some r)) (.int .u8 k) true).run P w = .ok (.tuple #[v, .bool true]) w := by
  have hc : ∀ b, (Instr.checkKey b 10000 kt (.int .u8 k)).run P w = .ok () w := fun b => MapKept.run_checkKey (k := .int .u8 k) hk (by simp [MapKept.IsKey]) b 9999
  simp [Instr.lookup, run_underlying hm, MapKept.run_getObj_map hb, hc, MapKept.run_findKey hk hf, Result.andThen]
theorem run_look_no {P : Program} (w : World) (mty kt et : TypeId) (r clock : Nat) (es : Array MapEntry) (k : Int) (z : Value) (hm : P.underlying mty = some (.map kt et)) (hk : P.underlying kt = some (.int .u8)) (hb : w.heap[r]? = some (.map es clock))
    (hz : (zeroValue et).run P w = .ok z w) (hf : Instr.findNow (.int .u8) (.int .u8 k) es.toList 0 = some none) :
    (Instr.lookup mty (.map (some r)) (.int .u8 k) true).run P w = .ok (.tuple #[z, .bool false]) w := by
  have hc : ∀ b, (Instr.checkKey b 10000 kt (.int .u8 k)).run P w = .ok () w := fun b => MapKept.run_checkKey (k := .int .u8 k) hk (by simp [MapKept.IsKey]) b 9999
  simp [Instr.lookup, run_underlying hm, MapKept.run_getObj_map hb, hc, MapKept.run_findKey hk hf, hz, Result.andThen]

/-- how a kind's answers are written and read. -/
def howD : Value := .agg #[.func (.func 41) #[] #[], .func (.func 42) #[] #[]]
def howP : Value := .agg #[.func (.func 43) #[] #[], .func (.func 44) #[] #[]]
def howS : Value := .agg #[.func (.func 45) #[] #[], .func (.func 46) #[] #[]]
def kindsL : Array MapEntry := #[{ key := .int .u8 1, val := howD, born := 0 }, { key := .int .u8 2, val := howP, born := 1 }, { key := .int .u8 3, val := howS, born := 2 }]
/-- block m is the map of all kinds. -/
def Kinds (w : World) (m : Nat) : Prop := w.heap[m]? = some (.map kindsL 3)
theorem Kinds.below {w w' : World} {m : Nat} (h : Kinds w m) (hb : Below w.heap.size w w') : Kinds w' m := (hb.block m (lt_of_block h)).trans h
theorem Kinds.alloc {w : World} {m : Nat} (h : Kinds w m) (o : Obj) : Kinds (w.alloc o) m := h.below ((Below.refl _ _).alloc (Nat.le_refl _) o)
theorem kind_zero (w : World) : (zeroValue 55).run Try.prog w = .ok (.agg #[.nilFunc, .nilFunc]) w := by kernel_rfl
theorem look1 {w : World} {m : Nat} (h : Kinds w m) : (Instr.lookup 57 (.map (some m)) (.int .u8 1) true).run Try.prog w = .ok (.tuple #[howD, .bool true]) w :=
  run_look w _ _ _ m 3 kindsL 1 howD 0 Try.underlying57 Try.underlying5 h rfl
theorem look2 {w : World} {m : Nat} (h : Kinds w m) : (Instr.lookup 57 (.map (some m)) (.int .u8 2) true).run Try.prog w = .ok (.tuple #[howP, .bool true]) w :=
  run_look w _ _ _ m 3 kindsL 2 howP 1 Try.underlying57 Try.underlying5 h rfl
theorem look3 {w : World} {m : Nat} (h : Kinds w m) : (Instr.lookup 57 (.map (some m)) (.int .u8 3) true).run Try.prog w = .ok (.tuple #[howS, .bool true]) w :=
  run_look w _ _ _ m 3 kindsL 3 howS 2 Try.underlying57 Try.underlying5 h rfl
theorem look_no {w : World} {m : Nat} (k : Nat) (h1 : k ≠ 1) (h2 : k ≠ 2) (h3 : k ≠ 3) (h : Kinds w m) : (Instr.lookup 57 (.map (some m)) (.int .u8 k) true).run Try.prog w = .ok (.tuple #[.agg #[.nilFunc, .nilFunc], .bool false]) w := by
  refine run_look_no w _ _ _ m 3 kindsL k _ Try.underlying57 Try.underlying5 h (kind_zero w) ?_
  have e1 : ((k : Int) == 1) = false := by simp; omega
  have e2 : ((k : Int) == 2) = false := by simp; omega
  have e3 : ((k : Int) == 3) = false := by simp; omega
  simp [kindsL, Instr.findNow, Instr.sameNow, e1, e2, e3]

theorem below_set_obj {B : Nat} {w0 w : World} {r : Nat} (h : Below B w0 w) (hr : B ≤ r) (o : Obj) : Below B w0 { w with heap := w.heap.setIfInBounds r o } :=
  ⟨h.os, h.tape, h.output, by simpa using h.size, fun k hk => (show (w.heap.setIfInBounds r o)[k]? = _ by rw [Array.getElem?_setIfInBounds, if_neg (by omega)]; exact h.block k hk)⟩
theorem set_obj_at {w : World} {r : Nat} (o : Obj) (h : r < w.heap.size) : ({ w with heap := w.heap.setIfInBounds r o } : World).heap[r]? = some o := by
  show (w.heap.setIfInBounds r o)[r]? = _
  rw [Array.getElem?_setIfInBounds_self_of_lt h]

theorem kinds_any (w : World) : Calls Try.prog 29 #[] w fun e w' => ∃ m, e = .returned (.map (some m)) ∧ Kinds w' m ∧ w.heap.size ≤ m ∧ Below w.heap.size w w' := by
  have hmm := @run_makeMap Try.prog
  have a0 : (w.alloc (.map #[] 0)).heap[w.heap.size]? = some (.map #[] 0) := heap_alloc_new w _
  have h1 := run_ins (P := Try.prog) (w.alloc (.map #[] 0)) _ _ _ w.heap.size 0 #[] 1 howD Try.underlying57 Try.underlying5 a0 rfl
  have b0 : Below w.heap.size w (w.alloc (.map #[] 0)) := (Below.refl _ _).alloc (Nat.le_refl _) _
  have b1 := below_set_obj b0 (Nat.le_refl _) (.map ((#[] : Array MapEntry).push { key := .int .u8 1, val := howD, born := 0 }) (0 + 1))
  have a1 := set_obj_at (w := w.alloc (.map #[] 0)) (.map ((#[] : Array MapEntry).push { key := .int .u8 1, val := howD, born := 0 }) (0 + 1)) (r := w.heap.size) (by simp)
  generalize ({ (w.alloc (.map #[] 0)) with heap := (w.alloc (.map #[] 0)).heap.setIfInBounds w.heap.size (.map ((#[] : Array MapEntry).push { key := .int .u8 1, val := howD, born := 0 }) (0 + 1)) } : World) = w1 at *
  have h2 := run_ins (P := Try.prog) w1 _ _ _ w.heap.size _ _ 2 howP Try.underlying57 Try.underlying5 a1 rfl
  have b2 := below_set_obj b1 (Nat.le_refl _) (.map (((#[] : Array MapEntry).push { key := .int .u8 1, val := howD, born := 0 }).push { key := .int .u8 2, val := howP, born := 0 + 1 }) (0 + 1 + 1))
  have a2 := set_obj_at (w := w1) (.map (((#[] : Array MapEntry).push { key := .int .u8 1, val := howD, born := 0 }).push { key := .int .u8 2, val := howP, born := 0 + 1 }) (0 + 1 + 1)) (r := w.heap.size) (lt_of_block a1)
  generalize ({ w1 with heap := w1.heap.setIfInBounds w.heap.size (.map (((#[] : Array MapEntry).push { key := .int .u8 1, val := howD, born := 0 }).push { key := .int .u8 2, val := howP, born := 0 + 1 }) (0 + 1 + 1)) } : World) = w2 at *
  have h3 := run_ins (P := Try.prog) w2 _ _ _ w.heap.size _ _ 3 howS Try.underlying57 Try.underlying5 a2 rfl
  have b3 := below_set_obj b2 (Nat.le_refl _) (.map ((((#[] : Array MapEntry).push { key := .int .u8 1, val := howD, born := 0 }).push { key := .int .u8 2, val := howP, born := 0 + 1 }).push { key := .int .u8 3, val := howS, born := 0 + 1 + 1 }) (0 + 1 + 1 + 1))
  have a3 := set_obj_at (w := w2) (.map ((((#[] : Array MapEntry).push { key := .int .u8 1, val := howD, born := 0 }).push { key := .int .u8 2, val := howP, born := 0 + 1 }).push { key := .int .u8 3, val := howS, born := 0 + 1 + 1 }) (0 + 1 + 1 + 1)) (r := w.heap.size) (lt_of_block a2)
  generalize ({ w2 with heap := w2.heap.setIfInBounds w.heap.size (.map ((((#[] : Array MapEntry).push { key := .int .u8 1, val := howD, born := 0 }).push { key := .int .u8 2, val := howP, born := 0 + 1 }).push { key := .int .u8 3, val := howS, born := 0 + 1 + 1 }) (0 + 1 + 1 + 1)) } : World) = w3 at *
  have A3 : Hid (Kinds w3 w.heap.size) := Lib.hid a3
  have B3 := Lib.hid b3
  clear a0 a1 a2 a3 b0 b1 b2 b3
  unfold howD at h1
  unfold howP at h2
  unfold howS at h3
  go_enter Try.func29, Try.ntmps29
  go_wp2_with fail
  go_ret
  exact ⟨_, rfl, A3.out, Nat.le_refl _, B3.out⟩
end Go.Proofs.Ytjiiabekjiilbaa
