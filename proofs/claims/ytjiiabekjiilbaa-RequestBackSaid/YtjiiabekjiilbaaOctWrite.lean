/- What Edge, Vert and Label answer: the bytes of their numbers, one behind the other, in new memory. -/
import Derived.Test.YtjiiabekjiilbaaOctPut
import Derived.Deep.RegionHeld3
set_option linter.unusedSimpArgs false
set_option linter.unusedVariables false
namespace Go.Proofs.Ytjiiabekjiilbaa
open Go.RowKit Mp

/-- what was there when w was is as it was. -/
def Since (w w' : World) : Prop := Below w.heap.size w w'
theorem Since.refl (w : World) : Since w w := Below.refl _ _
theorem Since.drew {w w' : World} (h : Since w w') : Since w w'.drew := Below.drew h
theorem Since.step {w w' w'' : World} (h : Since w w') (k : Below w'.heap.size w' w'') : Since w w'' := Below.trans h (k.mono h.size)
theorem Since.bytes {w w' : World} (h : Since w w') {A : Option Addr} {l : List UInt8} (hb : Bytes w w.heap.size A l) : Bytes w' w'.heap.size A l := (hb.below h).more h.size

theorem put32_since {w0 : World} (A : Option Addr) (n c x s : Nat) (l : List UInt8) (W : World) (hO : OwnB W w0.heap.size 5 A n c l) (hS : Since w0 W) (hn : n ≤ 1073741824) (hs : s ≤ 4) (hx : x ≤ 4294967295) :
    Calls Try.prog 59 #[.slice A n c, .int .u32 x, .int .i64 s] W fun e w' => ∃ A' c', e = .returned (.slice A' (n + s) c') ∧ OwnB w' w0.heap.size 5 A' (n + s) c' (l ++ le s x) ∧ Since w0 w' :=
  (put32_any A n c x s w0.heap.size l W hO hn hs hx hS.size).mono fun _ _ ⟨A', c', h1, h2, h3⟩ => ⟨A', c', h1, h2, Below.trans hS h3⟩
theorem put64_since {w0 : World} (A : Option Addr) (n c x s : Nat) (l : List UInt8) (W : World) (hO : OwnB W w0.heap.size 5 A n c l) (hS : Since w0 W) (hn : n ≤ 1073741824) (hs : s ≤ 8) (hx : x ≤ 18446744073709551615) :
    Calls Try.prog 51 #[.slice A n c, .int .u64 x, .int .i64 s] W fun e w' => ∃ A' c', e = .returned (.slice A' (n + s) c') ∧ OwnB w' w0.heap.size 5 A' (n + s) c' (l ++ le s x) ∧ Since w0 w' :=
  (put64_any A n c x s w0.heap.size l W hO hn hs hx hS.size).mono fun _ _ ⟨A', c', h1, h2, h3⟩ => ⟨A', c', h1, h2, Below.trans hS h3⟩

/-- the bytes that Edge answers. -/
def edgeL (t hd wt m : Nat) : List UInt8 := le 4 t ++ le 4 hd ++ le 8 wt ++ le 4 m
set_option maxRecDepth 100000 in
set_option maxHeartbeats 1600000 in
theorem edge_any (t hd wt m : Nat) (w : World) (ht : t ≤ 4294967295) (hhd : hd ≤ 4294967295) (hwt : wt ≤ 18446744073709551615) (hm : m ≤ 4294967295) :
    Calls Try.prog 57 #[.agg #[.int .u32 t, .int .u32 hd, .int .u64 wt, .int .u32 m]] w fun e w' => ∃ A' c', e = .returned (.slice A' 20 c') ∧ OwnB w' w.heap.size 5 A' 20 c' (edgeL t hd wt m) ∧ Below w.heap.size w w' := by
  have HE : Hid (edgeL t hd wt m = le 4 t ++ le 4 hd ++ le 8 wt ++ le 4 m) := rfl
  generalize edgeL t hd wt m = LL at HE
  have Hk : Hid (∀ w', Since (w.alloc (.cells #[.int .u32 t, .int .u32 hd, .int .u64 wt, .int .u32 m] 71)) w' → (w'.cell? ⟨w.heap.size, 0, none⟩ = some (.int .u32 t) ∧ w'.cell? ⟨w.heap.size, 1, none⟩ = some (.int .u32 hd) ∧ w'.cell? ⟨w.heap.size, 2, none⟩ = some (.int .u64 wt) ∧ w'.cell? ⟨w.heap.size, 3, none⟩ = some (.int .u32 m) ∧ Since (w.alloc (.cells #[.int .u32 t, .int .u32 hd, .int .u64 wt, .int .u32 m] 71)) w')) := fun w' hq => by
    have k := (Blk.new w 71 #[.int .u32 t, .int .u32 hd, .int .u64 wt, .int .u32 m]).below hq (Blk.new w 71 #[.int .u32 t, .int .u32 hd, .int .u64 wt, .int .u32 m]).lt
    exact ⟨(k.cell 0).trans rfl, (k.cell 1).trans rfl, (k.cell 2).trans rfl, (k.cell 3).trans rfl, hq⟩
  have P0 : Hid (∀ W, (W.cell? ⟨w.heap.size, 0, none⟩ = some (.int .u32 t) ∧ W.cell? ⟨w.heap.size, 1, none⟩ = some (.int .u32 hd) ∧ W.cell? ⟨w.heap.size, 2, none⟩ = some (.int .u64 wt) ∧ W.cell? ⟨w.heap.size, 3, none⟩ = some (.int .u32 m) ∧ Since (w.alloc (.cells #[.int .u32 t, .int .u32 hd, .int .u64 wt, .int .u32 m] 71)) W) → Calls Try.prog 59 #[.slice none 0 0, .int .u32 t, .int .i64 4] W fun e w' => ∃ A' c', e = .returned (.slice A' 4 c') ∧ OwnB w' (w.alloc (.cells #[.int .u32 t, .int .u32 hd, .int .u64 wt, .int .u32 m] 71)).heap.size 5 A' 4 c' (le 4 t) ∧ Since (w.alloc (.cells #[.int .u32 t, .int .u32 hd, .int .u64 wt, .int .u32 m] 71)) w') := fun W hS =>
    put32_since none 0 0 t 4 [] W (OwnB.nil _ _ _ _) hS.2.2.2.2 (by omega) (by omega) ht
  have P1 : Hid (∀ W A c, OwnB W (w.alloc (.cells #[.int .u32 t, .int .u32 hd, .int .u64 wt, .int .u32 m] 71)).heap.size 5 A 4 c (le 4 t) → (W.cell? ⟨w.heap.size, 0, none⟩ = some (.int .u32 t) ∧ W.cell? ⟨w.heap.size, 1, none⟩ = some (.int .u32 hd) ∧ W.cell? ⟨w.heap.size, 2, none⟩ = some (.int .u64 wt) ∧ W.cell? ⟨w.heap.size, 3, none⟩ = some (.int .u32 m) ∧ Since (w.alloc (.cells #[.int .u32 t, .int .u32 hd, .int .u64 wt, .int .u32 m] 71)) W) → Calls Try.prog 59 #[.slice A 4 c, .int .u32 hd, .int .i64 4] W fun e w' => ∃ A' c', e = .returned (.slice A' 8 c') ∧ OwnB w' (w.alloc (.cells #[.int .u32 t, .int .u32 hd, .int .u64 wt, .int .u32 m] 71)).heap.size 5 A' 8 c' (le 4 t ++ le 4 hd) ∧ Since (w.alloc (.cells #[.int .u32 t, .int .u32 hd, .int .u64 wt, .int .u32 m] 71)) w') := fun W A c hO hS =>
    put32_since A 4 c hd 4 _ W hO hS.2.2.2.2 (by omega) (by omega) hhd
  have P2 : Hid (∀ W A c, OwnB W (w.alloc (.cells #[.int .u32 t, .int .u32 hd, .int .u64 wt, .int .u32 m] 71)).heap.size 5 A 8 c (le 4 t ++ le 4 hd) → (W.cell? ⟨w.heap.size, 0, none⟩ = some (.int .u32 t) ∧ W.cell? ⟨w.heap.size, 1, none⟩ = some (.int .u32 hd) ∧ W.cell? ⟨w.heap.size, 2, none⟩ = some (.int .u64 wt) ∧ W.cell? ⟨w.heap.size, 3, none⟩ = some (.int .u32 m) ∧ Since (w.alloc (.cells #[.int .u32 t, .int .u32 hd, .int .u64 wt, .int .u32 m] 71)) W) → Calls Try.prog 51 #[.slice A 8 c, .int .u64 wt, .int .i64 8] W fun e w' => ∃ A' c', e = .returned (.slice A' 16 c') ∧ OwnB w' (w.alloc (.cells #[.int .u32 t, .int .u32 hd, .int .u64 wt, .int .u32 m] 71)).heap.size 5 A' 16 c' (le 4 t ++ le 4 hd ++ le 8 wt) ∧ Since (w.alloc (.cells #[.int .u32 t, .int .u32 hd, .int .u64 wt, .int .u32 m] 71)) w') := fun W A c hO hS =>
    put64_since A 8 c wt 8 _ W hO hS.2.2.2.2 (by omega) (by omega) hwt
  have P3 : Hid (∀ W A c, OwnB W (w.alloc (.cells #[.int .u32 t, .int .u32 hd, .int .u64 wt, .int .u32 m] 71)).heap.size 5 A 16 c (le 4 t ++ le 4 hd ++ le 8 wt) → (W.cell? ⟨w.heap.size, 0, none⟩ = some (.int .u32 t) ∧ W.cell? ⟨w.heap.size, 1, none⟩ = some (.int .u32 hd) ∧ W.cell? ⟨w.heap.size, 2, none⟩ = some (.int .u64 wt) ∧ W.cell? ⟨w.heap.size, 3, none⟩ = some (.int .u32 m) ∧ Since (w.alloc (.cells #[.int .u32 t, .int .u32 hd, .int .u64 wt, .int .u32 m] 71)) W) → Calls Try.prog 59 #[.slice A 16 c, .int .u32 m, .int .i64 4] W fun e w' => ∃ A' c', e = .returned (.slice A' 20 c') ∧ OwnB w' (w.alloc (.cells #[.int .u32 t, .int .u32 hd, .int .u64 wt, .int .u32 m] 71)).heap.size 5 A' 20 c' (le 4 t ++ le 4 hd ++ le 8 wt ++ le 4 m) ∧ Since (w.alloc (.cells #[.int .u32 t, .int .u32 hd, .int .u64 wt, .int .u32 m] 71)) w') := fun W A c hO hS =>
    put32_since A 16 c m 4 _ W hO hS.2.2.2.2 (by omega) (by omega) hm
  go_enter Try.func57, Try.ntmps57
  go_wp2_with fail
  have hst := Since.refl (w.alloc (.cells #[.int .u32 t, .int .u32 hd, .int .u64 wt, .int .u32 m] 71))
  have hbw : Hid (Below w.heap.size w (w.alloc (.cells #[.int .u32 t, .int .u32 hd, .int .u64 wt, .int .u32 m] 71))) := by
    have h : Below w.heap.size w (w.alloc (.cells #[.int .u32 t, .int .u32 hd, .int .u64 wt, .int .u32 m] 71)) := (Below.refl _ _).alloc (Nat.le_refl _) _
    exact h
  generalize w.alloc (.cells #[.int .u32 t, .int .u32 hd, .int .u64 wt, .int .u32 m] 71) = w0 at *
  go_region_held3 (fun w' => (w'.cell? ⟨w.heap.size, 0, none⟩ = some (.int .u32 t) ∧ w'.cell? ⟨w.heap.size, 1, none⟩ = some (.int .u32 hd) ∧ w'.cell? ⟨w.heap.size, 2, none⟩ = some (.int .u64 wt) ∧ w'.cell? ⟨w.heap.size, 3, none⟩ = some (.int .u32 m) ∧ Since w0 w')) (first | ((with_reducible refine Hk.out _ ?_); (with_reducible assumption)) | ((with_reducible refine Hk.out _ (Since.drew ?_)); (with_reducible assumption))) (first | (go_at_call_of 59 t; (with_reducible refine Calls.mono (P0.out _ ?_) ?_); (with_reducible assumption); rintro e wq ⟨A0, c0, rfl, hO0, hsq⟩) | (go_at_call_of 59 hd; (with_reducible refine Calls.mono (P1.out _ _ _ ?_ ?_) ?_); (first | (with_reducible assumption) | ((with_reducible refine OwnB.drew ?_); (with_reducible assumption))); (with_reducible assumption); rintro e wq ⟨A1, c1, rfl, hO1, hsq⟩) | (go_at_call_of 51 wt; (with_reducible refine Calls.mono (P2.out _ _ _ ?_ ?_) ?_); (first | (with_reducible assumption) | ((with_reducible refine OwnB.drew ?_); (with_reducible assumption))); (with_reducible assumption); rintro e wq ⟨A2, c2, rfl, hO2, hsq⟩) | (go_at_call_of 59 m; (with_reducible refine Calls.mono (P3.out _ _ _ ?_ ?_) ?_); (first | (with_reducible assumption) | ((with_reducible refine OwnB.drew ?_); (with_reducible assumption))); (with_reducible assumption); rintro e wq ⟨A3, c3, rfl, hO3, hsq⟩))
  go_wp2_with fail
  go_region_held3 (fun w' => (w'.cell? ⟨w.heap.size, 0, none⟩ = some (.int .u32 t) ∧ w'.cell? ⟨w.heap.size, 1, none⟩ = some (.int .u32 hd) ∧ w'.cell? ⟨w.heap.size, 2, none⟩ = some (.int .u64 wt) ∧ w'.cell? ⟨w.heap.size, 3, none⟩ = some (.int .u32 m) ∧ Since w0 w')) (first | ((with_reducible refine Hk.out _ ?_); (with_reducible assumption)) | ((with_reducible refine Hk.out _ (Since.drew ?_)); (with_reducible assumption))) (first | (go_at_call_of 59 t; (with_reducible refine Calls.mono (P0.out _ ?_) ?_); (with_reducible assumption); rintro e wq ⟨A0, c0, rfl, hO0, hsq⟩) | (go_at_call_of 59 hd; (with_reducible refine Calls.mono (P1.out _ _ _ ?_ ?_) ?_); (first | (with_reducible assumption) | ((with_reducible refine OwnB.drew ?_); (with_reducible assumption))); (with_reducible assumption); rintro e wq ⟨A1, c1, rfl, hO1, hsq⟩) | (go_at_call_of 51 wt; (with_reducible refine Calls.mono (P2.out _ _ _ ?_ ?_) ?_); (first | (with_reducible assumption) | ((with_reducible refine OwnB.drew ?_); (with_reducible assumption))); (with_reducible assumption); rintro e wq ⟨A2, c2, rfl, hO2, hsq⟩) | (go_at_call_of 59 m; (with_reducible refine Calls.mono (P3.out _ _ _ ?_ ?_) ?_); (first | (with_reducible assumption) | ((with_reducible refine OwnB.drew ?_); (with_reducible assumption))); (with_reducible assumption); rintro e wq ⟨A3, c3, rfl, hO3, hsq⟩))
  go_wp2_with fail
  go_ret
  refine ⟨_, _, rfl, ?_, ?_⟩
  · rw [HE.out]; exact OwnB.mono (by assumption) hbw.out.size
  · exact hbw.out.trans (Below.mono (show Below _ _ _ from ‹Since w0 _›) hbw.out.size)



end Go.Proofs.Ytjiiabekjiilbaa
