/- A reply that comes in by value: its cells, and its way as a list of edges. -/
import Derived.Test.YtjiiabekjiilbaaStruct
import Derived.Test.YtjiiabekjiilbaaReqWay
import Derived.Test.YtjiiabekjiilbaaReqArg
import Derived.Lib.SmallJoins
import Derived.Deep.Slices
set_option linter.unusedSimpArgs false
set_option linter.unusedVariables false
namespace Go.Proofs.Ytjiiabekjiilbaa
open Go.ChangeShapes Go.WideShapes Go.ChangeAt Go.RowKit Mp

theorem cell_slice {P : Program} {w : World} {r : Reach} {b : Nat} {t e : TypeId} (ht : P.underlying t = some (.slice e)) {v : Value} (h : Cell.okWide P w r b t v) : ∃ A n c, v = .slice A n c := by
  simp only [Cell.okWide, ht] at h
  cases v <;> simp_all [Cell.ok]
theorem cell_i64 {P : Program} {w : World} {r : Reach} {b : Nat} {t : TypeId} (ht : P.underlying t = some (.int .i64)) {v : Value} (h : Cell.okWide P w r b t v) : ∃ n : Int, v = .int .i64 n ∧ -9223372036854775808 ≤ n ∧ n ≤ 9223372036854775807 := by
  obtain ⟨n, rfl, hn⟩ := cell_int ht h
  have h1 : (-9223372036854775808 : Int) ≤ n ∧ n ≤ 9223372036854775807 := by simpa [IntKind.has, IntKind.min, IntKind.max, IntKind.signed, IntKind.bits] using hn
  exact ⟨n, rfl, h1.1, h1.2⟩
theorem cell_bool {P : Program} {w : World} {r : Reach} {b : Nat} {t : TypeId} (ht : P.underlying t = some .bool) {v : Value} (h : Cell.okWide P w r b t v) : ∃ y : Bool, v = .bool y := by
  simp only [Cell.okWide, ht] at h
  cases v <;> simp_all [Cell.ok]

theorem WayAt.more' {w : World} {B C : Nat} {A : Option Addr} {ws : List Ed} (h : WayAt w B A ws) (hC : B ≤ C) : WayAt w C A ws := by
  rcases h with h | ⟨b, off, h1, h2, h3⟩
  · exact .inl h
  · exact .inr ⟨b, off, h1, by omega, h3⟩
/-- the edge at a place. -/
theorem edge_at {H : Type} {enc : TypeId × Value → H} {W : World} {base : Nat} {spare : Nat → Bool} {held : Bool} {n : Nat} {a : Addr} {cs : List Value} {x : DataW H × List MemPlace} (hc : W.cells? base a 4 = some cs)
    (h : DataW.trod enc Try.prog W base spare held n 71 cs = some x) :
    ∃ E : Ed, E.ok ∧ W.cell? (a.add 0) = some (.int .u32 E.t) ∧ W.cell? (a.add 1) = some (.int .u32 E.h) ∧ W.cell? (a.add 2) = some (.int .u64 E.w) ∧ W.cell? (a.add 3) = some (.int .u32 E.m) := by
  obtain ⟨_, hl, hat⟩ := World.cells?_some hc
  obtain ⟨y0, y1, y2, y3, m, _, _, g0, g1, g2, g3⟩ := Joins.trod_struct4 Try.underlying71 h
  have k1 : Try.prog.cellsOf 23 = 1 := by kernel_rfl
  have k2 : Try.prog.cellsOf 34 = 1 := by kernel_rfl
  match cs, hl with
  | [v0, v1, v2, v3], _ =>
    simp [k1, k2] at g0 g1 g2 g3
    obtain ⟨z0, e0, _, w0⟩ := DataW.trod_int Try.underlying23 g0
    obtain ⟨z1, e1, _, w1⟩ := DataW.trod_int Try.underlying23 g1
    obtain ⟨z2, e2, _, w2⟩ := DataW.trod_int Try.underlying34 g2
    obtain ⟨z3, e3, _, w3⟩ := DataW.trod_int Try.underlying23 g3
    simp at e0 e1 e2 e3
    subst e0 e1 e2 e3
    obtain ⟨a0, rfl, b0⟩ := nat_of_u32 w0
    obtain ⟨a1, rfl, b1⟩ := nat_of_u32 w1
    obtain ⟨a2, rfl, b2⟩ := nat_of_u64 w2
    obtain ⟨a3, rfl, b3⟩ := nat_of_u32 w3
    exact ⟨⟨a0, a1, a2, a3⟩, ⟨b0, b1, b2, b3⟩, hat 0 (by omega), hat 1 (by omega), hat 2 (by omega), hat 3 (by omega)⟩

theorem way_arg {H : Type} {enc : TypeId × Value → H} {W : World} {base : Nat} {spare : Nat → Bool} {held : Bool} {fuel n c : Nat} {A : Option Addr} {x : DataW H × List MemPlace}
    (h : DataW.trod enc Try.prog W base spare held fuel 35 [.slice A n c] = some x) :
    ∃ ws : List Ed, ws.length = n ∧ WayAt W W.heap.size A ws ∧ n ≤ c ∧ c ≤ maxLen ∧ ∀ x ∈ ws, x.ok := by
  have k4 : Try.prog.cellsOf 71 = 4 := by kernel_rfl
  rcases Go.Deep.open_slice Try.underlying35 h with ⟨h1, _⟩ | ⟨a, len, cap, m, n', D, Pl, hcs, hb, hl, hm, hmm, _, hi⟩
  · simp at h1
    obtain ⟨rfl, rfl, rfl⟩ := h1
    exact ⟨[], rfl, .inl rfl, Nat.le_refl _, Nat.zero_le _, fun _ h => by cases h⟩
  · simp at hcs
    obtain ⟨rfl, rfl, rfl⟩ := hcs
    have hnm : n ≤ m := by rw [hmm]; split <;> omega
    have hE : ∀ i, i < n → ∃ E : Ed, E.ok ∧ W.cell? (a.add (i * 4)) = some (.int .u32 E.t) ∧ W.cell? (a.add (i * 4 + 1)) = some (.int .u32 E.h) ∧ W.cell? (a.add (i * 4 + 2)) = some (.int .u64 E.w) ∧ W.cell? (a.add (i * 4 + 3)) = some (.int .u32 E.m) := by
      intro i hin
      obtain ⟨cs', hc, ht⟩ := hi i (by omega)
      rw [k4] at hc
      obtain ⟨E, ho, e0, e1, e2, e3⟩ := edge_at hc ht
      simp only [Go.Deep.add_add] at e0 e1 e2 e3
      exact ⟨E, ho, e0, e1, e2, e3⟩
    let f : Nat → Ed := fun i => if hin : i < n then (hE i hin).choose else ⟨0, 0, 0, 0⟩
    have hf : ∀ i (hin : i < n), (f i).ok ∧ W.cell? (a.add (i * 4)) = some (.int .u32 (f i).t) ∧ W.cell? (a.add (i * 4 + 1)) = some (.int .u32 (f i).h) ∧ W.cell? (a.add (i * 4 + 2)) = some (.int .u64 (f i).w) ∧ W.cell? (a.add (i * 4 + 3)) = some (.int .u32 (f i).m) := by
      intro i hin
      have := (hE i hin).choose_spec
      simpa [f, hin] using this
    refine ⟨(List.range n).map f, by simp, ?_, hl, hm, fun x hx => ?_⟩
    · by_cases h0 : n = 0
      · left; simp [h0]
      · right
        obtain ⟨b, off, spot⟩ := a
        have hc := (hf 0 (by omega)).2.1
        have hspot : spot = none := by simpa [Addr.add] using World.cell?_spot hc
        subst hspot
        refine ⟨b, off, rfl, World.block_lt_of_cell? W _ hc, fun i hi' => ?_⟩
        have hin : i < n := by simpa using hi'
        have hadd : ∀ j, (⟨b, off, none⟩ : Addr).add j = ⟨b, off + j, none⟩ := fun j => by unfold Addr.add; split <;> simp_all
        have := (hf i hin).2
        simp only [hadd, ← Nat.add_assoc] at this
        simpa using this
    · obtain ⟨i, hi', rfl⟩ := List.mem_map.1 hx
      exact (hf i (by simpa using hi')).1

theorem reply_types : Try.prog.cellTypes Try.prog.depth 37 = some [28, 4, 34, 35, 5] := by kernel_rfl
theorem reply_form {H : Type} {enc : TypeId × Value → H} {W : World} {base : Nat} {spare : Nat → Bool} {held : Bool} {x : Value} {d : DataW H} {p : List MemPlace} {w : World} {r : Reach} {b : Nat} (hv : Value.okWide Try.prog w r b 37 x)
    (h : DataW.Trod enc Try.prog W base spare held 37 x d p) :
    ∃ (err : Int) (fd : Bool) (ds : Nat) (A : Option Addr) (n c : Nat) (ws : List Ed) (st : Nat), x = .agg (repC err fd ds (.slice A n c) st) ∧ ((-9223372036854775808 ≤ err ∧ err ≤ 9223372036854775807) ∧ ds ≤ 18446744073709551615 ∧ st ≤ 255) ∧
      (ws.length = n ∧ WayAt W W.heap.size A ws ∧ n ≤ c ∧ c ≤ maxLen ∧ ∀ x ∈ ws, x.ok) := by
  obtain ⟨l, rfl, hl, hc⟩ := agg_cells Try.underlying37 reply_types (by kernel_rfl) hv
  match l, hl with
  | [x0, x1, x2, x3, x4], _ =>
    obtain ⟨err, rfl, h0⟩ := cell_i64 Try.underlying28 (hc 0 (by simp) (by simp))
    obtain ⟨fd, rfl⟩ := cell_bool Try.underlying4 (hc 1 (by simp) (by simp))
    obtain ⟨ds, rfl, h2⟩ := cell_u64 Try.underlying34 (hc 2 (by simp) (by simp))
    obtain ⟨A, n, c, rfl⟩ := cell_slice Try.underlying35 (hc 3 (by simp) (by simp))
    obtain ⟨st, rfl, h4⟩ := cell_u8 Try.underlying5 (hc 4 (by simp) (by simp))
    obtain ⟨fuel, hf⟩ := h
    obtain ⟨xs, m, _, _, _, hxl, hfs⟩ := DataW.trod_struct Try.underlying37 hf
    have k1 : Try.prog.cellsOf 35 = 1 := by kernel_rfl
    have g := hfs 3 _ rfl
    have hx3 : xs[3]? = some (xs[3]'(by rw [hxl]; decide)) := List.getElem?_eq_getElem _
    rw [hx3] at g
    obtain ⟨ws, hws⟩ := way_arg (x := xs[3]'(by rw [hxl]; decide)) (by simpa [Value.cells, k1] using g)
    exact ⟨err, fd, ds, A, n, c, ws, st, rfl, ⟨h0, h2, h4⟩, hws⟩

/-- request.Answer for the kind of ways. -/
theorem answer2 (err : Int) (fd : Bool) (ds n c st : Nat) (A : Option Addr) (ws : List Ed) (eb : UInt8) (w : World) (heb : err % 256 = (eb.toNat : Int)) (herr : -9223372036854775808 ≤ err ∧ err ≤ 9223372036854775807)
    (hws : ws.length = n) (hW : WayAt w w.heap.size A ws) (hok : ∀ x ∈ ws, x.ok) (hn : n ≤ 65536) :
    Calls Try.prog 19 #[.int .u8 2, .agg (repC err fd ds (.slice A n c) st)] w fun e w' => ∃ A' m c', e = .returned (.slice A' m c') ∧ OwnB w' w.heap.size 5 A' m c' (ansL eb (flagL fd ++ le 4 n ++ wayL ws)) ∧ Below w.heap.size w w' :=
  answer_path 2 err fd ds st (.slice A n c) eb _ (flagL fd ++ le 4 n ++ wayL ws) w rfl heb rfl herr (fun W m h => look2 h) fun W ga hga h hb => by
    have := putpath_any w.heap.size ga w.heap.size n c err fd ds st A ws [eb] W h (by simp) hws (hW.below hb (Nat.le_refl _)) hok hn (Nat.le_refl _)
    rw [show [eb] ++ (flagL fd ++ le 4 n ++ wayL ws) = [eb] ++ flagL fd ++ le 4 n ++ wayL ws by simp]
    exact this
end Go.Proofs.Ytjiiabekjiilbaa
