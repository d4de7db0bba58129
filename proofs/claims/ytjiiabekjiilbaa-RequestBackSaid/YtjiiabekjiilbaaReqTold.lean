/- The document's Told: of a reply what an answer to a kind tells. -/
import Derived.Test.YtjiiabekjiilbaaReqExact
import Derived.Deep.Cut
set_option linter.unusedSimpArgs false
set_option linter.unusedVariables false
namespace Go.Proofs.Ytjiiabekjiilbaa
open Go.RowKit Mp

def tellE (x : Ed) : Ed := ⟨x.t, x.h, x.w, 4294967295⟩
def toldT (k : Nat) (eb : UInt8) (fd : Bool) (ds st : Nat) (ws : List Ed) : RepT :=
  if eb = 0 then ⟨0, if k = 3 then false else fd, if k = 1 then ds else 0, if k = 3 then st else 0, 0, if k = 2 then ws.map tellE else []⟩ else ⟨(eb.toNat : Int), false, 0, 0, 0, []⟩
theorem resC {P : Program} {fn : Func} {p : Tmp} {ty : TypeId} (h : fn.results = #[.cell p ty]) (tmps : Array Value) (w : World) (g : Nat) (t : TypeId) (cs : Array Value) (d : TypeDesc)
    (hp : tmps.getD p undef = .pointer (some ⟨g, 0, none⟩)) (hg : Blk w g t cs)
    (hu : P.underlying ty = some d) (hd : (match d with | .struct _ | .array _ _ => true | _ => false) = true) (hi : (P.info? ty).map (·.size) = some cs.size) :
    (results fn tmps).run P w = .ok (.agg cs) w := by
  have hp' : tmps[p]?.getD undef = .pointer (some ⟨g, 0, none⟩) := by simpa using hp
  simp [results, h, hp', asAddr, run_loadVar_row w g t ty cs (0, 0) d hg hu hd hi]
theorem fine5g {w W : World} {g : Nat} (hg : w.heap.size ≤ g) (h : Below w.heap.size w W) (v0 v1 v2 v3 v4 : Value) : Below w.heap.size w (((((W.setCell ⟨g, 0, none⟩ v0).setCell ⟨g, 1, none⟩ v1).setCell ⟨g, 2, none⟩ v2).setCell ⟨g, 3, none⟩ v3).setCell ⟨g, 4, none⟩ v4) :=
  ((((h.setCell (p := ⟨g, 0, none⟩) hg _).setCell (p := ⟨g, 1, none⟩) hg _).setCell (p := ⟨g, 2, none⟩) hg _).setCell (p := ⟨g, 3, none⟩) hg _).setCell (p := ⟨g, 4, none⟩) hg _
def TellH (k : Nat) (eb : UInt8) (fd : Bool) (ds st : Nat) (ws : List Ed) (e : Ending) (w' : World) : Prop :=
  ∃ T A n c, T = toldT k eb fd ds st ws ∧ e = .returned (.agg #[.int .i64 T.err, .bool T.fd, .int .u64 T.ds, .slice A n c, .int .u8 T.st]) ∧ T.ws.length = n ∧ WayAt w' w'.heap.size A T.ws

theorem new_edV0 (W : World) (y1 y2 y3 : Nat) : ∀ j u, (Ed.cells ⟨y1, y2, y3, 4294967295⟩)[j]? = some u → (W.alloc (.cells #[.int .u32 y1, .int .u32 y2, .int .u64 y3, .int .u32 4294967295] 71)).cell? ((⟨W.heap.size, 0, none⟩ : Addr).add j) = some u := by
  intro j u h
  have hadd : (⟨W.heap.size, 0, none⟩ : Addr).add j = ⟨W.heap.size, j, none⟩ := by unfold Addr.add; split <;> simp_all
  rw [hadd]
  have := (Blk.new W 71 #[.int .u32 y1, .int .u32 y2, .int .u64 y3, .int .u32 4294967295]).cell j
  exact this.trans (by simpa [Ed.cells] using h)
/-- where the loop of Told stands: the row, out's cells, the result's, the reply's. -/
structure Keep4 (w W : World) (v : Value) (n : Nat) (xs : List Value) (O Z R : Array Value) : Prop where
  row : W.ownsRow w.heap.size 71 4 v n xs
  o : Blk W (w.heap.size + 1 + 1) 37 O
  z : Blk W (w.heap.size + 1) 37 Z
  r : Blk W w.heap.size 37 R
  bel : Below w.heap.size w W
theorem Keep4.alloc {w W : World} {v : Value} {n : Nat} {xs : List Value} {O Z R : Array Value} (h : Keep4 w W v n xs O Z R) (ob : Obj) : Keep4 w (W.alloc ob) v n xs O Z R :=
  ⟨own_row_below h.row ((Below.refl W.heap.size W).alloc (Nat.le_refl _) ob), h.o.alloc ob, h.z.alloc ob, h.r.alloc ob, h.bel.alloc h.bel.size ob⟩
theorem own_row_set {w : World} {base : Nat} {e : TypeId} {size n : Nat} {v : Value} {xs : List Value} (h : w.ownsRow base e size v n xs) (g1 : Nat) (hne : ∀ g, v.ownBlock = some g → g ≠ g1) (i : Nat) (u : Value) : (w.setCell ⟨g1, i, none⟩ u).ownsRow base e size v n xs := by
  refine ⟨h.1, ?_⟩
  rcases h.2 with h | ⟨g, cap, cur, h1, h2, h3, h4⟩
  · exact .inl h
  · exact .inr ⟨g, cap, cur, h1, h2, (Below.heap_setCell w ⟨g1, i, none⟩ u g (fun e' => hne g (by rw [h1]; rfl) e')).trans h3, h4⟩
theorem Keep4.set_ {w W : World} {v : Value} {n : Nat} {xs : List Value} {O Z R : Array Value} {ne : Nat} (h : Keep4 w W v n xs O Z R) (hv : ∀ g, v.ownBlock = some g → g ≠ ne) (hne : w.heap.size + 1 + 1 < ne) (i : Nat) (u : Value) : Keep4 w (W.setCell ⟨ne, i, none⟩ u) v n xs O Z R :=
  ⟨own_row_set h.row ne hv i u, h.o.far (p := ⟨ne, i, none⟩) (by simp; omega) u, h.z.far (p := ⟨ne, i, none⟩) (by simp; omega) u, h.r.far (p := ⟨ne, i, none⟩) (by simp; omega) u, h.bel.setCell (p := ⟨ne, i, none⟩) (by simp; omega) u⟩
theorem Keep4.grown {w W w7 : World} {v : Value} {n : Nat} {xs : List Value} {O Z R : Array Value} (h : Keep4 w W v n xs O Z R) (hg : W.grownBy w7 v.ownBlock) : Blk w7 (w.heap.size + 1 + 1) 37 O ∧ Blk w7 (w.heap.size + 1) 37 Z ∧ Blk w7 w.heap.size 37 R ∧ Below w.heap.size w w7 :=
  ⟨(hg.block _ h.o.lt (row_ne h.row h.o (by decide))).trans h.o, (hg.block _ h.z.lt (row_ne h.row h.z (by decide))).trans h.z, (hg.block _ h.r.lt (row_ne h.row h.r (by decide))).trans h.r, below_of_grown h.bel hg (Nat.le_refl _) (fun k hk => (h.row.lt k hk).1)⟩
theorem told_step {w w7 : World} {j : Nat} {v v' : Value} {fd : Bool} {ws : List Ed} {X : Ed} {xs news : List Value} {Z R : Array Value} (hO : w7.ownsRow w.heap.size 71 4 v' (j + 1) (xs ++ news))
    (hK : Blk w7 (w.heap.size + 1 + 1) 37 #[.int .i64 0, .bool fd, .int .u64 0, v, .int .u8 0] ∧ Blk w7 (w.heap.size + 1) 37 Z ∧ Blk w7 w.heap.size 37 R ∧ Below w.heap.size w w7) (hxs : xs = cellsL ((ws.take j).map tellE)) (hnews : news = (tellE X).cells) (hex : (ws.take (j + 1)).map tellE = (ws.take j).map tellE ++ [tellE X]) :
    (w7.setCell ⟨w.heap.size + 1 + 1, 3, none⟩ v').ownsRow w.heap.size 71 4 v' (j + 1) (cellsL ((ws.take (j + 1)).map tellE)) ∧ Blk (w7.setCell ⟨w.heap.size + 1 + 1, 3, none⟩ v') (w.heap.size + 1 + 1) 37 #[.int .i64 0, .bool fd, .int .u64 0, v', .int .u8 0] ∧ Blk (w7.setCell ⟨w.heap.size + 1 + 1, 3, none⟩ v') (w.heap.size + 1) 37 Z ∧ Blk (w7.setCell ⟨w.heap.size + 1 + 1, 3, none⟩ v') w.heap.size 37 R ∧ Below w.heap.size w (w7.setCell ⟨w.heap.size + 1 + 1, 3, none⟩ v') := by
  refine ⟨?_, hK.1.set_ 3 v', hK.2.1.far (p := ⟨w.heap.size + 1 + 1, 3, none⟩) (by simp) v', hK.2.2.1.far (p := ⟨w.heap.size + 1 + 1, 3, none⟩) (by simp; omega) v', hK.2.2.2.setCell (p := ⟨w.heap.size + 1 + 1, 3, none⟩) (by simp; omega) _⟩
  rw [hex, cellsL_snoc, ← hxs, ← hnews]
  exact own_row_other hO hK.1 (by decide) (grown_two (World.grownBy.refl w7 (some (w.heap.size + 1 + 1))) 3 v')

set_option maxRecDepth 100000 in
set_option maxHeartbeats 6400000 in
theorem told_any (k : Nat) (err : Int) (fd : Bool) (ds n c st : Nat) (A : Option Addr) (ws : List Ed) (eb : UInt8) (w : World) (hk : Kn k) (heb : err % 256 = (eb.toNat : Int)) (herr : -9223372036854775808 ≤ err ∧ err ≤ 9223372036854775807)
    (hws : ws.length = n) (hW : WayAt w w.heap.size A ws) (hn : n ≤ 65536) :
    Calls Try.prog 26 #[.int .u8 k, .agg (repC err fd ds (.slice A n c) st)] w fun e w' => TellH k eb fd ds st ws e w' ∧ Below w.heap.size w w' := by
  obtain ⟨i0, hi0, hz0, hz1, hz2⟩ := info_parts edge_info
  have HWS := Lib.hid hws
  have HWW := Lib.hid hW
  have hm0 : 0 ≤ err % 256 := Int.emod_nonneg _ (by decide)
  have hm1 : err % 256 < 256 := Int.emod_lt_of_pos _ (by decide)
  have heb' := Lib.hid heb
  clear hws hW heb
  have K3 : Hid (Blk (((w.alloc (.cells #[.int .i64 err, .bool fd, .int .u64 ds, .slice A n c, .int .u8 st] 37)).alloc (.cells #[.int .i64 0, .bool false, .int .u64 0, .slice none 0 0, .int .u8 0] 37)).alloc (.cells #[.int .i64 (eb.toNat : Int), .bool false, .int .u64 0, .slice none 0 0, .int .u8 0] 37)) w.heap.size 37 #[.int .i64 err, .bool fd, .int .u64 ds, .slice A n c, .int .u8 st]) := Lib.hid (((Blk.new w 37 #[.int .i64 err, .bool fd, .int .u64 ds, .slice A n c, .int .u8 st]).alloc (.cells #[.int .i64 0, .bool false, .int .u64 0, .slice none 0 0, .int .u8 0] 37)).alloc (.cells #[.int .i64 (eb.toNat : Int), .bool false, .int .u64 0, .slice none 0 0, .int .u8 0] 37))
  have K4 : Hid (Blk (((w.alloc (.cells #[.int .i64 err, .bool fd, .int .u64 ds, .slice A n c, .int .u8 st] 37)).alloc (.cells #[.int .i64 0, .bool false, .int .u64 0, .slice none 0 0, .int .u8 0] 37)).alloc (.cells #[.int .i64 (eb.toNat : Int), .bool false, .int .u64 0, .slice none 0 0, .int .u8 0] 37)) (w.heap.size + 1) 37 #[.int .i64 0, .bool false, .int .u64 0, .slice none 0 0, .int .u8 0]) := Lib.hid (by
    have h := (Blk.new (w.alloc (.cells #[.int .i64 err, .bool fd, .int .u64 ds, .slice A n c, .int .u8 st] 37)) 37 #[.int .i64 0, .bool false, .int .u64 0, .slice none 0 0, .int .u8 0]).alloc (.cells #[.int .i64 (eb.toNat : Int), .bool false, .int .u64 0, .slice none 0 0, .int .u8 0] 37)
    rw [World.size_alloc] at h
    exact h)
  have K5 : Hid (Blk (((w.alloc (.cells #[.int .i64 err, .bool fd, .int .u64 ds, .slice A n c, .int .u8 st] 37)).alloc (.cells #[.int .i64 0, .bool false, .int .u64 0, .slice none 0 0, .int .u8 0] 37)).alloc (.cells #[.int .i64 (eb.toNat : Int), .bool false, .int .u64 0, .slice none 0 0, .int .u8 0] 37)) (w.heap.size + 1 + 1) 37 #[.int .i64 (eb.toNat : Int), .bool false, .int .u64 0, .slice none 0 0, .int .u8 0]) := Lib.hid (by
    have h := Blk.new ((w.alloc (.cells #[.int .i64 err, .bool fd, .int .u64 ds, .slice A n c, .int .u8 st] 37)).alloc (.cells #[.int .i64 0, .bool false, .int .u64 0, .slice none 0 0, .int .u8 0] 37)) 37 #[.int .i64 (eb.toNat : Int), .bool false, .int .u64 0, .slice none 0 0, .int .u8 0]
    rw [World.size_alloc, World.size_alloc] at h
    exact h)
  have Z3 : Hid (Below w.heap.size w (((w.alloc (.cells #[.int .i64 err, .bool fd, .int .u64 ds, .slice A n c, .int .u8 st] 37)).alloc (.cells #[.int .i64 0, .bool false, .int .u64 0, .slice none 0 0, .int .u8 0] 37)).alloc (.cells #[.int .i64 (eb.toNat : Int), .bool false, .int .u64 0, .slice none 0 0, .int .u8 0] 37))) := Lib.hid (by
    have h0 := (Below.refl w.heap.size w).alloc (Nat.le_refl _) (.cells #[.int .i64 err, .bool fd, .int .u64 ds, .slice A n c, .int .u8 st] 37)
    have h1 := h0.alloc h0.size (.cells #[.int .i64 0, .bool false, .int .u64 0, .slice none 0 0, .int .u8 0] 37)
    exact h1.alloc h1.size (.cells #[.int .i64 (eb.toNat : Int), .bool false, .int .u64 0, .slice none 0 0, .int .u8 0] 37))
  have K3 : Hid (Blk (((w.alloc (.cells #[.int .i64 err, .bool fd, .int .u64 ds, .slice A n c, .int .u8 st] 37)).alloc (.cells #[.int .i64 0, .bool false, .int .u64 0, .slice none 0 0, .int .u8 0] 37)).alloc (.cells #[.int .i64 (eb.toNat : Int), .bool false, .int .u64 0, .slice none 0 0, .int .u8 0] 37)) w.heap.size 37 #[.int .i64 err, .bool fd, .int .u64 ds, .slice A n c, .int .u8 st]) := Lib.hid (((Blk.new w 37 #[.int .i64 err, .bool fd, .int .u64 ds, .slice A n c, .int .u8 st]).alloc (.cells #[.int .i64 0, .bool false, .int .u64 0, .slice none 0 0, .int .u8 0] 37)).alloc (.cells #[.int .i64 (eb.toNat : Int), .bool false, .int .u64 0, .slice none 0 0, .int .u8 0] 37))
  have K4 : Hid (Blk (((w.alloc (.cells #[.int .i64 err, .bool fd, .int .u64 ds, .slice A n c, .int .u8 st] 37)).alloc (.cells #[.int .i64 0, .bool false, .int .u64 0, .slice none 0 0, .int .u8 0] 37)).alloc (.cells #[.int .i64 (eb.toNat : Int), .bool false, .int .u64 0, .slice none 0 0, .int .u8 0] 37)) (w.heap.size + 1) 37 #[.int .i64 0, .bool false, .int .u64 0, .slice none 0 0, .int .u8 0]) := Lib.hid (by
    have h := (Blk.new (w.alloc (.cells #[.int .i64 err, .bool fd, .int .u64 ds, .slice A n c, .int .u8 st] 37)) 37 #[.int .i64 0, .bool false, .int .u64 0, .slice none 0 0, .int .u8 0]).alloc (.cells #[.int .i64 (eb.toNat : Int), .bool false, .int .u64 0, .slice none 0 0, .int .u8 0] 37)
    rw [World.size_alloc] at h
    exact h)
  have K5 : Hid (Blk (((w.alloc (.cells #[.int .i64 err, .bool fd, .int .u64 ds, .slice A n c, .int .u8 st] 37)).alloc (.cells #[.int .i64 0, .bool false, .int .u64 0, .slice none 0 0, .int .u8 0] 37)).alloc (.cells #[.int .i64 (eb.toNat : Int), .bool false, .int .u64 0, .slice none 0 0, .int .u8 0] 37)) (w.heap.size + 1 + 1) 37 #[.int .i64 (eb.toNat : Int), .bool false, .int .u64 0, .slice none 0 0, .int .u8 0]) := Lib.hid (by
    have h := Blk.new ((w.alloc (.cells #[.int .i64 err, .bool fd, .int .u64 ds, .slice A n c, .int .u8 st] 37)).alloc (.cells #[.int .i64 0, .bool false, .int .u64 0, .slice none 0 0, .int .u8 0] 37)) 37 #[.int .i64 (eb.toNat : Int), .bool false, .int .u64 0, .slice none 0 0, .int .u8 0]
    rw [World.size_alloc, World.size_alloc] at h
    exact h)
  have Z3 : Hid (Below w.heap.size w (((w.alloc (.cells #[.int .i64 err, .bool fd, .int .u64 ds, .slice A n c, .int .u8 st] 37)).alloc (.cells #[.int .i64 0, .bool false, .int .u64 0, .slice none 0 0, .int .u8 0] 37)).alloc (.cells #[.int .i64 (eb.toNat : Int), .bool false, .int .u64 0, .slice none 0 0, .int .u8 0] 37))) := Lib.hid (by
    have h0 := (Below.refl w.heap.size w).alloc (Nat.le_refl _) (.cells #[.int .i64 err, .bool fd, .int .u64 ds, .slice A n c, .int .u8 st] 37)
    have h1 := h0.alloc h0.size (.cells #[.int .i64 0, .bool false, .int .u64 0, .slice none 0 0, .int .u8 0] 37)
    exact h1.alloc h1.size (.cells #[.int .i64 (eb.toNat : Int), .bool false, .int .u64 0, .slice none 0 0, .int .u8 0] 37))
  have K3 : Hid (Blk (((w.alloc (.cells #[.int .i64 err, .bool fd, .int .u64 ds, .slice A n c, .int .u8 st] 37)).alloc (.cells #[.int .i64 0, .bool false, .int .u64 0, .slice none 0 0, .int .u8 0] 37)).alloc (.cells #[.int .i64 (eb.toNat : Int), .bool false, .int .u64 0, .slice none 0 0, .int .u8 0] 37)) w.heap.size 37 #[.int .i64 err, .bool fd, .int .u64 ds, .slice A n c, .int .u8 st]) := Lib.hid (((Blk.new w 37 #[.int .i64 err, .bool fd, .int .u64 ds, .slice A n c, .int .u8 st]).alloc (.cells #[.int .i64 0, .bool false, .int .u64 0, .slice none 0 0, .int .u8 0] 37)).alloc (.cells #[.int .i64 (eb.toNat : Int), .bool false, .int .u64 0, .slice none 0 0, .int .u8 0] 37))
  have K4 : Hid (Blk (((w.alloc (.cells #[.int .i64 err, .bool fd, .int .u64 ds, .slice A n c, .int .u8 st] 37)).alloc (.cells #[.int .i64 0, .bool false, .int .u64 0, .slice none 0 0, .int .u8 0] 37)).alloc (.cells #[.int .i64 (eb.toNat : Int), .bool false, .int .u64 0, .slice none 0 0, .int .u8 0] 37)) (w.heap.size + 1) 37 #[.int .i64 0, .bool false, .int .u64 0, .slice none 0 0, .int .u8 0]) := Lib.hid (by
    have h := (Blk.new (w.alloc (.cells #[.int .i64 err, .bool fd, .int .u64 ds, .slice A n c, .int .u8 st] 37)) 37 #[.int .i64 0, .bool false, .int .u64 0, .slice none 0 0, .int .u8 0]).alloc (.cells #[.int .i64 (eb.toNat : Int), .bool false, .int .u64 0, .slice none 0 0, .int .u8 0] 37)
    rw [World.size_alloc] at h
    exact h)
  have K5 : Hid (Blk (((w.alloc (.cells #[.int .i64 err, .bool fd, .int .u64 ds, .slice A n c, .int .u8 st] 37)).alloc (.cells #[.int .i64 0, .bool false, .int .u64 0, .slice none 0 0, .int .u8 0] 37)).alloc (.cells #[.int .i64 (eb.toNat : Int), .bool false, .int .u64 0, .slice none 0 0, .int .u8 0] 37)) (w.heap.size + 1 + 1) 37 #[.int .i64 (eb.toNat : Int), .bool false, .int .u64 0, .slice none 0 0, .int .u8 0]) := Lib.hid (by
    have h := Blk.new ((w.alloc (.cells #[.int .i64 err, .bool fd, .int .u64 ds, .slice A n c, .int .u8 st] 37)).alloc (.cells #[.int .i64 0, .bool false, .int .u64 0, .slice none 0 0, .int .u8 0] 37)) 37 #[.int .i64 (eb.toNat : Int), .bool false, .int .u64 0, .slice none 0 0, .int .u8 0]
    rw [World.size_alloc, World.size_alloc] at h
    exact h)
  have Z3 : Hid (Below w.heap.size w (((w.alloc (.cells #[.int .i64 err, .bool fd, .int .u64 ds, .slice A n c, .int .u8 st] 37)).alloc (.cells #[.int .i64 0, .bool false, .int .u64 0, .slice none 0 0, .int .u8 0] 37)).alloc (.cells #[.int .i64 (eb.toNat : Int), .bool false, .int .u64 0, .slice none 0 0, .int .u8 0] 37))) := Lib.hid (by
    have h0 := (Below.refl w.heap.size w).alloc (Nat.le_refl _) (.cells #[.int .i64 err, .bool fd, .int .u64 ds, .slice A n c, .int .u8 st] 37)
    have h1 := h0.alloc h0.size (.cells #[.int .i64 0, .bool false, .int .u64 0, .slice none 0 0, .int .u8 0] 37)
    exact h1.alloc h1.size (.cells #[.int .i64 (eb.toNat : Int), .bool false, .int .u64 0, .slice none 0 0, .int .u8 0] 37))
  have K3 : Hid (Blk (((w.alloc (.cells #[.int .i64 err, .bool fd, .int .u64 ds, .slice A n c, .int .u8 st] 37)).alloc (.cells #[.int .i64 0, .bool false, .int .u64 0, .slice none 0 0, .int .u8 0] 37)).alloc (.cells #[.int .i64 (eb.toNat : Int), .bool false, .int .u64 0, .slice none 0 0, .int .u8 0] 37)) w.heap.size 37 #[.int .i64 err, .bool fd, .int .u64 ds, .slice A n c, .int .u8 st]) := Lib.hid (((Blk.new w 37 #[.int .i64 err, .bool fd, .int .u64 ds, .slice A n c, .int .u8 st]).alloc (.cells #[.int .i64 0, .bool false, .int .u64 0, .slice none 0 0, .int .u8 0] 37)).alloc (.cells #[.int .i64 (eb.toNat : Int), .bool false, .int .u64 0, .slice none 0 0, .int .u8 0] 37))
  have K4 : Hid (Blk (((w.alloc (.cells #[.int .i64 err, .bool fd, .int .u64 ds, .slice A n c, .int .u8 st] 37)).alloc (.cells #[.int .i64 0, .bool false, .int .u64 0, .slice none 0 0, .int .u8 0] 37)).alloc (.cells #[.int .i64 (eb.toNat : Int), .bool false, .int .u64 0, .slice none 0 0, .int .u8 0] 37)) (w.heap.size + 1) 37 #[.int .i64 0, .bool false, .int .u64 0, .slice none 0 0, .int .u8 0]) := Lib.hid (by
    have h := (Blk.new (w.alloc (.cells #[.int .i64 err, .bool fd, .int .u64 ds, .slice A n c, .int .u8 st] 37)) 37 #[.int .i64 0, .bool false, .int .u64 0, .slice none 0 0, .int .u8 0]).alloc (.cells #[.int .i64 (eb.toNat : Int), .bool false, .int .u64 0, .slice none 0 0, .int .u8 0] 37)
    rw [World.size_alloc] at h
    exact h)
  have K5 : Hid (Blk (((w.alloc (.cells #[.int .i64 err, .bool fd, .int .u64 ds, .slice A n c, .int .u8 st] 37)).alloc (.cells #[.int .i64 0, .bool false, .int .u64 0, .slice none 0 0, .int .u8 0] 37)).alloc (.cells #[.int .i64 (eb.toNat : Int), .bool false, .int .u64 0, .slice none 0 0, .int .u8 0] 37)) (w.heap.size + 1 + 1) 37 #[.int .i64 (eb.toNat : Int), .bool false, .int .u64 0, .slice none 0 0, .int .u8 0]) := Lib.hid (by
    have h := Blk.new ((w.alloc (.cells #[.int .i64 err, .bool fd, .int .u64 ds, .slice A n c, .int .u8 st] 37)).alloc (.cells #[.int .i64 0, .bool false, .int .u64 0, .slice none 0 0, .int .u8 0] 37)) 37 #[.int .i64 (eb.toNat : Int), .bool false, .int .u64 0, .slice none 0 0, .int .u8 0]
    rw [World.size_alloc, World.size_alloc] at h
    exact h)
  have Z3 : Hid (Below w.heap.size w (((w.alloc (.cells #[.int .i64 err, .bool fd, .int .u64 ds, .slice A n c, .int .u8 st] 37)).alloc (.cells #[.int .i64 0, .bool false, .int .u64 0, .slice none 0 0, .int .u8 0] 37)).alloc (.cells #[.int .i64 (eb.toNat : Int), .bool false, .int .u64 0, .slice none 0 0, .int .u8 0] 37))) := Lib.hid (by
    have h0 := (Below.refl w.heap.size w).alloc (Nat.le_refl _) (.cells #[.int .i64 err, .bool fd, .int .u64 ds, .slice A n c, .int .u8 st] 37)
    have h1 := h0.alloc h0.size (.cells #[.int .i64 0, .bool false, .int .u64 0, .slice none 0 0, .int .u8 0] 37)
    exact h1.alloc h1.size (.cells #[.int .i64 (eb.toNat : Int), .bool false, .int .u64 0, .slice none 0 0, .int .u8 0] 37))
  go_enter Try.func26, Try.ntmps26
  unfold repC at *
  go_upto_region 2 with (fail)
  rw [heb'.out]
  generalize ((w.alloc (.cells #[.int .i64 err, .bool fd, .int .u64 ds, .slice A n c, .int .u8 st] 37)).alloc (.cells #[.int .i64 0, .bool false, .int .u64 0, .slice none 0 0, .int .u8 0] 37)).alloc (.cells #[.int .i64 (eb.toNat : Int), .bool false, .int .u64 0, .slice none 0 0, .int .u8 0] 37) = w3 at *
  by_cases he : eb = 0
  · subst he
    rw [show ((0 : UInt8).toNat : Int) = 0 from rfl] at *
    have o0 : w3.cell? ⟨w.heap.size + 1 + 1, 0, none⟩ = some (.int .i64 0) := (K5.out.cell 0).trans rfl
    have q1 : w3.cell? ⟨w.heap.size, 1, none⟩ = some (.bool fd) := (K3.out.cell 1).trans rfl
    have q2 : w3.cell? ⟨w.heap.size, 2, none⟩ = some (.int .u64 ds) := (K3.out.cell 2).trans rfl
    have q4 : w3.cell? ⟨w.heap.size, 4, none⟩ = some (.int .u8 st) := (K3.out.cell 4).trans rfl
    rcases hk with rfl | rfl | rfl
    · have y1 : w3.cell? ⟨w.heap.size + 1 + 1, 1, none⟩ = some (.bool false) := (K5.out.cell 1).trans rfl
      have z1 := K5.out.frozen 1
      have L3 := Lib.hid (K3.out.far (p := ⟨w.heap.size + 1 + 1, 1, none⟩) (by first | (simp; done) | (simp; omega)) (.bool fd))
      have L4 := Lib.hid (K4.out.far (p := ⟨w.heap.size + 1 + 1, 1, none⟩) (by first | (simp; done) | (simp; omega)) (.bool fd))
      have L5 := Lib.hid (K5.out.set_ 1 (.bool fd))
      have Z4 := Lib.hid (Z3.out.setCell (p := ⟨w.heap.size + 1 + 1, 1, none⟩) (by first | (simp; done) | (simp; omega)) (.bool fd))
      go_upto_region 7 with (fail)
      generalize w3.setCell ⟨w.heap.size + 1 + 1, 1, none⟩ (.bool fd) = w4 at *
      clear q2
      have q2 : w4.cell? ⟨w.heap.size, 2, none⟩ = some (.int .u64 ds) := (L3.out.cell 2).trans rfl
      have y2 : w4.cell? ⟨w.heap.size + 1 + 1, 2, none⟩ = some (.int .u64 0) := (L5.out.cell 2).trans rfl
      have z2 := L5.out.frozen 2
      have M3 := Lib.hid (L3.out.far (p := ⟨w.heap.size + 1 + 1, 2, none⟩) (by first | (simp; done) | (simp; omega)) (.int .u64 ds))
      have M4 := Lib.hid (L4.out.far (p := ⟨w.heap.size + 1 + 1, 2, none⟩) (by first | (simp; done) | (simp; omega)) (.int .u64 ds))
      have M5 := Lib.hid (L5.out.set_ 2 (.int .u64 ds))
      have Z5 := Lib.hid (Z4.out.setCell (p := ⟨w.heap.size + 1 + 1, 2, none⟩) (by first | (simp; done) | (simp; omega)) (.int .u64 ds))
      go_upto_region 18 with (fail)
      generalize w4.setCell ⟨w.heap.size + 1 + 1, 2, none⟩ (.int .u64 ds) = w5 at *
      have s0 : w5.cell? ⟨w.heap.size + 1 + 1, 0, none⟩ = some (.int .i64 0) := (M5.out.cell 0).trans rfl
      have s1 : w5.cell? ⟨w.heap.size + 1 + 1, 1, none⟩ = some (.bool fd) := (M5.out.cell 1).trans rfl
      have s2 : w5.cell? ⟨w.heap.size + 1 + 1, 2, none⟩ = some (.int .u64 ds) := (M5.out.cell 2).trans rfl
      have s3 : w5.cell? ⟨w.heap.size + 1 + 1, 3, none⟩ = some (.slice none 0 0) := (M5.out.cell 3).trans rfl
      have s4 : w5.cell? ⟨w.heap.size + 1 + 1, 4, none⟩ = some (.int .u8 0) := (M5.out.cell 4).trans rfl
      have a0 : w5.cell? ⟨w.heap.size + 1, 0, none⟩ = some (.int .i64 0) := (M4.out.cell 0).trans rfl
      have a1 : w5.cell? ⟨w.heap.size + 1, 1, none⟩ = some (.bool false) := (M4.out.cell 1).trans rfl
      have a2 : w5.cell? ⟨w.heap.size + 1, 2, none⟩ = some (.int .u64 0) := (M4.out.cell 2).trans rfl
      have a3 : w5.cell? ⟨w.heap.size + 1, 3, none⟩ = some (.slice none 0 0) := (M4.out.cell 3).trans rfl
      have a4 : w5.cell? ⟨w.heap.size + 1, 4, none⟩ = some (.int .u8 0) := (M4.out.cell 4).trans rfl
      have f0 := M4.out.frozen 0
      have f1 := M4.out.frozen 1
      have f2 := M4.out.frozen 2
      have f3 := M4.out.frozen 3
      have f4 := M4.out.frozen 4
      go_wp2_with fail
      refine bodyPost_ret (resC rfl _ _ (w.heap.size + 1) 37 (repC 0 fd ds nil_ 0) _ rfl ?_ Try.underlying37 rfl (by kernel_rfl)) rfl ⟨⟨toldT 1 0 fd ds st ws, none, 0, 0, rfl, rfl, rfl, .inl rfl⟩, fine5g (Nat.le_succ _) Z5.out _ _ _ _ _⟩
      exact set5 M4.out _ _ _ _ _
    · have y1 : w3.cell? ⟨w.heap.size + 1 + 1, 1, none⟩ = some (.bool false) := (K5.out.cell 1).trans rfl
      have z1 := K5.out.frozen 1
      have L3 := Lib.hid (K3.out.far (p := ⟨w.heap.size + 1 + 1, 1, none⟩) (by first | (simp; done) | (simp; omega)) (.bool fd))
      have L4 := Lib.hid (K4.out.far (p := ⟨w.heap.size + 1 + 1, 1, none⟩) (by first | (simp; done) | (simp; omega)) (.bool fd))
      have L5 := Lib.hid (K5.out.set_ 1 (.bool fd))
      have Z4 := Lib.hid (Z3.out.setCell (p := ⟨w.heap.size + 1 + 1, 1, none⟩) (by first | (simp; done) | (simp; omega)) (.bool fd))
      go_upto_region 10 with (fail)
      generalize w3.setCell ⟨w.heap.size + 1 + 1, 1, none⟩ (.bool fd) = w4 at *
      clear q1 q2 q4 o0 y1 z1 K3 K4 K5 Z3
      rw [show ((2 : Nat) : Int) = 2 from rfl]
      go_wp2_with fail
      go_loopw [6] (fun i wr => ∃ (j : Nat) (v : Value), j ≤ n ∧ i = .int .i64 j ∧ wr.ownsRow w.heap.size 71 4 v j (cellsL ((ws.take j).map tellE)) ∧ Blk wr (w.heap.size + 1 + 1) 37 #[.int .i64 0, .bool fd, .int .u64 0, v, .int .u8 0] ∧ Blk wr (w.heap.size + 1) 37 #[.int .i64 0, .bool false, .int .u64 0, .slice none 0 0, .int .u8 0] ∧ Blk wr w.heap.size 37 #[.int .i64 err, .bool fd, .int .u64 ds, .slice A n c, .int .u8 st] ∧ Below w.heap.size w wr) (fun i _ => n - (intOf i).toNat)
      case atStart => exact ⟨0, nil_, by omega, rfl, by simpa [cellsL] using World.ownsRow_nil _ _ _ _, L5.out, L4.out, L3.out, Z4.out⟩
      case round =>
        obtain ⟨j, v, hj, rfl, hrow, hO, hZ, hR, hbel⟩ := hrel
        have HROW := Lib.hid hrow
        have HO := Lib.hid hO
        have HZ := Lib.hid hZ
        have HR := Lib.hid hR
        have HBEL := Lib.hid hbel
        obtain ⟨Av, cv, rfl, _⟩ := way_of_row hrow
        clear hrow hO hZ hR hbel L3 L4 L5 Z4
        have q3 : wr.cell? ⟨w.heap.size, 3, none⟩ = some (.slice A n c) := (HR.out.cell 3).trans rfl
        by_cases hlt : j < n
        · have hjx : j < ws.length := by have := HWS.out; omega
          obtain ⟨b, off, rfl, hbl, e0, e1, e2, e3⟩ := (HWW.out.below HBEL.out (Nat.le_refl _)).at_ hjx
          have HEX : Hid ((ws.take (j + 1)).map tellE = (ws.take j).map tellE ++ [tellE ws[j]]) := Lib.hid (by rw [List.take_succ_eq_append_getElem hjx, List.map_append]; rfl)
          generalize ws[j] = X at *
          obtain ⟨xs, hxs⟩ : ∃ xs, xs = cellsL ((ws.take j).map tellE) := ⟨_, rfl⟩
          rw [← hxs] at HROW
          obtain ⟨news, hnews⟩ : ∃ news, news = (tellE X).cells := ⟨_, rfl⟩
          have HXS := Lib.hid hxs
          have HNEWS := Lib.hid hnews
          clear hxs hnews
          go_upto_region 14 with (fail)
          have HK := Lib.hid (Keep4.alloc ⟨HROW.out, HO.out, HZ.out, HR.out, HBEL.out⟩ (.cells #[.int .u32 X.t, .int .u32 X.h, .int .u64 X.w, .int .u32 X.m] 71))
          have HE := Lib.hid (Blk.new wr 71 #[.int .u32 X.t, .int .u32 X.h, .int .u64 X.w, .int .u32 X.m])
          have hnl : w.heap.size + 1 + 1 < wr.heap.size := HO.out.lt
          have HNV : Hid (∀ g, (Value.slice Av j cv).ownBlock = some g → g ≠ wr.heap.size) := Lib.hid fun g hg => Nat.ne_of_lt (HROW.out.lt g hg).2
          clear q3 e0 e1 e2 e3 HROW HO HZ HR HBEL
          generalize wr.heap.size = ne at *
          generalize wr.alloc (.cells #[.int .u32 X.t, .int .u32 X.h, .int .u64 X.w, .int .u32 X.m] 71) = wa at *
          have e3 : wa.cell? ⟨ne, 3, none⟩ = some (.int .u32 X.m) := (HE.out.cell 3).trans rfl
          have f3 := HE.out.frozen 3
          go_upto_region 15 with (fail)
          have HK2 := Lib.hid (HK.out.set_ HNV.out hnl 3 (.int .u32 4294967295))
          have HE2 : Hid (Blk (wa.setCell ⟨ne, 3, none⟩ (.int .u32 4294967295)) ne 71 #[.int .u32 X.t, .int .u32 X.h, .int .u64 X.w, .int .u32 4294967295]) := Lib.hid (HE.out.set_ 3 (.int .u32 4294967295))
          clear e3 f3 HK HE
          generalize wa.setCell ⟨ne, 3, none⟩ (.int .u32 4294967295) = wb at *
          have e0 : wb.cell? ⟨ne, 0, none⟩ = some (.int .u32 X.t) := (HE2.out.cell 0).trans rfl
          have e1 : wb.cell? ⟨ne, 1, none⟩ = some (.int .u32 X.h) := (HE2.out.cell 1).trans rfl
          have e2 : wb.cell? ⟨ne, 2, none⟩ = some (.int .u64 X.w) := (HE2.out.cell 2).trans rfl
          have e3 : wb.cell? ⟨ne, 3, none⟩ = some (.int .u32 4294967295) := (HE2.out.cell 3).trans rfl
          have o3 : wb.cell? ⟨w.heap.size + 1 + 1, 3, none⟩ = some (.slice Av j cv) := (HK2.out.o.cell 3).trans rfl
          have HNEW8 : Hid (∀ i u, news[i]? = some u → (wb.alloc (.cells #[.int .u32 X.t, .int .u32 X.h, .int .u64 X.w, .int .u32 4294967295] 71)).cell? ((⟨wb.heap.size, 0, none⟩ : Addr).add i) = some u) := Lib.hid (by rw [HNEWS.out]; exact new_edV0 wb _ _ _)
          have HONE8 : Hid (∀ u ∈ news, u.oneCell' = true) := Lib.hid (by rw [HNEWS.out]; exact edge_ones _)
          have HLEN8 : Hid (news.length = 1 * 4) := Lib.hid (by rw [HNEWS.out]; rfl)
          have HK8 := Lib.hid (HK2.out.alloc (.cells #[.int .u32 X.t, .int .u32 X.h, .int .u64 X.w, .int .u32 4294967295] 71))
          go_wp2_with (at_builtin; refine wpList_append_own _ rfl (.tmp 45) (.tmp 47) _ rfl w.heap.size 71 i0 _ 4 24 Try.underlying35 hi0 hz0 hz1 hz2 rfl (by decide) (.slice Av j cv) j xs (by kernel_rfl) HK8.out.row ⟨wb.heap.size, 0, none⟩ 1 1 news (by kernel_rfl) HLEN8.out HNEW8.out HONE8.out (by simp only [maxLen]; omega) (by omega) HK8.out.bel.size ?_; intro v7 w7 hO7 hg7 hiff7; have HK7 := Lib.hid (HK8.out.grown hg7); have s3 : w7.cell? ⟨w.heap.size + 1 + 1, 3, none⟩ = some (.slice Av j cv) := (HK7.out.1.cell 3).trans rfl; have s3f : w7.frozen? ⟨w.heap.size + 1 + 1, 3, none⟩ = false := HK7.out.1.frozen 3; obtain ⟨g7, c7, rfl⟩ := row_some hO7 (by omega); have HO7 := Lib.hid hO7; clear hO7 hg7 hiff7)
          go_roundw
          case rel => exact ⟨j + 1, _, hlt, by simp, told_step HO7.out HK7.out HXS.out HNEWS.out HEX.out⟩
          case measure => simp [intOf]; omega
        · obtain rfl : j = n := by omega
          have HT : Hid ((ws.take j).map tellE = ws.map tellE) := Lib.hid (by rw [← HWS.out, List.take_length])
          rw [HT.out] at HROW
          have HW5 := Lib.hid (own_row_fine HROW.out HZ.out)
          have s0 : wr.cell? ⟨w.heap.size + 1 + 1, 0, none⟩ = some (.int .i64 0) := (HO.out.cell 0).trans rfl
          have s1 : wr.cell? ⟨w.heap.size + 1 + 1, 1, none⟩ = some (.bool fd) := (HO.out.cell 1).trans rfl
          have s2 : wr.cell? ⟨w.heap.size + 1 + 1, 2, none⟩ = some (.int .u64 0) := (HO.out.cell 2).trans rfl
          have s3 : wr.cell? ⟨w.heap.size + 1 + 1, 3, none⟩ = some (.slice Av j cv) := (HO.out.cell 3).trans rfl
          have s4 : wr.cell? ⟨w.heap.size + 1 + 1, 4, none⟩ = some (.int .u8 0) := (HO.out.cell 4).trans rfl
          have a0 : wr.cell? ⟨w.heap.size + 1, 0, none⟩ = some (.int .i64 0) := (HZ.out.cell 0).trans rfl
          have a1 : wr.cell? ⟨w.heap.size + 1, 1, none⟩ = some (.bool false) := (HZ.out.cell 1).trans rfl
          have a2 : wr.cell? ⟨w.heap.size + 1, 2, none⟩ = some (.int .u64 0) := (HZ.out.cell 2).trans rfl
          have a3 : wr.cell? ⟨w.heap.size + 1, 3, none⟩ = some (.slice none 0 0) := (HZ.out.cell 3).trans rfl
          have a4 : wr.cell? ⟨w.heap.size + 1, 4, none⟩ = some (.int .u8 0) := (HZ.out.cell 4).trans rfl
          have f0 := HZ.out.frozen 0
          have f1 := HZ.out.frozen 1
          have f2 := HZ.out.frozen 2
          have f3 := HZ.out.frozen 3
          have f4 := HZ.out.frozen 4
          go_wp2_with fail
          refine bodyPost_ret (resC rfl _ _ (w.heap.size + 1) 37 (repC 0 fd 0 (.slice Av j cv) 0) _ rfl ?_ Try.underlying37 rfl (by kernel_rfl)) rfl ⟨⟨toldT 2 0 fd ds st ws, Av, j, cv, rfl, rfl, by show (ws.map tellE).length = j; rw [List.length_map]; exact HWS.out, way_of_row' (HW5.out _ _ _ _ _)⟩, fine5g (Nat.le_succ _) HBEL.out _ _ _ _ _⟩
          exact set5 HZ.out _ _ _ _ _
    · have y4 : w3.cell? ⟨w.heap.size + 1 + 1, 4, none⟩ = some (.int .u8 0) := (K5.out.cell 4).trans rfl
      have z4 := K5.out.frozen 4
      have L3 := Lib.hid (K3.out.far (p := ⟨w.heap.size + 1 + 1, 4, none⟩) (by first | (simp; done) | (simp; omega)) (.int .u8 st))
      have L4 := Lib.hid (K4.out.far (p := ⟨w.heap.size + 1 + 1, 4, none⟩) (by first | (simp; done) | (simp; omega)) (.int .u8 st))
      have L5 := Lib.hid (K5.out.set_ 4 (.int .u8 st))
      have Z4 := Lib.hid (Z3.out.setCell (p := ⟨w.heap.size + 1 + 1, 4, none⟩) (by first | (simp; done) | (simp; omega)) (.int .u8 st))
      go_upto_region 18 with (fail)
      generalize w3.setCell ⟨w.heap.size + 1 + 1, 4, none⟩ (.int .u8 st) = w4 at *
      have s0 : w4.cell? ⟨w.heap.size + 1 + 1, 0, none⟩ = some (.int .i64 0) := (L5.out.cell 0).trans rfl
      have s1 : w4.cell? ⟨w.heap.size + 1 + 1, 1, none⟩ = some (.bool false) := (L5.out.cell 1).trans rfl
      have s2 : w4.cell? ⟨w.heap.size + 1 + 1, 2, none⟩ = some (.int .u64 0) := (L5.out.cell 2).trans rfl
      have s3 : w4.cell? ⟨w.heap.size + 1 + 1, 3, none⟩ = some (.slice none 0 0) := (L5.out.cell 3).trans rfl
      have s4 : w4.cell? ⟨w.heap.size + 1 + 1, 4, none⟩ = some (.int .u8 st) := (L5.out.cell 4).trans rfl
      have a0 : w4.cell? ⟨w.heap.size + 1, 0, none⟩ = some (.int .i64 0) := (L4.out.cell 0).trans rfl
      have a1 : w4.cell? ⟨w.heap.size + 1, 1, none⟩ = some (.bool false) := (L4.out.cell 1).trans rfl
      have a2 : w4.cell? ⟨w.heap.size + 1, 2, none⟩ = some (.int .u64 0) := (L4.out.cell 2).trans rfl
      have a3 : w4.cell? ⟨w.heap.size + 1, 3, none⟩ = some (.slice none 0 0) := (L4.out.cell 3).trans rfl
      have a4 : w4.cell? ⟨w.heap.size + 1, 4, none⟩ = some (.int .u8 0) := (L4.out.cell 4).trans rfl
      have f0 := L4.out.frozen 0
      have f1 := L4.out.frozen 1
      have f2 := L4.out.frozen 2
      have f3 := L4.out.frozen 3
      have f4 := L4.out.frozen 4
      go_wp2_with fail
      refine bodyPost_ret (resC rfl _ _ (w.heap.size + 1) 37 (repC 0 false 0 nil_ st) _ rfl ?_ Try.underlying37 rfl (by kernel_rfl)) rfl ⟨⟨toldT 3 0 fd ds st ws, none, 0, 0, rfl, rfl, rfl, .inl rfl⟩, fine5g (Nat.le_succ _) Z4.out _ _ _ _ _⟩
      exact set5 L4.out _ _ _ _ _
  · have hbn : eb.toNat ≠ 0 := fun h => he (UInt8.toNat_inj.1 (by simpa using h))
    have hbq : ((eb.toNat : Int) == 0) = false := by simp; omega
    have HT : Hid (toldT k eb fd ds st ws = ⟨(eb.toNat : Int), false, 0, 0, 0, []⟩) := Lib.hid (if_neg he)
    have s0 : w3.cell? ⟨w.heap.size + 1 + 1, 0, none⟩ = some (.int .i64 (eb.toNat : Int)) := (K5.out.cell 0).trans rfl
    have s1 : w3.cell? ⟨w.heap.size + 1 + 1, 1, none⟩ = some (.bool false) := (K5.out.cell 1).trans rfl
    have s2 : w3.cell? ⟨w.heap.size + 1 + 1, 2, none⟩ = some (.int .u64 0) := (K5.out.cell 2).trans rfl
    have s3 : w3.cell? ⟨w.heap.size + 1 + 1, 3, none⟩ = some (.slice none 0 0) := (K5.out.cell 3).trans rfl
    have s4 : w3.cell? ⟨w.heap.size + 1 + 1, 4, none⟩ = some (.int .u8 0) := (K5.out.cell 4).trans rfl
    have a0 : w3.cell? ⟨w.heap.size + 1, 0, none⟩ = some (.int .i64 0) := (K4.out.cell 0).trans rfl
    have a1 : w3.cell? ⟨w.heap.size + 1, 1, none⟩ = some (.bool false) := (K4.out.cell 1).trans rfl
    have a2 : w3.cell? ⟨w.heap.size + 1, 2, none⟩ = some (.int .u64 0) := (K4.out.cell 2).trans rfl
    have a3 : w3.cell? ⟨w.heap.size + 1, 3, none⟩ = some (.slice none 0 0) := (K4.out.cell 3).trans rfl
    have a4 : w3.cell? ⟨w.heap.size + 1, 4, none⟩ = some (.int .u8 0) := (K4.out.cell 4).trans rfl
    have f0 := K4.out.frozen 0
    have f1 := K4.out.frozen 1
    have f2 := K4.out.frozen 2
    have f3 := K4.out.frozen 3
    have f4 := K4.out.frozen 4
    go_wp2_with fail
    refine bodyPost_ret (resC rfl _ _ (w.heap.size + 1) 37 (repC (eb.toNat : Int) false 0 nil_ 0) _ rfl ?_ Try.underlying37 rfl (by kernel_rfl)) rfl ⟨⟨⟨(eb.toNat : Int), false, 0, 0, 0, []⟩, none, 0, 0, HT.out.symm, rfl, rfl, .inl rfl⟩, fine5g (Nat.le_succ _) Z3.out _ _ _ _ _⟩
    exact set5 K4.out _ _ _ _ _
end Go.Proofs.Ytjiiabekjiilbaa
