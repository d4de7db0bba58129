/- takePath: the reader of ways. -/
import Derived.Test.YtjiiabekjiilbaaReqWay
import Derived.Test.YtjiiabekjiilbaaReqKD
import Derived.Laws.AppendOwn
set_option linter.unusedSimpArgs false
set_option linter.unusedVariables false
namespace Go.Proofs.Ytjiiabekjiilbaa
open Go.RowKit Mp

/-- the edge that bytes say. -/
def edAt (l : List UInt8) : Ed := ⟨num l 0 4, num (l.drop 4) 0 4, num ((l.drop 4).drop 4) 0 8, 4294967295⟩
def parse (l : List UInt8) (k : Nat) : List Ed := (List.range k).map fun i => edAt (l.drop (16 * i))
theorem parse_succ (l : List UInt8) (k : Nat) : parse l (k + 1) = parse l k ++ [edAt (l.drop (16 * k))] := by simp [parse, List.range_succ]
theorem parse_length (l : List UInt8) (k : Nat) : (parse l k).length = k := by simp [parse]
def cellsL (ys : List Ed) : List Value := ys.flatMap Ed.cells
theorem cellsL_snoc (ys : List Ed) (x : Ed) : cellsL (ys ++ [x]) = cellsL ys ++ x.cells := by simp [cellsL]

theorem three {l l1 l2 l3 : List UInt8} {x1 x2 x3 : Nat} {b1 b2 b3 : Bool} (h1y : 4 ≤ l.length → x1 = num l 0 4 ∧ b1 = false ∧ l1 = l.drop 4) (h1n : l.length < 4 → x1 = 0 ∧ b1 = true ∧ l1 = l)
    (h2y : 4 ≤ l1.length → x2 = num l1 0 4 ∧ b2 = b1 ∧ l2 = l1.drop 4) (h2n : l1.length < 4 → x2 = 0 ∧ b2 = true ∧ l2 = l1) (h3y : 8 ≤ l2.length → x3 = num l2 0 8 ∧ b3 = b2 ∧ l3 = l2.drop 8) (h3n : l2.length < 8 → x3 = 0 ∧ b3 = true ∧ l3 = l2) :
    (16 ≤ l.length → b3 = false ∧ l3 = l.drop 16 ∧ (⟨x1, x2, x3, 4294967295⟩ : Ed) = edAt l) ∧ (l.length < 16 → b3 = true) := by
  constructor
  · intro h
    obtain ⟨rfl, rfl, rfl⟩ := h1y (by omega)
    obtain ⟨rfl, rfl, rfl⟩ := h2y (by simp; omega)
    obtain ⟨rfl, rfl, rfl⟩ := h3y (by simp; omega)
    exact ⟨rfl, by simp, rfl⟩
  · intro h
    by_cases a1 : 4 ≤ l.length
    · obtain ⟨rfl, rfl, rfl⟩ := h1y a1
      by_cases a2 : 4 ≤ (l.drop 4).length
      · obtain ⟨rfl, rfl, rfl⟩ := h2y a2
        exact (h3n (by simp at a2 ⊢; omega)).2.1
      · obtain ⟨rfl, rfl, rfl⟩ := h2n (by omega)
        by_cases a3 : 8 ≤ (l.drop 4).length
        · exact (h3y a3).2.1
        · exact (h3n (by omega)).2.1
    · obtain ⟨rfl, rfl, rfl⟩ := h1n (by omega)
      have e2 : b2 = true := by
        by_cases a2 : 4 ≤ l1.length
        · exact (h2y a2).2.1
        · exact (h2n (by omega)).2.1
      by_cases a3 : 8 ≤ l2.length
      · exact (h3y a3).2.1.trans e2
      · exact (h3n (by omega)).2.1

theorem step_append_own {ops : Array Oper} {o : Oper} {a : Act} {w : World} {K : Act → World → Prop} {E : Prop} {Q : Exit → Act → World → Prop} (hgd : o.guard = none) (s x : Operand) (t : TypeId)
    (ho : o.op = .call { callee := .builtin .append, args := #[s, x], argTypes := #[t, t] })
    (base : Nat) (e : TypeId) (i : TypeInfo) (z : Value) (size bytes : Nat) (ht : Try.prog.underlying t = some (.slice e)) (hi : Try.prog.info? e = some i) (hz : i.zero = some z)
    (hsize : i.size = size) (hby : i.bytes = bytes) (hzs : z.cells.size = size) (hsz : 0 < size)
    (v : Value) (n : Nat) (xs : List Value) (hs : a.eval s = v) (hown : w.ownsRow base e size v n xs)
    (ad : Addr) (m c : Nat) (news : List Value) (hx : a.eval x = .slice (some ad) m c) (hl : news.length = m * size) (hnews : ∀ j u, news[j]? = some u → w.cell? (ad.add j) = some u) (h1 : ∀ u ∈ news, u.oneCell' = true)
    (h63 : n + m ≤ maxLen) (hbytes : (n + m) * bytes ≤ 140737488355328) (hbase : base ≤ w.heap.size)
    (h : ∀ v' w', w'.ownsRow base e size v' (n + m) (xs ++ news) → w.grownBy w' v.ownBlock → (v' = .slice none 0 0 ↔ v = .slice none 0 0 ∧ m = 0) → K (a.put o.dst v') w') :
    if Region.wanted o (yielded ops a.tmps) = true then Oper.wp Try.prog o a w K Q else E := by
  rw [if_pos (by simp [Region.wanted, hgd])]
  exact wp_append_own w s x t ho base e i z size bytes ht hi hz hsize hby hzs hsz v n xs hs hown ad m c news hx hl hnews h1 h63 hbytes hbase h

theorem own_row_below {w w' : World} {base : Nat} {e : TypeId} {size n : Nat} {v : Value} {xs : List Value} (h : w.ownsRow base e size v n xs) (hb : Below w.heap.size w w') : w'.ownsRow base e size v n xs := by
  refine ⟨h.1, ?_⟩
  rcases h.2 with h | ⟨g, cap, cur, h1, h2, h3, h4⟩
  · exact .inl h
  · exact .inr ⟨g, cap, cur, h1, h2, (hb.block g (lt_of_block h3)).trans h3, h4⟩
theorem own_row_other {w w' : World} {base : Nat} {e t : TypeId} {size n g0 : Nat} {v : Value} {xs : List Value} {cs : Array Value} (h : w.ownsRow base e size v n xs) (hb : Blk w g0 t cs) (hne : e ≠ t) (hg : w.grownBy w' (some g0)) : w'.ownsRow base e size v n xs := by
  refine ⟨h.1, ?_⟩
  rcases h.2 with h | ⟨g, cap, cur, h1, h2, h3, h4⟩
  · exact .inl h
  · refine .inr ⟨g, cap, cur, h1, h2, ?_, h4⟩
    have hgne : g ≠ g0 := blk_ne (cs := cur) h3 hb hne
    exact (hg.block g (lt_of_block h3) (by simp; omega)).trans h3
theorem row_ne {w : World} {base : Nat} {e t : TypeId} {size n g0 : Nat} {v : Value} {xs : List Value} {cs : Array Value} (h : w.ownsRow base e size v n xs) (hb : Blk w g0 t cs) (hne : e ≠ t) : some g0 ≠ v.ownBlock := by
  rcases h.2 with ⟨rfl, _⟩ | ⟨g, cap, cur, rfl, h2, h3, h4⟩
  · simp [Value.ownBlock]
  · simp only [Value.ownBlock, ne_eq, Option.some.injEq]
    exact fun e' => blk_ne (cs := cur) h3 hb hne e'.symm
theorem row_one {w : World} {base : Nat} {e : TypeId} {size n : Nat} {v : Value} {xs : List Value} (h : w.ownsRow base e size v n xs) : v.oneCell' = true := by
  rcases h.2 with ⟨rfl, _⟩ | ⟨g, cap, cur, rfl, _⟩ <;> rfl
theorem edge_info : (Try.prog.info? 71).map (fun i => (i.zero, i.size, i.bytes)) = some (some (.agg #[.int .u32 0, .int .u32 0, .int .u64 0, .int .u32 0]), 4, 24) := by kernel_rfl

def TW (l : List UInt8) (fd bd : Bool) (l' : List UInt8) : Prop :=
  (5 ≤ l.length ∧ l.headD 0 ≤ 1 ∧ fd = (l.head? == some 1) ∧ 16 * num l 1 4 ≤ l.length - 5 ∧ bd = false ∧ l' = l.drop (5 + 16 * num l 1 4)) ∨ (¬ (5 ≤ l.length ∧ l.headD 0 ≤ 1 ∧ 16 * num l 1 4 ≤ l.length - 5) ∧ bd = true)

def TWE (lo ga gr : Nat) (err : Int) (ds st : Nat) (l : List UInt8) (w w' : World) : Prop := ∃ (fd' : Bool) (v : Value) (bd : Bool) (l' : List UInt8), v.oneCell' = true ∧ TW l fd' bd l' ∧
  (bd = false → w'.ownsRow lo 71 4 v (num l 1 4) (cellsL (parse (l.drop 5) (num l 1 4)))) ∧ ARs w' lo ga gr bd (repC err fd' ds v st) l' ∧ Below lo w w'
/-- where the loop of takePath stands. -/
structure WS (w wr : World) (lo ga gr n0 : Nat) (b0 : Bool) (L : List UInt8) (err : Int) (fd : Bool) (ds st : Nat) (k m : Nat) (bd : Bool) (ys : List Ed) (v : Value) (l' : List UInt8) : Prop where
  km : m + k = n0
  ar : ARs wr lo ga gr bd (repC err fd ds v st) l'
  row : wr.ownsRow lo 71 4 v k (cellsL ys)
  bel : Below lo w wr
  no : bd = false → b0 = false ∧ 16 * k ≤ L.length ∧ l' = L.drop (16 * k) ∧ ys = parse L k
  yes : bd = true → b0 = true ∨ L.length < 16 * n0

theorem way_row {W : World} {lo n : Nat} {v : Value} {xs : List Value} (h : W.ownsRow lo 71 4 v n xs) (o : Obj) : (W.drew.alloc o).ownsRow lo 71 4 v n xs :=
  own_row_below h (((Below.refl W.heap.size W).drew).alloc (Nat.le_refl _) o)
theorem way_sz {W : World} {lo ga gr : Nat} {bad : Bool} {R : Array Value} {l : List UInt8} {A : Option Addr} {c : Nat} {o : Obj} (h : AR W lo ga gr bad R l A c) : lo ≤ (W.drew.alloc o).heap.size := by
  have h1 : W.heap.size ≤ (W.drew.alloc o).heap.size := (((Below.refl W.heap.size W).drew).alloc (Nat.le_refl _) o).size
  exact Nat.le_trans h.lsz h1
theorem way_grown {W w7 : World} {lo ga gr n : Nat} {bad : Bool} {R : Array Value} {l : List UInt8} {A : Option Addr} {c : Nat} {o : Obj} {v : Value} {xs : List Value} (h : AR W lo ga gr bad R l A c) (hr : W.ownsRow lo 71 4 v n xs)
    (hg : (W.drew.alloc o).grownBy w7 v.ownBlock) : AR w7 lo ga gr bad R l A c ∧ Below lo W w7 := by
  have h1 : AR (W.drew.alloc o) lo ga gr bad R l A c := h.of_grown (((Below.refl W.heap.size W).drew).alloc (Nat.le_refl _) o)
  have hr1 := way_row hr o
  have hb : Below lo (W.drew.alloc o) w7 := below_of_grown (Below.refl _ _) hg h1.lsz fun g hg' => by
    rcases hr.2 with ⟨rfl, _⟩ | ⟨g1, cap, cur, rfl, h2, _⟩
    · cases hg'
    · simp only [Value.ownBlock, Option.some.injEq] at hg'
      omega
  refine ⟨⟨(hg.block ga h1.a.lt (row_ne hr1 h1.a (by decide))).trans h1.a, h1.b.below hb, h1.nc, h1.cm, (hg.block gr h1.r.lt (row_ne hr1 h1.r (by decide))).trans h1.r, h1.lga, h1.lgr, Nat.le_trans h1.lsz hg.size⟩, ?_⟩
  exact (((Below.refl lo W).drew).alloc h.lsz o).trans hb
theorem new_edge (W : World) (x1 x2 x3 : Nat) : ∀ j u, (Ed.cells ⟨x1, x2, x3, 4294967295⟩)[j]? = some u → (W.drew.alloc (.cells #[.int .u32 x1, .int .u32 x2, .int .u64 x3, .int .u32 4294967295] 71)).cell? ((⟨W.heap.size, 0, none⟩ : Addr).add j) = some u := by
  intro j u h
  have hadd : (⟨W.heap.size, 0, none⟩ : Addr).add j = ⟨W.heap.size, j, none⟩ := by unfold Addr.add; split <;> simp_all
  rw [hadd]
  have := (Blk.new W.drew 71 #[.int .u32 x1, .int .u32 x2, .int .u64 x3, .int .u32 4294967295]).cell j
  exact this.trans (by simpa [Ed.cells] using h)
theorem edge_ones (E : Ed) : ∀ u ∈ E.cells, u.oneCell' = true := by
  intro u hu
  simp [Ed.cells] at hu
  rcases hu with rfl | rfl | rfl | rfl <;> rfl
theorem row_some {w : World} {base : Nat} {e : TypeId} {size n : Nat} {v : Value} {xs : List Value} (h : w.ownsRow base e size v n xs) (hn : 0 < n) : ∃ g c, v = .slice (some ⟨g, 0, none⟩) n c := by
  rcases h.2 with ⟨_, h⟩ | ⟨g, cap, cur, h1, _⟩
  · omega
  · exact ⟨g, cap, h1⟩
theorem run_store_one {v : Value} (h : v.oneCell' = true) : ∀ (W : World) (a : Addr) (m : Mode), (store a v m).run Try.prog W = stored Try.prog W a v m := fun W a m => run_store Try.prog W a v m h
theorem takeway_step {w wr W w7 : World} {lo ga gr n0 : Nat} {b0 : Bool} {L : List UInt8} {err : Int} {fd : Bool} {ds st k m : Nat} {b3 : Bool} {ys : List Ed} {v v' : Value} {l' l3 : List UInt8} {x1 x2 x3 : Nat} {A6 : Option Addr} {c6 : Nat}
    (h : WS w wr lo ga gr n0 b0 L err fd ds st k m false ys v l') (hm : 0 < m) (hW : AR W lo ga gr b3 (repC err fd ds v st) l3 A6 c6) (hb : Below lo w W) (hO : w7.ownsRow lo 71 4 v' (k + 1) (cellsL ys ++ Ed.cells ⟨x1, x2, x3, 4294967295⟩))
    (hA : AR w7 lo ga gr b3 (repC err fd ds v st) l3 A6 c6 ∧ Below lo W w7)
    (hT : (16 ≤ l'.length → b3 = false ∧ l3 = l'.drop 16 ∧ (⟨x1, x2, x3, 4294967295⟩ : Ed) = edAt l') ∧ (l'.length < 16 → b3 = true)) :
    ∃ (k m_1 : Nat) (bd : Bool) (ys : List Ed) (v_1 : Value) (l' : List UInt8), Value.int .u64 ((m : Int) - 1) = .int .u64 m_1 ∧ WS w (w7.setCell ⟨gr, 3, none⟩ v') lo ga gr n0 b0 L err fd ds st k m_1 bd ys v_1 l' := by
  obtain ⟨h1, h2, h3, h4⟩ := h.no rfl
  have hkm := h.km
  refine ⟨k + 1, m - 1, b3, ys ++ [⟨x1, x2, x3, 4294967295⟩], v', l3, by congr 1; omega, ⟨by omega, ?_, ?_, ?_, ?_, ?_⟩⟩
  · exact ARs.reply ⟨A6, c6, hA.1⟩ 3 v'
  · rw [cellsL_snoc]
    exact own_row_other hO hA.1.r (by decide) (grown_two (World.grownBy.refl w7 (some gr)) 3 v')
  · exact (hb.trans hA.2).setCell (p := ⟨gr, 3, none⟩) hA.1.lgr _
  · intro hb3
    have h16 : 16 ≤ l'.length := by
      rcases Nat.lt_or_ge l'.length 16 with h5 | h5
      · have := hT.2 h5
        rw [hb3] at this
        cases this
      · exact h5
    obtain ⟨_, e2, e3⟩ := hT.1 h16
    have hlen : 16 ≤ L.length - 16 * k := by rw [h3, List.length_drop] at h16; exact h16
    refine ⟨h1, by omega, ?_, ?_⟩
    · rw [e2, h3, List.drop_drop]; rfl
    · rw [parse_succ, h4, e3, h3]
  · intro hb3
    rcases Nat.lt_or_ge l'.length 16 with h5 | h5
    · right
      rw [h3, List.length_drop] at h5
      omega
    · have := (hT.1 h5).1
      rw [hb3] at this
      cases this
theorem takeway_end {w wr : World} {lo ga gr n0 : Nat} {b0 : Bool} {l L : List UInt8} {err : Int} {fd : Bool} {ds st k m : Nat} {bd bq : Bool} {ys : List Ed} {v : Value} {l' : List UInt8}
    (h : WS w wr lo ga gr n0 b0 L err fd ds st k m bd ys v l') (hend : m = 0 ∨ bd = true) (hy : 4 ≤ (l.drop 1).length → n0 = num (l.drop 1) 0 4 ∧ b0 = bq ∧ L = (l.drop 1).drop 4) (hn : (l.drop 1).length < 4 → n0 = 0 ∧ b0 = true ∧ L = l.drop 1)
    (hbq : bq = (false || l.isEmpty || decide ((1 : UInt8) < l.headD 0))) (hfd : fd = (l.head? == some 1)) :
    v.oneCell' = true ∧ TW l fd bd l' ∧ (bd = false → wr.ownsRow lo 71 4 v (num l 1 4) (cellsL (parse (l.drop 5) (num l 1 4)))) ∧ ARs wr lo ga gr bd (repC err fd ds v st) l' ∧ Below lo w wr := by
  refine ⟨row_one h.row, ?_, ?_, h.ar, h.bel⟩
  · cases hb : bd
    · left
      obtain ⟨h1, h2, h3, h4⟩ := h.no hb
      have hm : m = 0 := by rcases hend with h | h; exact h; rw [hb] at h; cases h
      have hlen : 4 ≤ (l.drop 1).length := by
        rcases Nat.lt_or_ge (l.drop 1).length 4 with h5 | h5
        · rw [(hn h5).2.1] at h1; cases h1
        · exact h5
      obtain ⟨e1, e2, e3⟩ := hy hlen
      rw [num_drop] at e1
      have hk : k = num l 1 4 := by have := h.km; omega
      rw [List.length_drop] at hlen
      rw [e2] at h1
      rw [hbq] at h1
      simp at h1
      rw [e3] at h2 h3
      simp at h2 h3
      refine ⟨by omega, by simpa using h1.2, hfd, by rw [← hk]; omega, rfl, by rw [h3, hk]⟩
    · right
      refine ⟨fun ⟨h1, h2, h3⟩ => ?_, rfl⟩
      obtain ⟨e1, e2, e3⟩ := hy (by rw [List.length_drop]; omega)
      rw [num_drop] at e1
      rcases h.yes hb with h5 | h5
      · rw [e2, hbq] at h5
        have hne : l ≠ [] := by rintro rfl; simp at h1
        simp [hne] at h5
        exact absurd h2 (by simpa using h5)
      · rw [e3, e1] at h5
        simp at h5
        omega
  · intro hb
    obtain ⟨h1, h2, h3, h4⟩ := h.no hb
    have hm : m = 0 := by rcases hend with h | h; exact h; rw [hb] at h; cases h
    have hlen : 4 ≤ (l.drop 1).length := by
      rcases Nat.lt_or_ge (l.drop 1).length 4 with h5 | h5
      · rw [(hn h5).2.1] at h1; cases h1
      · exact h5
    obtain ⟨e1, e2, e3⟩ := hy hlen
    rw [num_drop] at e1
    have hk : k = num l 1 4 := by have := h.km; omega
    have hr := h.row
    rw [h4, e3, hk] at hr
    simpa using hr

set_option maxRecDepth 100000 in
set_option maxHeartbeats 6400000 in
theorem takepath_any (lo ga gr : Nat) (err : Int) (fd : Bool) (ds st : Nat) (l : List UInt8) (w : World) (h : ARs w lo ga gr false (repC err fd ds nil_ st) l) (hn : l.length ≤ 1048576) :
    Calls Try.prog 44 #[.pointer (some ⟨ga, 0, none⟩), .pointer (some ⟨gr, 0, none⟩)] w fun e w' => e = .returned (.tuple #[]) ∧ TWE lo ga gr err ds st l w w' := by
  obtain ⟨i0, hi0, hz0, hz1, hz2⟩ := info_parts edge_info
  have HA := Lib.hid h
  have HLN := Lib.hid hn
  clear h
  go_enter Try.func44, Try.ntmps44
  go_wp2_with fail
  refine (takeflag_any lo ga gr false _ l _ HA.out (by omega)).mono ?_
  rintro e w1 ⟨rfl, hA1, hg1⟩
  have HB1 : Hid (Below lo w w1) := by
    have h : Below lo w w1 := by
      obtain ⟨A, c, h⟩ := HA.out
      exact below_only (Below.refl _ _) hg1 h.lga h.lsz
    exact h
  have HA1 := Lib.hid hA1
  clear hg1
  obtain ⟨A, c, h1⟩ := hA1
  have c1 := (h1.r.cell 1).trans rfl
  have f1 := h1.r.frozen 1
  have hlgr := h1.lgr
  have hlsz := h1.lsz
  clear h1
  obtain ⟨fd', hfd⟩ : ∃ x, x = (l.head? == some 1) := ⟨_, rfl⟩
  obtain ⟨bd, hbd⟩ : ∃ x, x = (false || l.isEmpty || decide ((1 : UInt8) < l.headD 0)) := ⟨_, rfl⟩
  rw [← hbd] at HA1
  rw [← hfd]
  have HFD := Lib.hid hfd
  have HBD := Lib.hid hbd
  clear hfd hbd
  have HA2 := Lib.hid (HA1.out.reply 1 (.bool fd'))
  have HB2 := Lib.hid (HB1.out.setCell (p := ⟨gr, 1, none⟩) hlgr (.bool fd'))
  go_wp2_with fail
  refine (take_any lo ga gr 4 bd _ (l.drop 1) _ HA2.out (by rw [List.length_drop]; omega) sz4).mono ?_
  rintro e w3 ⟨n0, b0, L, rfl, hx, hl3, hyes, hno, hA3, hg3⟩
  have HB3 := Lib.hid (below_only HB2.out hg3 (by obtain ⟨A, c, h⟩ := HA.out; exact h.lga) (by simp [World.setCell]; omega))
  have HA3 := Lib.hid hA3
  have HY := Lib.hid hyes
  have HN := Lib.hid hno
  have HL3 := Lib.hid hl3
  have hn0 : n0 ≤ 4294967295 := by simp only [Nat.reduceMul, Nat.reducePow] at hx; omega
  clear hg3 hyes hno c1 f1 hx hl3 hA3 HA1 HA2 HB1 HB2
  go_wp2_with fail
  go_loopw [4] (fun v4 wr => ∃ (k m : Nat) (bd : Bool) (ys : List Ed) (v : Value) (l' : List UInt8), v4 = .int .u64 m ∧ WS w wr lo ga gr n0 b0 L err fd' ds st k m bd ys v l') (fun v4 _ => (intOf v4).toNat)
  case atStart => exact ⟨0, n0, b0, [], nil_, L, rfl, ⟨by omega, HA3.out, World.ownsRow_nil _ _ _ _, HB3.out, fun h => ⟨h, by omega, by simp, rfl⟩, fun h => .inl h⟩⟩
  case round =>
    obtain ⟨k, m, bx, ys, v, l', rfl, hS⟩ := hrel
    have HS := Lib.hid hS
    obtain ⟨Ax, cx, hx⟩ := hS.ar
    have HX := Lib.hid hx
    have a1 : wr.cell? ⟨ga, 1, none⟩ = some (.bool bx) := (hx.a.cell 1).trans rfl
    have hmn : m ≤ 4294967295 := by have := hS.km; omega
    clear hS hx
    have hll : l'.length ≤ 1048576 ∨ bx = true := by
      cases bx
      · left
        have h := (HS.out.no rfl).2.2.1
        have h3 := HL3.out
        have h4 := HLN.out
        rw [h, List.length_drop]
        rw [List.length_drop] at h3
        omega
      · exact .inr rfl
    by_cases hm : m = 0
    · subst hm
      have FIN := Lib.hid (takeway_end HS.out (by simp) HY.out HN.out HBD.out HFD.out)
      go_wp2_with fail
      go_end0
      obtain ⟨f1, f2, f3, f4, f5⟩ := FIN.out
      exact ⟨rfl, fd', v, bx, l', f1, f2, f3, f4, f5⟩
    · have hm1 : 0 < m := by omega
      cases bx
      · have hll : l'.length ≤ 1048576 := by simpa using hll
        clear hm
        go_wp2_with fail
        refine (take_any lo ga gr 4 false _ l' _ HS.out.ar (by omega) sz4).mono ?_
        rintro e w4 ⟨x1, b1, l1, rfl, hx1, hl1, hy1, hn1, hA4, hg4⟩
        have hx1 : x1 ≤ 4294967295 := by simp only [Nat.reduceMul, Nat.reducePow] at hx1; omega
        have HB4 := Lib.hid (below_only HS.out.bel hg4 HX.out.lga HX.out.lsz)
        have HA4 := Lib.hid hA4
        have HR4 := Lib.hid (own_row_other HS.out.row HX.out.a (by decide) hg4)
        have HY1 := Lib.hid hy1
        have HN1 := Lib.hid hn1
        have HSZ4 := Lib.hid (Nat.le_trans HX.out.lsz hg4.size)
        clear hA4 hg4 hy1 hn1 a1
        go_wp2_with fail
        refine (take_any lo ga gr 4 b1 _ l1 _ HA4.out (by omega) sz4).mono ?_
        rintro e w5 ⟨x2, b2, l2, rfl, hx2, hl2, hy2, hn2, hA5, hg5⟩
        have hx2 : x2 ≤ 4294967295 := by simp only [Nat.reduceMul, Nat.reducePow] at hx2; omega
        obtain ⟨A4, c4, hq4⟩ := HA4.out
        have HB5 := Lib.hid (below_only HB4.out hg5 hq4.lga hq4.lsz)
        have HR5 := Lib.hid (own_row_other HR4.out hq4.a (by decide) hg5)
        have HA5 := Lib.hid hA5
        have HY2 := Lib.hid hy2
        have HN2 := Lib.hid hn2
        clear hA5 hg5 hy2 hn2 hq4
        go_wp2_with fail
        refine (take_any lo ga gr 8 b2 _ l2 _ HA5.out (by omega) sz8).mono ?_
        rintro e w6 ⟨x3, b3, l3, rfl, hx3, hl3, hy3, hn3, hA6, hg6⟩
        have hx3 : x3 ≤ 18446744073709551615 := by simp only [Nat.reduceMul, Nat.reducePow] at hx3; omega
        obtain ⟨A5, c5, hq5⟩ := HA5.out
        have HB6 := Lib.hid (below_only HB5.out hg6 hq5.lga hq5.lsz)
        have HR6 := Lib.hid (own_row_other HR5.out hq5.a (by decide) hg6)
        have HT := Lib.hid (three HY1.out HN1.out HY2.out HN2.out hy3 hn3)
        have HA6 := Lib.hid hA6
        clear hA6 hg6 hy3 hn3 hq5 HA4 HA5 HB4 HB5 HR4 HR5 HSZ4 HY1 HN1 HY2 HN2
        obtain ⟨A6, c6, hq6⟩ := HA6.out
        have HQ6 := Lib.hid hq6
        clear hq6
        go_upto_region 5 with (fail)
        have HW7 : Hid (AR (w6.alloc (.cells #[.int .u32 x1, .int .u32 x2, .int .u64 x3, .int .u32 4294967295] 71)) lo ga gr b3 (repC err fd' ds v st) l3 A6 c6 ∧ Below lo w (w6.alloc (.cells #[.int .u32 x1, .int .u32 x2, .int .u64 x3, .int .u32 4294967295] 71)) ∧ (w6.alloc (.cells #[.int .u32 x1, .int .u32 x2, .int .u64 x3, .int .u32 4294967295] 71)).ownsRow lo 71 4 v k (cellsL ys)) := ⟨HQ6.out.of_grown ((Below.refl _ _).alloc (Nat.le_refl _) _), HB6.out.alloc HQ6.out.lsz _, own_row_below HR6.out ((Below.refl _ _).alloc (Nat.le_refl _) _)⟩
        have HE7 := Lib.hid (Blk.new w6 71 #[.int .u32 x1, .int .u32 x2, .int .u64 x3, .int .u32 4294967295])
        clear HX HA6 HQ6 HB6 HR6
        generalize w6.heap.size = ne at *
        generalize w6.alloc (.cells #[.int .u32 x1, .int .u32 x2, .int .u64 x3, .int .u32 4294967295] 71) = W at *
        have q0 : W.cell? ⟨ne, 0, none⟩ = some (.int .u32 x1) := (HE7.out.cell 0).trans rfl
        have q1 : W.cell? ⟨ne, 1, none⟩ = some (.int .u32 x2) := (HE7.out.cell 1).trans rfl
        have q2 : W.cell? ⟨ne, 2, none⟩ = some (.int .u64 x3) := (HE7.out.cell 2).trans rfl
        have q3 : W.cell? ⟨ne, 3, none⟩ = some (.int .u32 4294967295) := (HE7.out.cell 3).trans rfl
        have g3 : W.cell? ⟨gr, 3, none⟩ = some v := (HW7.out.1.r.cell 3).trans rfl
        have g3' : (W.alloc (.cells #[.int .u32 x1, .int .u32 x2, .int .u64 x3, .int .u32 4294967295] 71)).cell? ⟨gr, 3, none⟩ = some v := ((HW7.out.1.r.alloc _).cell 3).trans rfl
        have HKB : Hid (16 * k ≤ 1048576) := by
          have h1 := (HS.out.no rfl).2.1
          have h3 := HL3.out
          have h4 := HLN.out
          rw [List.length_drop] at h3
          have h : 16 * k ≤ 1048576 := by omega
          exact h
        have hkk : k ≤ 65536 := by have := HKB.out; omega
        go_region_law (refine step_append_own rfl (.tmp 37) (.tmp 39) _ rfl lo 71 i0 _ 4 24 Try.underlying35 hi0 hz0 hz1 hz2 rfl (by decide) v k (cellsL ys) rfl (way_row HW7.out.2.2 _) ⟨W.heap.size, 0, none⟩ 1 1 (Ed.cells ⟨x1, x2, x3, 4294967295⟩) rfl rfl (new_edge W x1 x2 x3) (edge_ones _) (by simp only [maxLen]; omega) (by omega) (way_sz HW7.out.1) ?_; (intro v7 w7 hO7 hg7 hiff7); (have HA7 := Lib.hid (way_grown HW7.out.1 HW7.out.2.2 hg7)); (have s0 : w7.cell? ⟨gr, 3, none⟩ = some v := (HA7.out.1.r.cell 3).trans rfl); (have s1 : w7.frozen? ⟨gr, 3, none⟩ = false := HA7.out.1.r.frozen 3); (obtain ⟨g7, c7, rfl⟩ := row_some hO7 (by omega)); (have HO7 := Lib.hid hO7); (clear hO7 hg7 hiff7))
        all_goals
          go_wp2_with fail
          go_roundw
          case rel => exact takeway_step HS.out hm1 HW7.out.1 HW7.out.2.1 HO7.out HA7.out HT.out
          case measure => simp [intOf]; omega
      · have FIN := Lib.hid (takeway_end HS.out (by simp) HY.out HN.out HBD.out HFD.out)
        go_wp2_with fail
        go_end0
        obtain ⟨f1, f2, f3, f4, f5⟩ := FIN.out
        exact ⟨rfl, fd', v, true, l', f1, f2, f3, f4, f5⟩
end Go.Proofs.Ytjiiabekjiilbaa
