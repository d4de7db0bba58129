/- The document's ReadAnswer. -/
import Derived.Test.YtjiiabekjiilbaaReqCopy
import Derived.Test.YtjiiabekjiilbaaReqRef
import Derived.Test.YtjiiabekjiilbaaRes
import Derived.Deep.Cut
import Derived.Sort.AtCall
set_option linter.unusedSimpArgs false
set_option linter.unusedVariables false
namespace Go.Proofs.Ytjiiabekjiilbaa
open Go.RowKit Mp

theorem body_nil {k : Nat} : ¬ bodyOk k [] := by rintro (⟨_, h, _⟩ | ⟨_, h, _⟩ | ⟨_, h⟩) <;> simp at h
theorem body_not3 {t : List UInt8} (h : t.length ≠ 1) : ¬ bodyOk 3 t := by
  rintro (⟨h1, _⟩ | ⟨h1, _⟩ | ⟨_, h1⟩)
  · omega
  · omega
  · exact h h1
theorem body_head {k : Nat} {b : UInt8} {t : List UInt8} (hb : 1 < b.toNat) (hk : k ≠ 3) : ¬ bodyOk k (b :: t) := by
  have hn : ¬ b ≤ 1 := by rw [UInt8.le_iff_toNat_le]; simp; omega
  rintro (⟨_, _, h⟩ | ⟨_, _, h, _⟩ | ⟨h, _⟩)
  · exact hn h
  · exact hn h
  · exact hk h
theorem own_row_fine {w : World} {base size n g : Nat} {v : Value} {xs : List Value} {cs : Array Value} (h : w.ownsRow base 71 size v n xs) (hb : Blk w g 37 cs) (v0 v1 v2 v3 v4 : Value) :
    (((((w.setCell ⟨g, 0, none⟩ v0).setCell ⟨g, 1, none⟩ v1).setCell ⟨g, 2, none⟩ v2).setCell ⟨g, 3, none⟩ v3).setCell ⟨g, 4, none⟩ v4).ownsRow base 71 size v n xs :=
  own_row_other h hb (by decide) (grown_two (grown_two (grown_two (grown_two (grown_two (World.grownBy.refl w (some g)) 0 v0) 1 v1) 2 v2) 3 v3) 4 v4)
theorem body_not9 {t : List UInt8} (h : t.length ≠ 9) : ¬ bodyOk 1 t := by
  rintro (⟨_, h1, _⟩ | ⟨h1, _⟩ | ⟨h1, _⟩)
  · exact h h1
  · omega
  · omega
theorem head_one (b : UInt8) (t : List UInt8) : ((b.toNat : Int) == 1) = ((b :: t).head? == some 1) := by
  by_cases h : b = 1
  · subst h; rfl
  · have hn : b.toNat ≠ 1 := fun e => h (UInt8.toNat_inj.1 (by simpa using e))
    have h1 : ((b.toNat : Int) == 1) = false := by simp; omega
    rw [h1]
    simp [h]
theorem body_not2 {t : List UInt8} (h : t.length < 5 ∨ ¬ 16 * num t 1 4 = t.length - 5) : ¬ bodyOk 2 t := by
  rintro (⟨h1, _⟩ | ⟨_, h1, _, h2⟩ | ⟨h1, _⟩)
  · omega
  · omega
  · omega
/-- what the document reads. -/
def RefH (lo k : Nat) (l : List UInt8) (e : Ending) (w' : World) : Prop :=
  (¬ Acc k l ∧ e = noAns) ∨ (∃ b, l = [b] ∧ b ≠ 0 ∧ e = anAns (b.toNat : Int) false 0 nil_ 0) ∨
    (∃ t way, l = 0 :: t ∧ bodyOk k t ∧ e = anAns 0 (if k = 3 then false else t.head? == some 1) (if k = 1 then num t 1 8 else 0) way (if k = 3 then (t.headD 0).toNat else 0) ∧
      (k ≠ 2 → way = nil_) ∧ (k = 2 → w'.ownsRow lo 71 4 way (num t 1 4) (cellsL (parse (t.drop 5) (num t 1 4)))))

theorem fine5 {w W : World} (h : Below w.heap.size w W) (v0 v1 v2 v3 v4 : Value) : Below w.heap.size w (((((W.setCell ⟨w.heap.size, 0, none⟩ v0).setCell ⟨w.heap.size, 1, none⟩ v1).setCell ⟨w.heap.size, 2, none⟩ v2).setCell ⟨w.heap.size, 3, none⟩ v3).setCell ⟨w.heap.size, 4, none⟩ v4) :=
  ((((h.setCell (p := ⟨w.heap.size, 0, none⟩) (Nat.le_refl _) _).setCell (p := ⟨w.heap.size, 1, none⟩) (Nat.le_refl _) _).setCell (p := ⟨w.heap.size, 2, none⟩) (Nat.le_refl _) _).setCell (p := ⟨w.heap.size, 3, none⟩) (Nat.le_refl _) _).setCell (p := ⟨w.heap.size, 4, none⟩) (Nat.le_refl _) _
theorem set5 {W : World} {g : Nat} {t : TypeId} {x0 x1 x2 x3 x4 : Value} (h : Blk W g t #[x0, x1, x2, x3, x4]) (v0 v1 v2 v3 v4 : Value) : Blk (((((W.setCell ⟨g, 0, none⟩ v0).setCell ⟨g, 1, none⟩ v1).setCell ⟨g, 2, none⟩ v2).setCell ⟨g, 3, none⟩ v3).setCell ⟨g, 4, none⟩ v4) g t #[v0, v1, v2, v3, v4] :=
  ((((h.set_ 0 v0).set_ 1 v1).set_ 2 v2).set_ 3 v3).set_ 4 v4

theorem wrap64 (x : Int) (h0 : 0 ≤ x) (h1 : x ≤ 9223372036854775807) : IntKind.i64.wrap x = x := by
  simp [IntKind.wrap, IntKind.signed, IntKind.bits]
  omega
theorem wrap32 (x : Nat) (h1 : x ≤ 4294967295) : IntKind.u32.wrap (x : Int) = x := by
  simp [IntKind.wrap, IntKind.signed, IntKind.bits]
  omega
abbrev edV (y1 y2 y3 : Int) : List Value := [.int .u32 y1, .int .u32 y2, .int .u64 y3, .int .u32 4294967295]
theorem new_edV (W : World) (y1 y2 y3 : Int) : ∀ j u, (edV y1 y2 y3)[j]? = some u → (W.alloc (.cells #[.int .u32 y1, .int .u32 y2, .int .u64 y3, .int .u32 4294967295] 71)).drew.cell? ((⟨W.heap.size, 0, none⟩ : Addr).add j) = some u := by
  intro j u h
  have hadd : (⟨W.heap.size, 0, none⟩ : Addr).add j = ⟨W.heap.size, j, none⟩ := by unfold Addr.add; split <;> simp_all
  rw [hadd]
  have := (Blk.new W 71 #[.int .u32 y1, .int .u32 y2, .int .u64 y3, .int .u32 4294967295]).cell j
  exact this.trans (by simpa [edV] using h)
theorem edV_ones (y1 y2 y3 : Int) : ∀ u ∈ edV y1 y2 y3, u.oneCell' = true := by
  intro u hu
  simp [edV] at hu
  rcases hu with rfl | rfl | rfl | rfl <;> rfl
theorem ed_at (b b1 : UInt8) (t : List UInt8) (j : Nat) : (⟨num (b :: b1 :: t) (6 + 16 * j) 4, num (b :: b1 :: t) (6 + 16 * j + 4) 4, num (b :: b1 :: t) (6 + 16 * j + 8) 8, 4294967295⟩ : Ed) = edAt (((b1 :: t).drop 5).drop (16 * j)) := by
  have h : ((b1 :: t).drop 5).drop (16 * j) = (b :: b1 :: t).drop (6 + 16 * j) := by
    rw [List.drop_drop, show 6 + 16 * j = (5 + 16 * j) + 1 by omega, List.drop_succ_cons]
  rw [h]
  unfold edAt
  simp only [List.drop_drop]
  rw [show 6 + 16 * j + 8 = 6 + 16 * j + (4 + 4) from rfl]
  simp only [num, List.drop_drop, List.drop_zero, Nat.add_zero, Nat.add_assoc]
theorem ref_grown {w W w7 : World} {g2 n : Nat} {o : Obj} {v : Value} {xs : List Value} {R A : Array Value} (hr : W.ownsRow w.heap.size 71 4 v n xs) (hR : Blk W g2 37 R) (hA : Blk W w.heap.size 37 A) (hb : Below w.heap.size w W) (hg : (W.alloc o).drew.grownBy w7 v.ownBlock) : Blk w7 g2 37 R ∧ Blk w7 w.heap.size 37 A ∧ Below w.heap.size w w7 := by
  have hbd := ((Below.refl W.heap.size W).alloc (Nat.le_refl _) o).drew
  have hr1 := own_row_below hr hbd
  have hR1 := hR.below hbd hR.lt
  have hA1 := hA.below hbd hA.lt
  refine ⟨(hg.block g2 hR1.lt (row_ne hr1 hR1 (by decide))).trans hR1, (hg.block _ hA1.lt (row_ne hr1 hA1 (by decide))).trans hA1, ?_⟩
  exact below_of_grown ((hb.alloc hb.size o).drew) hg (Nat.le_refl _) (fun k hk => (hr.lt k hk).1)
theorem ref_step {w w7 : World} {g2 j x : Nat} {v' : Value} {fd : Bool} {L : List UInt8} {E : Ed} {v : Value} (ip : Int) (hip : ip = 6 + 16 * (j : Int)) (hjx : j < x) (hne : g2 ≠ w.heap.size) (hE : E = edAt (L.drop (16 * j)))
    (hO : w7.ownsRow w.heap.size 71 4 v' (j + 1) (cellsL (parse L j) ++ Ed.cells E))
    (hW : Blk w7 g2 37 #[.int .i64 0, .bool fd, .int .u64 0, v, .int .u8 0] ∧ Blk w7 w.heap.size 37 #[.int .i64 0, .bool false, .int .u64 0, .slice none 0 0, .int .u8 0] ∧ Below w.heap.size w w7) (hlt : w.heap.size ≤ g2) :
    ∃ (j' : Nat) (v'' : Value), j' ≤ x ∧ Value.int .i64 (ip + 16) = .int .i64 (6 + 16 * (j' : Int)) ∧ (w7.setCell ⟨g2, 3, none⟩ v').ownsRow w.heap.size 71 4 v'' j' (cellsL (parse L j')) ∧ Blk (w7.setCell ⟨g2, 3, none⟩ v') g2 37 #[.int .i64 0, .bool fd, .int .u64 0, v'', .int .u8 0] ∧ Blk (w7.setCell ⟨g2, 3, none⟩ v') w.heap.size 37 #[.int .i64 0, .bool false, .int .u64 0, .slice none 0 0, .int .u8 0] ∧ Below w.heap.size w (w7.setCell ⟨g2, 3, none⟩ v') := by
  refine ⟨j + 1, v', hjx, by congr 1; omega, ?_, hW.1.set_ 3 v', hW.2.1.far (p := ⟨g2, 3, none⟩) (fun h => hne h.symm) v', hW.2.2.setCell (p := ⟨g2, 3, none⟩) hlt _⟩
  rw [parse_succ, cellsL_snoc, ← hE]
  exact own_row_other hO hW.1 (by decide) (grown_two (World.grownBy.refl w7 (some g2)) 3 v')

set_option maxRecDepth 100000 in
set_option maxHeartbeats 6400000 in
theorem refreadans_any (k n c : Nat) (A : Option Addr) (l : List UInt8) (w : World) (hk : k = 1 ∨ k = 2 ∨ k = 3) (hl : l.length = n) (hb : Bytes w w.heap.size A l) (hn : n ≤ 1048576) (hnc : n ≤ c) (hcm : c ≤ maxLen) :
    Calls Try.prog 24 #[.int .u8 k, .slice A n c] w fun e w' => RefH w.heap.size k l e w' ∧ Below w.heap.size w w' := by
  obtain ⟨i0, hi0, hz0, hz1, hz2⟩ := info_parts edge_info
  have HL := Lib.hid hl
  have HB := Lib.hid hb
  have HK : Hid (∀ W, Calls Try.prog 31 #[.int .u8 (k : Int)] W fun e w' => e = .returned (.bool true) ∧ W = w') := by
    have h : ∀ W, Calls Try.prog 31 #[.int .u8 (k : Int)] W fun e w' => e = .returned (.bool true) ∧ W = w' := fun W => by
      rcases hk with rfl | rfl | rfl
      · exact known_yes 1 W (.inl rfl)
      · exact known_yes 2 W (.inr (.inl rfl))
      · exact known_yes 3 W (.inr (.inr rfl))
    exact h
  have hk1 : 1 ≤ k := by omega
  have hk3' : k ≤ 3 := by omega
  clear hl hb hk
  have Z0 : Hid (Below w.heap.size w (w.alloc (.cells #[.int .i64 0, .bool false, .int .u64 0, .slice none 0 0, .int .u8 0] 37))) := by
    have h : Below w.heap.size w (w.alloc (.cells #[.int .i64 0, .bool false, .int .u64 0, .slice none 0 0, .int .u8 0] 37)) := (Below.refl _ _).alloc (Nat.le_refl _) _
    exact h
  have KA := Lib.hid ((Blk.new w 37 #[.int .i64 0, .bool false, .int .u64 0, .slice none 0 0, .int .u8 0]).alloc (.cells #[.int .i64 0, .bool false, .int .u64 0, .slice none 0 0, .int .u8 0] 37))
  have KN : Hid (Blk ((w.alloc (.cells #[.int .i64 0, .bool false, .int .u64 0, .slice none 0 0, .int .u8 0] 37)).alloc (.cells #[.int .i64 0, .bool false, .int .u64 0, .slice none 0 0, .int .u8 0] 37)) (w.heap.size + 1) 37 #[.int .i64 0, .bool false, .int .u64 0, .slice none 0 0, .int .u8 0]) := by
    have h := Blk.new (w.alloc (.cells #[.int .i64 0, .bool false, .int .u64 0, .slice none 0 0, .int .u8 0] 37)) 37 #[.int .i64 0, .bool false, .int .u64 0, .slice none 0 0, .int .u8 0]
    rw [World.size_alloc] at h
    exact h
  have Z1 := Lib.hid (Z0.out.alloc Z0.out.size (.cells #[.int .i64 0, .bool false, .int .u64 0, .slice none 0 0, .int .u8 0] 37))
  go_enter Try.func24, Try.ntmps24
  go_upto_region 2 with (fail)
  generalize hgw : (w.alloc (.cells #[.int .i64 0, .bool false, .int .u64 0, .slice none 0 0, .int .u8 0] 37)).alloc (.cells #[.int .i64 0, .bool false, .int .u64 0, .slice none 0 0, .int .u8 0] 37) = w1 at *
  have hsz1 : w1.heap.size = w.heap.size + 2 := by rw [← hgw]; simp
  clear hgw
  rcases l with _ | ⟨b, t⟩
  · obtain rfl : n = 0 := HL.out.symm
    go_wp2_with fail
    refine (HK.out _).mono ?_
    rintro e w1' ⟨rfl, rfl⟩
    have s0 : w1.cell? ⟨w.heap.size + 1, 0, none⟩ = some (.int .i64 0) := (KN.out.cell 0).trans rfl
    have s1 : w1.cell? ⟨w.heap.size + 1, 1, none⟩ = some (.bool false) := (KN.out.cell 1).trans rfl
    have s2 : w1.cell? ⟨w.heap.size + 1, 2, none⟩ = some (.int .u64 0) := (KN.out.cell 2).trans rfl
    have s3 : w1.cell? ⟨w.heap.size + 1, 3, none⟩ = some (.slice none 0 0) := (KN.out.cell 3).trans rfl
    have s4 : w1.cell? ⟨w.heap.size + 1, 4, none⟩ = some (.int .u8 0) := (KN.out.cell 4).trans rfl
    have a0 : w1.cell? ⟨w.heap.size, 0, none⟩ = some (.int .i64 0) := (KA.out.cell 0).trans rfl
    have a1 : w1.cell? ⟨w.heap.size, 1, none⟩ = some (.bool false) := (KA.out.cell 1).trans rfl
    have a2 : w1.cell? ⟨w.heap.size, 2, none⟩ = some (.int .u64 0) := (KA.out.cell 2).trans rfl
    have a3 : w1.cell? ⟨w.heap.size, 3, none⟩ = some (.slice none 0 0) := (KA.out.cell 3).trans rfl
    have a4 : w1.cell? ⟨w.heap.size, 4, none⟩ = some (.int .u8 0) := (KA.out.cell 4).trans rfl
    have f0 := KA.out.frozen 0
    have f1 := KA.out.frozen 1
    have f2 := KA.out.frozen 2
    have f3 := KA.out.frozen 3
    have f4 := KA.out.frozen 4
    go_wp2_with fail
    refine bodyPost_ret (resCT rfl _ _ w.heap.size 37 (repC 0 false 0 nil_ 0) _ rfl ?_ Try.underlying37 rfl (by kernel_rfl)) rfl ⟨.inl ⟨not_acc_nil _, rfl⟩, fine5 Z1.out _ _ _ _ _⟩
    exact set5 KA.out _ _ _ _ _
  · obtain ⟨m, hmt⟩ : ∃ m, t.length = m := ⟨_, rfl⟩
    obtain rfl : n = m + 1 := by have := HL.out; simp at this; omega
    have HM := Lib.hid hmt
    obtain ⟨bb, off, rfl, hbB, hcell⟩ := HB.out.open_ HL.out (by omega)
    have HCS := Lib.hid hcell
    have HC0 := Lib.hid (hcell 0 (by simp))
    have d0 : w1.cell? ⟨bb, off, none⟩ = some (.int .u8 (b.toNat : Int)) := (Z1.out.cell (p := ⟨bb, off, none⟩) hbB).trans HC0.out
    have hne : ((m : Int) + 1 == 0) = false := by simp; omega
    have KR : Hid (Blk (w1.alloc (.cells #[.int .i64 (b.toNat : Int), .bool false, .int .u64 0, .slice none 0 0, .int .u8 0] 37)) (w.heap.size + 2) 37 #[.int .i64 (b.toNat : Int), .bool false, .int .u64 0, .slice none 0 0, .int .u8 0]) := by
      have h := Blk.new w1 37 #[.int .i64 (b.toNat : Int), .bool false, .int .u64 0, .slice none 0 0, .int .u8 0]
      rw [hsz1] at h
      exact h
    have KA2 := Lib.hid (KA.out.alloc (.cells #[.int .i64 (b.toNat : Int), .bool false, .int .u64 0, .slice none 0 0, .int .u8 0] 37))
    have KN2 := Lib.hid (KN.out.alloc (.cells #[.int .i64 (b.toNat : Int), .bool false, .int .u64 0, .slice none 0 0, .int .u8 0] 37))
    have Z2 := Lib.hid (Z1.out.alloc Z1.out.size (.cells #[.int .i64 (b.toNat : Int), .bool false, .int .u64 0, .slice none 0 0, .int .u8 0] 37))
    have hbl := b.toNat_lt
    clear hcell hmt
    go_wp2_with fail
    refine (HK.out _).mono ?_
    rintro e w1' ⟨rfl, rfl⟩
    go_upto_region 5 with (fail)
    clear d0 KA KN Z0
    generalize w1.alloc (.cells #[.int .i64 (b.toNat : Int), .bool false, .int .u64 0, .slice none 0 0, .int .u8 0] 37) = w2 at *
    have d0 : w2.cell? ⟨bb, off, none⟩ = some (.int .u8 (b.toNat : Int)) := (Z2.out.cell (p := ⟨bb, off, none⟩) hbB).trans HC0.out
    clear HK
    by_cases hb : b = 0
    · subst hb
      by_cases hm : m = 0
      · subst hm
        obtain rfl := List.eq_nil_of_length_eq_zero HM.out
        have s0 : w2.cell? ⟨w.heap.size + 1, 0, none⟩ = some (.int .i64 0) := (KN2.out.cell 0).trans rfl
        have s1 : w2.cell? ⟨w.heap.size + 1, 1, none⟩ = some (.bool false) := (KN2.out.cell 1).trans rfl
        have s2 : w2.cell? ⟨w.heap.size + 1, 2, none⟩ = some (.int .u64 0) := (KN2.out.cell 2).trans rfl
        have s3 : w2.cell? ⟨w.heap.size + 1, 3, none⟩ = some (.slice none 0 0) := (KN2.out.cell 3).trans rfl
        have s4 : w2.cell? ⟨w.heap.size + 1, 4, none⟩ = some (.int .u8 0) := (KN2.out.cell 4).trans rfl
        have a0 : w2.cell? ⟨w.heap.size, 0, none⟩ = some (.int .i64 0) := (KA2.out.cell 0).trans rfl
        have a1 : w2.cell? ⟨w.heap.size, 1, none⟩ = some (.bool false) := (KA2.out.cell 1).trans rfl
        have a2 : w2.cell? ⟨w.heap.size, 2, none⟩ = some (.int .u64 0) := (KA2.out.cell 2).trans rfl
        have a3 : w2.cell? ⟨w.heap.size, 3, none⟩ = some (.slice none 0 0) := (KA2.out.cell 3).trans rfl
        have a4 : w2.cell? ⟨w.heap.size, 4, none⟩ = some (.int .u8 0) := (KA2.out.cell 4).trans rfl
        have f0 := KA2.out.frozen 0
        have f1 := KA2.out.frozen 1
        have f2 := KA2.out.frozen 2
        have f3 := KA2.out.frozen 3
        have f4 := KA2.out.frozen 4
        go_wp2_with fail
        refine bodyPost_ret (resCT rfl _ _ w.heap.size 37 (repC 0 false 0 nil_ 0) _ rfl ?_ Try.underlying37 rfl (by kernel_rfl)) rfl ⟨.inl ⟨fun h => body_nil (acc_zero.1 h), rfl⟩, fine5 Z2.out _ _ _ _ _⟩
        exact set5 KA2.out _ _ _ _ _
      · rcases t with _ | ⟨b1, t1⟩
        · have := HM.out; simp at this; omega
        · have hlt2 : ¬ (m : Int) + 1 < 2 := by omega
          have HC1 := Lib.hid (HCS.out 1 (by simp))
          have d1 : w2.cell? ⟨bb, off + 1, none⟩ = some (.int .u8 (b1.toNat : Int)) := (Z2.out.cell (p := ⟨bb, off + 1, none⟩) hbB).trans HC1.out
          have hb1l := b1.toNat_lt
          by_cases h3 : k = 3
          · subst h3
            have KR3 := Lib.hid (KR.out.set_ 4 (.int .u8 (b1.toNat : Int)))
            have KA3 := Lib.hid (KA2.out.far (p := ⟨w.heap.size + 2, 4, none⟩) (by simp) (.int .u8 (b1.toNat : Int)))
            have KN3 := Lib.hid (KN2.out.far (p := ⟨w.heap.size + 2, 4, none⟩) (by simp) (.int .u8 (b1.toNat : Int)))
            have Z3 := Lib.hid (Z2.out.setCell (p := ⟨w.heap.size + 2, 4, none⟩) (by simp) (.int .u8 (b1.toNat : Int)))
            have x4 : w2.cell? ⟨w.heap.size + 2, 4, none⟩ = some (.int .u8 0) := (KR.out.cell 4).trans rfl
            have y4 := KR.out.frozen 4
            go_upto_region 13 with (fail)
            clear x4 y4 d0 d1
            generalize w2.setCell ⟨w.heap.size + 2, 4, none⟩ (.int .u8 (b1.toNat : Int)) = w3 at *
            by_cases hm1 : m = 1
            · subst hm1
              have s0 : w3.cell? ⟨w.heap.size + 2, 0, none⟩ = some (.int .i64 0) := (KR3.out.cell 0).trans rfl
              have s1 : w3.cell? ⟨w.heap.size + 2, 1, none⟩ = some (.bool false) := (KR3.out.cell 1).trans rfl
              have s2 : w3.cell? ⟨w.heap.size + 2, 2, none⟩ = some (.int .u64 0) := (KR3.out.cell 2).trans rfl
              have s3 : w3.cell? ⟨w.heap.size + 2, 3, none⟩ = some (.slice none 0 0) := (KR3.out.cell 3).trans rfl
              have s4 : w3.cell? ⟨w.heap.size + 2, 4, none⟩ = some (.int .u8 (b1.toNat : Int)) := (KR3.out.cell 4).trans rfl
              have a0 : w3.cell? ⟨w.heap.size, 0, none⟩ = some (.int .i64 0) := (KA3.out.cell 0).trans rfl
              have a1 : w3.cell? ⟨w.heap.size, 1, none⟩ = some (.bool false) := (KA3.out.cell 1).trans rfl
              have a2 : w3.cell? ⟨w.heap.size, 2, none⟩ = some (.int .u64 0) := (KA3.out.cell 2).trans rfl
              have a3 : w3.cell? ⟨w.heap.size, 3, none⟩ = some (.slice none 0 0) := (KA3.out.cell 3).trans rfl
              have a4 : w3.cell? ⟨w.heap.size, 4, none⟩ = some (.int .u8 0) := (KA3.out.cell 4).trans rfl
              have f0 := KA3.out.frozen 0
              have f1 := KA3.out.frozen 1
              have f2 := KA3.out.frozen 2
              have f3 := KA3.out.frozen 3
              have f4 := KA3.out.frozen 4
              go_wp2_with fail
              refine bodyPost_ret (resCT rfl _ _ w.heap.size 37 (repC 0 false 0 nil_ b1.toNat) _ rfl ?_ Try.underlying37 rfl (by kernel_rfl)) rfl ⟨.inr (.inr ⟨b1 :: t1, nil_, rfl, .inr (.inr ⟨rfl, HM.out⟩), rfl, fun _ => rfl, fun h => by omega⟩), fine5 Z3.out _ _ _ _ _⟩
              exact set5 KA3.out _ _ _ _ _
            · have hq : ((m : Int) + 1 == 2) = false := by simp; omega
              have s0 : w3.cell? ⟨w.heap.size + 1, 0, none⟩ = some (.int .i64 0) := (KN3.out.cell 0).trans rfl
              have s1 : w3.cell? ⟨w.heap.size + 1, 1, none⟩ = some (.bool false) := (KN3.out.cell 1).trans rfl
              have s2 : w3.cell? ⟨w.heap.size + 1, 2, none⟩ = some (.int .u64 0) := (KN3.out.cell 2).trans rfl
              have s3 : w3.cell? ⟨w.heap.size + 1, 3, none⟩ = some (.slice none 0 0) := (KN3.out.cell 3).trans rfl
              have s4 : w3.cell? ⟨w.heap.size + 1, 4, none⟩ = some (.int .u8 0) := (KN3.out.cell 4).trans rfl
              have a0 : w3.cell? ⟨w.heap.size, 0, none⟩ = some (.int .i64 0) := (KA3.out.cell 0).trans rfl
              have a1 : w3.cell? ⟨w.heap.size, 1, none⟩ = some (.bool false) := (KA3.out.cell 1).trans rfl
              have a2 : w3.cell? ⟨w.heap.size, 2, none⟩ = some (.int .u64 0) := (KA3.out.cell 2).trans rfl
              have a3 : w3.cell? ⟨w.heap.size, 3, none⟩ = some (.slice none 0 0) := (KA3.out.cell 3).trans rfl
              have a4 : w3.cell? ⟨w.heap.size, 4, none⟩ = some (.int .u8 0) := (KA3.out.cell 4).trans rfl
              have f0 := KA3.out.frozen 0
              have f1 := KA3.out.frozen 1
              have f2 := KA3.out.frozen 2
              have f3 := KA3.out.frozen 3
              have f4 := KA3.out.frozen 4
              go_wp2_with fail
              refine bodyPost_ret (resCT rfl _ _ w.heap.size 37 (repC 0 false 0 nil_ 0) _ rfl ?_ Try.underlying37 rfl (by kernel_rfl)) rfl ⟨.inl ⟨fun h => body_not3 (by have := HM.out; omega) (acc_zero.1 h), rfl⟩, fine5 Z3.out _ _ _ _ _⟩
              exact set5 KA3.out _ _ _ _ _
          · have hk3 : ((k : Int) == 3) = false := by simp; omega
            by_cases hb1 : 1 < b1.toNat
            · have hb1i : (1 : Int) < (b1.toNat : Int) := by omega
              have s0 : w2.cell? ⟨w.heap.size + 1, 0, none⟩ = some (.int .i64 0) := (KN2.out.cell 0).trans rfl
              have s1 : w2.cell? ⟨w.heap.size + 1, 1, none⟩ = some (.bool false) := (KN2.out.cell 1).trans rfl
              have s2 : w2.cell? ⟨w.heap.size + 1, 2, none⟩ = some (.int .u64 0) := (KN2.out.cell 2).trans rfl
              have s3 : w2.cell? ⟨w.heap.size + 1, 3, none⟩ = some (.slice none 0 0) := (KN2.out.cell 3).trans rfl
              have s4 : w2.cell? ⟨w.heap.size + 1, 4, none⟩ = some (.int .u8 0) := (KN2.out.cell 4).trans rfl
              have a0 : w2.cell? ⟨w.heap.size, 0, none⟩ = some (.int .i64 0) := (KA2.out.cell 0).trans rfl
              have a1 : w2.cell? ⟨w.heap.size, 1, none⟩ = some (.bool false) := (KA2.out.cell 1).trans rfl
              have a2 : w2.cell? ⟨w.heap.size, 2, none⟩ = some (.int .u64 0) := (KA2.out.cell 2).trans rfl
              have a3 : w2.cell? ⟨w.heap.size, 3, none⟩ = some (.slice none 0 0) := (KA2.out.cell 3).trans rfl
              have a4 : w2.cell? ⟨w.heap.size, 4, none⟩ = some (.int .u8 0) := (KA2.out.cell 4).trans rfl
              have f0 := KA2.out.frozen 0
              have f1 := KA2.out.frozen 1
              have f2 := KA2.out.frozen 2
              have f3 := KA2.out.frozen 3
              have f4 := KA2.out.frozen 4
              go_wp2_with fail
              refine bodyPost_ret (resCT rfl _ _ w.heap.size 37 (repC 0 false 0 nil_ 0) _ rfl ?_ Try.underlying37 rfl (by kernel_rfl)) rfl ⟨.inl ⟨fun h => body_head hb1 h3 (acc_zero.1 h), rfl⟩, fine5 Z2.out _ _ _ _ _⟩
              exact set5 KA2.out _ _ _ _ _
            · have hb1i : ¬ (1 : Int) < (b1.toNat : Int) := by omega
              have KR3 : Hid (∀ fd, Blk (w2.setCell ⟨w.heap.size + 2, 1, none⟩ (.bool fd)) (w.heap.size + 2) 37 #[.int .i64 0, .bool fd, .int .u64 0, .slice none 0 0, .int .u8 0]) := Lib.hid fun fd => KR.out.set_ 1 (.bool fd)
              have KA3 := Lib.hid (fun fd : Bool => KA2.out.far (p := ⟨w.heap.size + 2, 1, none⟩) (by simp) (.bool fd))
              have KN3 := Lib.hid (fun fd : Bool => KN2.out.far (p := ⟨w.heap.size + 2, 1, none⟩) (by simp) (.bool fd))
              have Z3 := Lib.hid (fun fd : Bool => Z2.out.setCell (p := ⟨w.heap.size + 2, 1, none⟩) (by simp) (.bool fd))
              have x1 : w2.cell? ⟨w.heap.size + 2, 1, none⟩ = some (.bool false) := (KR.out.cell 1).trans rfl
              have y1 := KR.out.frozen 1
              go_upto_region 17 with (fail)
              obtain ⟨fd, hfd⟩ : ∃ fd : Bool, fd = ((b1.toNat : Int) == 1) := ⟨_, rfl⟩
              rw [← hfd]
              have KR4 := Lib.hid (KR3.out fd)
              have KA4 := Lib.hid (KA3.out fd)
              have KN4 := Lib.hid (KN3.out fd)
              have Z4 := Lib.hid (Z3.out fd)
              have HFD : Hid (fd = ((b1 :: t1).head? == some 1)) := Lib.hid (hfd.trans (head_one b1 t1))
              have HB1 : Hid ((b1 :: t1).headD 0 ≤ 1) := Lib.hid (show b1 ≤ 1 by rw [UInt8.le_iff_toNat_le]; simp; omega)
              clear KR3 KA3 KN3 Z3 x1 y1 d0 d1 hfd KR KA2 KN2
              generalize w2.setCell ⟨w.heap.size + 2, 1, none⟩ (.bool fd) = w4 at *
              by_cases h1 : k = 1
              · subst h1
                by_cases hm9 : m = 9
                · subst hm9
                  go_upto_region 20 with (fail)
                  go_wp2_with fail
                  refine (refnumber_any (some ⟨bb, off, none⟩) 10 c 2 8 (0 :: b1 :: t1) _ HL.out ((HB.out.below Z4.out).more Z4.out.size) (by omega) sz8 (by omega)).mono ?_
                  rintro e w4' ⟨rfl, rfl⟩
                  rw [show num (0 :: b1 :: t1) 2 8 = num (b1 :: t1) 1 8 from rfl]
                  generalize hx : num (b1 :: t1) 1 8 = x at *
                  have HX := Lib.hid hx
                  clear hx
                  have KR5 : Hid (Blk (w4.setCell ⟨w.heap.size + 2, 2, none⟩ (.int .u64 x)) (w.heap.size + 2) 37 #[.int .i64 0, .bool fd, .int .u64 x, .slice none 0 0, .int .u8 0]) := Lib.hid (KR4.out.set_ 2 (.int .u64 x))
                  have KA5 := Lib.hid (KA4.out.far (p := ⟨w.heap.size + 2, 2, none⟩) (by simp) (.int .u64 x))
                  have Z5 := Lib.hid (Z4.out.setCell (p := ⟨w.heap.size + 2, 2, none⟩) (by simp) (.int .u64 x))
                  have x2 : w4.cell? ⟨w.heap.size + 2, 2, none⟩ = some (.int .u64 0) := (KR4.out.cell 2).trans rfl
                  have y2 := KR4.out.frozen 2
                  go_upto_region 21 with (fail)
                  clear x2 y2
                  generalize w4.setCell ⟨w.heap.size + 2, 2, none⟩ (.int .u64 x) = w5 at *
                  have s0 : w5.cell? ⟨w.heap.size + 2, 0, none⟩ = some (.int .i64 0) := (KR5.out.cell 0).trans rfl
                  have s1 : w5.cell? ⟨w.heap.size + 2, 1, none⟩ = some (.bool fd) := (KR5.out.cell 1).trans rfl
                  have s2 : w5.cell? ⟨w.heap.size + 2, 2, none⟩ = some (.int .u64 x) := (KR5.out.cell 2).trans rfl
                  have s3 : w5.cell? ⟨w.heap.size + 2, 3, none⟩ = some (.slice none 0 0) := (KR5.out.cell 3).trans rfl
                  have s4 : w5.cell? ⟨w.heap.size + 2, 4, none⟩ = some (.int .u8 0) := (KR5.out.cell 4).trans rfl
                  have a0 : w5.cell? ⟨w.heap.size, 0, none⟩ = some (.int .i64 0) := (KA5.out.cell 0).trans rfl
                  have a1 : w5.cell? ⟨w.heap.size, 1, none⟩ = some (.bool false) := (KA5.out.cell 1).trans rfl
                  have a2 : w5.cell? ⟨w.heap.size, 2, none⟩ = some (.int .u64 0) := (KA5.out.cell 2).trans rfl
                  have a3 : w5.cell? ⟨w.heap.size, 3, none⟩ = some (.slice none 0 0) := (KA5.out.cell 3).trans rfl
                  have a4 : w5.cell? ⟨w.heap.size, 4, none⟩ = some (.int .u8 0) := (KA5.out.cell 4).trans rfl
                  have f0 := KA5.out.frozen 0
                  have f1 := KA5.out.frozen 1
                  have f2 := KA5.out.frozen 2
                  have f3 := KA5.out.frozen 3
                  have f4 := KA5.out.frozen 4
                  go_wp2_with fail
                  refine bodyPost_ret (resCT rfl _ _ w.heap.size 37 (repC 0 fd x nil_ 0) _ rfl ?_ Try.underlying37 rfl (by kernel_rfl)) rfl ⟨.inr (.inr ⟨b1 :: t1, nil_, rfl, .inl ⟨rfl, HM.out, HB1.out⟩, by rw [HFD.out, ← HX.out]; rfl, fun _ => rfl, fun h => by omega⟩), fine5 Z5.out _ _ _ _ _⟩
                  exact set5 KA5.out _ _ _ _ _
                · have hm9q : ((m : Int) + 1 == 10) = false := by simp; omega
                  have s0 : w4.cell? ⟨w.heap.size + 1, 0, none⟩ = some (.int .i64 0) := (KN4.out.cell 0).trans rfl
                  have s1 : w4.cell? ⟨w.heap.size + 1, 1, none⟩ = some (.bool false) := (KN4.out.cell 1).trans rfl
                  have s2 : w4.cell? ⟨w.heap.size + 1, 2, none⟩ = some (.int .u64 0) := (KN4.out.cell 2).trans rfl
                  have s3 : w4.cell? ⟨w.heap.size + 1, 3, none⟩ = some (.slice none 0 0) := (KN4.out.cell 3).trans rfl
                  have s4 : w4.cell? ⟨w.heap.size + 1, 4, none⟩ = some (.int .u8 0) := (KN4.out.cell 4).trans rfl
                  have a0 : w4.cell? ⟨w.heap.size, 0, none⟩ = some (.int .i64 0) := (KA4.out.cell 0).trans rfl
                  have a1 : w4.cell? ⟨w.heap.size, 1, none⟩ = some (.bool false) := (KA4.out.cell 1).trans rfl
                  have a2 : w4.cell? ⟨w.heap.size, 2, none⟩ = some (.int .u64 0) := (KA4.out.cell 2).trans rfl
                  have a3 : w4.cell? ⟨w.heap.size, 3, none⟩ = some (.slice none 0 0) := (KA4.out.cell 3).trans rfl
                  have a4 : w4.cell? ⟨w.heap.size, 4, none⟩ = some (.int .u8 0) := (KA4.out.cell 4).trans rfl
                  have f0 := KA4.out.frozen 0
                  have f1 := KA4.out.frozen 1
                  have f2 := KA4.out.frozen 2
                  have f3 := KA4.out.frozen 3
                  have f4 := KA4.out.frozen 4
                  go_wp2_with fail
                  refine bodyPost_ret (resCT rfl _ _ w.heap.size 37 (repC 0 false 0 nil_ 0) _ rfl ?_ Try.underlying37 rfl (by kernel_rfl)) rfl ⟨.inl ⟨fun h => body_not9 (by rw [HM.out]; exact hm9) (acc_zero.1 h), rfl⟩, fine5 Z4.out _ _ _ _ _⟩
                  exact set5 KA4.out _ _ _ _ _
              · have hk1q : ((k : Int) == 1) = false := by simp; omega
                obtain rfl : k = 2 := by omega
                by_cases hm5 : m < 5
                · have hm5i : (m : Int) + 1 < 6 := by omega
                  have s0 : w4.cell? ⟨w.heap.size + 1, 0, none⟩ = some (.int .i64 0) := (KN4.out.cell 0).trans rfl
                  have s1 : w4.cell? ⟨w.heap.size + 1, 1, none⟩ = some (.bool false) := (KN4.out.cell 1).trans rfl
                  have s2 : w4.cell? ⟨w.heap.size + 1, 2, none⟩ = some (.int .u64 0) := (KN4.out.cell 2).trans rfl
                  have s3 : w4.cell? ⟨w.heap.size + 1, 3, none⟩ = some (.slice none 0 0) := (KN4.out.cell 3).trans rfl
                  have s4 : w4.cell? ⟨w.heap.size + 1, 4, none⟩ = some (.int .u8 0) := (KN4.out.cell 4).trans rfl
                  have a0 : w4.cell? ⟨w.heap.size, 0, none⟩ = some (.int .i64 0) := (KA4.out.cell 0).trans rfl
                  have a1 : w4.cell? ⟨w.heap.size, 1, none⟩ = some (.bool false) := (KA4.out.cell 1).trans rfl
                  have a2 : w4.cell? ⟨w.heap.size, 2, none⟩ = some (.int .u64 0) := (KA4.out.cell 2).trans rfl
                  have a3 : w4.cell? ⟨w.heap.size, 3, none⟩ = some (.slice none 0 0) := (KA4.out.cell 3).trans rfl
                  have a4 : w4.cell? ⟨w.heap.size, 4, none⟩ = some (.int .u8 0) := (KA4.out.cell 4).trans rfl
                  have f0 := KA4.out.frozen 0
                  have f1 := KA4.out.frozen 1
                  have f2 := KA4.out.frozen 2
                  have f3 := KA4.out.frozen 3
                  have f4 := KA4.out.frozen 4
                  go_wp2_with fail
                  refine bodyPost_ret (resCT rfl _ _ w.heap.size 37 (repC 0 false 0 nil_ 0) _ rfl ?_ Try.underlying37 rfl (by kernel_rfl)) rfl ⟨.inl ⟨fun h => body_not2 (.inl (by rw [HM.out]; exact hm5)) (acc_zero.1 h), rfl⟩, fine5 Z4.out _ _ _ _ _⟩
                  exact set5 KA4.out _ _ _ _ _
                · have hm5i : ¬ (m : Int) + 1 < 6 := by omega
                  go_wp2_with fail
                  refine (refnumber_any (some ⟨bb, off, none⟩) (m + 1) c 2 4 (0 :: b1 :: t1) _ HL.out ((HB.out.below Z4.out).more Z4.out.size) (by omega) sz4 (by omega)).mono ?_
                  rintro e w4' ⟨rfl, rfl⟩
                  have hxl := num32 (b1 :: t1) 1
                  rw [show num (0 :: b1 :: t1) 2 4 = num (b1 :: t1) 1 4 from rfl]
                  generalize hx : num (b1 :: t1) 1 4 = x at *
                  have HX := Lib.hid hx
                  clear hx
                  by_cases hxm : 16 * x = m - 5
                  · have hxi : 16 * (x : Int) = (m : Int) + 1 - 6 := by omega
                    go_upto_region 24 with (fail)
                    go_wp2_with fail
                    go_loopw [8] (fun i wr => ∃ (j : Nat) (v : Value), j ≤ x ∧ i = .int .i64 (6 + 16 * (j : Int)) ∧ wr.ownsRow w.heap.size 71 4 v j (cellsL (parse ((b1 :: t1).drop 5) j)) ∧ Blk wr (w.heap.size + 2) 37 #[.int .i64 0, .bool fd, .int .u64 0, v, .int .u8 0] ∧ Blk wr w.heap.size 37 #[.int .i64 0, .bool false, .int .u64 0, .slice none 0 0, .int .u8 0] ∧ Below w.heap.size w wr) (fun i _ => m + 1 - (intOf i).toNat)
                    case atStart => exact ⟨0, nil_, by omega, rfl, World.ownsRow_nil _ _ _ _, KR4.out, KA4.out, Z4.out⟩
                    case round =>
                      obtain ⟨j, v, hj, rfl, hrow, hR, hA, hbel⟩ := hrel
                      have HR := Lib.hid hR
                      have HA := Lib.hid hA
                      have HROW := Lib.hid hrow
                      have HBEL := Lib.hid hbel
                      clear hR hA hrow hbel
                      by_cases hjx : j < x
                      · have hji : 6 + 16 * (j : Int) < (m : Int) + 1 := by omega
                        obtain ⟨Av, cv, rfl, _⟩ := way_of_row HROW.out
                        have hm5j : 5 + 16 * j + 16 ≤ m := by omega
                        have PN : Hid (∀ (a s : Nat), Sz (s : Int) → a + s ≤ m + 1 → Calls Try.prog 32 #[.slice (some ⟨bb, off, none⟩) (m + 1) c, .int .i64 a, .int .i64 s] wr.drew fun e w' => e = .returned (.int .u64 (num (0 :: b1 :: t1) a s : Nat)) ∧ wr.drew = w') := Lib.hid fun a s hs ha =>
                          refnumber_any (some ⟨bb, off, none⟩) (m + 1) c a s _ wr.drew HL.out ((HB.out.below HBEL.out.drew).more HBEL.out.drew.size) (by omega) hs ha
                        obtain ⟨x1, hx1⟩ : ∃ x1, x1 = num (0 :: b1 :: t1) (6 + 16 * j) 4 := ⟨_, rfl⟩
                        obtain ⟨x2, hx2⟩ : ∃ x2, x2 = num (0 :: b1 :: t1) (6 + 16 * j + 4) 4 := ⟨_, rfl⟩
                        obtain ⟨x3, hx3⟩ : ∃ x3, x3 = num (0 :: b1 :: t1) (6 + 16 * j + 8) 8 := ⟨_, rfl⟩
                        have x1b : x1 ≤ 4294967295 := by rw [hx1]; exact num32 _ _
                        have x2b : x2 ≤ 4294967295 := by rw [hx2]; exact num32 _ _
                        have x3b : x3 ≤ 18446744073709551615 := by
                          have := num_lt (0 :: b1 :: t1) (6 + 16 * j + 8) 8
                          rw [← hx3] at this
                          simp only [Nat.reduceMul, Nat.reducePow] at this
                          omega
                        have HE : Hid ((⟨x1, x2, x3, 4294967295⟩ : Ed) = edAt (((b1 :: t1).drop 5).drop (16 * j))) := by
                          have h : (⟨x1, x2, x3, 4294967295⟩ : Ed) = edAt (((b1 :: t1).drop 5).drop (16 * j)) := by
                            rw [hx1, hx2, hx3]
                            exact ed_at 0 b1 t1 j
                          exact h
                        obtain ⟨ip, hip⟩ : ∃ ip : Int, ip = 6 + 16 * (j : Int) := ⟨_, rfl⟩
                        have hipl : 0 ≤ ip := by omega
                        have hiph : ip ≤ 1048576 := by omega
                        have hw4 : ip + 4 = IntKind.i64.wrap (ip + 4) := (wrap64 _ (by omega) (by omega)).symm
                        have hw8 : ip + 8 = IntKind.i64.wrap (ip + 8) := (wrap64 _ (by omega) (by omega)).symm
                        have P0 : Hid (Calls Try.prog 32 #[.slice (some ⟨bb, off, none⟩) (m + 1) c, .int .i64 ip, .int .i64 4] wr.drew fun e w' => e = .returned (.int .u64 x1) ∧ wr.drew = w') := Lib.hid (by rw [hip, hx1]; exact PN.out (6 + 16 * j) 4 sz4 (by omega))
                        have P4 : Hid (Calls Try.prog 32 #[.slice (some ⟨bb, off, none⟩) (m + 1) c, .int .i64 (IntKind.i64.wrap (ip + 4)), .int .i64 4] wr.drew fun e w' => e = .returned (.int .u64 x2) ∧ wr.drew = w') := Lib.hid (by rw [← hw4, hip, hx2]; exact PN.out (6 + 16 * j + 4) 4 sz4 (by omega))
                        have P8 : Hid (Calls Try.prog 32 #[.slice (some ⟨bb, off, none⟩) (m + 1) c, .int .i64 (IntKind.i64.wrap (ip + 8)), .int .i64 8] wr.drew fun e w' => e = .returned (.int .u64 x3) ∧ wr.drew = w') := Lib.hid (by rw [← hw8, hip, hx3]; exact PN.out (6 + 16 * j + 8) 8 sz8 (by omega))
                        clear hw4 hw8
                        have HIP := Lib.hid hip
                        rw [← hip]
                        rw [← hip] at hji
                        clear hip hx1 hx2 hx3
                        have g3 : wr.cell? ⟨w.heap.size + 2, 3, none⟩ = some (.slice Av j cv) := (HR.out.cell 3).trans rfl
                        have g3' : (wr.alloc (.cells #[.int .u32 (IntKind.u32.wrap x1), .int .u32 (IntKind.u32.wrap x2), .int .u64 x3, .int .u32 4294967295] 71)).cell? ⟨w.heap.size + 2, 3, none⟩ = some (.slice Av j cv) := ((HR.out.alloc _).cell 3).trans rfl
                        have HWR : Hid (edV (IntKind.u32.wrap x1) (IntKind.u32.wrap x2) x3 = Ed.cells ⟨x1, x2, x3, 4294967295⟩) := Lib.hid (by rw [wrap32 x1 x1b, wrap32 x2 x2b]; rfl)
                        obtain ⟨xs, hxs⟩ : ∃ xs, xs = cellsL (parse ((b1 :: t1).drop 5) j) := ⟨_, rfl⟩
                        obtain ⟨news, hnews⟩ : ∃ news, news = edV (IntKind.u32.wrap x1) (IntKind.u32.wrap x2) x3 := ⟨_, rfl⟩
                        have HB8 : Hid (Below wr.heap.size wr (wr.alloc (.cells #[.int .u32 (IntKind.u32.wrap x1), .int .u32 (IntKind.u32.wrap x2), .int .u64 x3, .int .u32 4294967295] 71)).drew) := Lib.hid ((Below.refl wr.heap.size wr).alloc (Nat.le_refl _) _).drew
                        have HROW8 : Hid ((wr.alloc (.cells #[.int .u32 (IntKind.u32.wrap x1), .int .u32 (IntKind.u32.wrap x2), .int .u64 x3, .int .u32 4294967295] 71)).drew.ownsRow w.heap.size 71 4 (.slice Av j cv) j xs) := Lib.hid (by rw [hxs]; exact own_row_below HROW.out HB8.out)
                        have HNEW8 : Hid (∀ i u, news[i]? = some u → (wr.alloc (.cells #[.int .u32 (IntKind.u32.wrap x1), .int .u32 (IntKind.u32.wrap x2), .int .u64 x3, .int .u32 4294967295] 71)).drew.cell? ((⟨wr.heap.size, 0, none⟩ : Addr).add i) = some u) := Lib.hid (by rw [hnews]; exact new_edV wr _ _ _)
                        have HONE8 : Hid (∀ u ∈ news, u.oneCell' = true) := Lib.hid (by rw [hnews]; exact edV_ones _ _ _)
                        have HLEN8 : Hid (news.length = 1 * 4) := Lib.hid (by rw [hnews]; rfl)
                        have HSZ8 : Hid (w.heap.size ≤ (wr.alloc (.cells #[.int .u32 (IntKind.u32.wrap x1), .int .u32 (IntKind.u32.wrap x2), .int .u64 x3, .int .u32 4294967295] 71)).drew.heap.size) := Lib.hid ((HBEL.out.alloc HBEL.out.size _).drew).size
                        have HEND8 : Hid (xs ++ news = cellsL (parse ((b1 :: t1).drop 5) j) ++ Ed.cells ⟨x1, x2, x3, 4294967295⟩) := Lib.hid (by rw [hxs, hnews, HWR.out])
                        have HGR8 : Hid (∀ w7, (wr.alloc (.cells #[.int .u32 (IntKind.u32.wrap x1), .int .u32 (IntKind.u32.wrap x2), .int .u64 x3, .int .u32 4294967295] 71)).drew.grownBy w7 (Value.slice Av j cv).ownBlock → Blk w7 (w.heap.size + 2) 37 #[.int .i64 0, .bool fd, .int .u64 0, .slice Av j cv, .int .u8 0] ∧ Blk w7 w.heap.size 37 #[.int .i64 0, .bool false, .int .u64 0, .slice none 0 0, .int .u8 0] ∧ Below w.heap.size w w7) := Lib.hid fun w7 hg => ref_grown HROW.out HR.out HA.out HBEL.out hg
                        clear hxs hnews
                        go_wp2_with fail
                        go_region_law (first
                          | (refine step_append_own rfl (.tmp 94) (.tmp 109) _ rfl w.heap.size 71 i0 _ 4 24 Try.underlying35 hi0 hz0 hz1 hz2 rfl (by decide) (.slice Av j cv) j xs (by kernel_rfl) HROW8.out ⟨wr.heap.size, 0, none⟩ 1 1 news (by kernel_rfl) HLEN8.out HNEW8.out HONE8.out (by simp only [maxLen]; omega) (by omega) HSZ8.out ?_; (intro v7 w7 hO7 hg7 hiff7); (rw [HEND8.out] at hO7); (have HA7 := Lib.hid (HGR8.out w7 hg7)); (have s3 : w7.cell? ⟨w.heap.size + 2, 3, none⟩ = some (.slice Av j cv) := (HA7.out.1.cell 3).trans rfl); (have s3f : w7.frozen? ⟨w.heap.size + 2, 3, none⟩ = false := HA7.out.1.frozen 3); (obtain ⟨g7, c7, rfl⟩ := row_some hO7 (by omega)); (have HO7 := Lib.hid hO7); (clear hO7 hg7 hiff7))
                          | ((go_simp); (go_at_call_has 32 (IntKind.i64.wrap (ip + 4))); (with_reducible refine Calls.mono P4.out ?_); (rintro e wa ⟨rfl, rfl⟩))
                          | ((go_simp); (go_at_call_has 32 (IntKind.i64.wrap (ip + 8))); (with_reducible refine Calls.mono P8.out ?_); (rintro e wa ⟨rfl, rfl⟩))
                          | ((go_simp); (go_at_call_of 32 ip); (with_reducible refine Calls.mono P0.out ?_); (rintro e wa ⟨rfl, rfl⟩)))
                        all_goals
                          go_wp2_with fail
                          go_roundw
                          case rel => exact ref_step ip HIP.out hjx (by omega) HE.out HO7.out HA7.out (by omega)
                          case measure => simp [intOf]; omega
                      · have hji : ¬ 6 + 16 * (j : Int) < (m : Int) + 1 := by omega
                        obtain rfl : j = x := by omega
                        obtain ⟨Av, cv, rfl, _⟩ := way_of_row HROW.out
                        have HW5 := Lib.hid (own_row_fine HROW.out HA.out)
                        have s0 : wr.cell? ⟨w.heap.size + 2, 0, none⟩ = some (.int .i64 0) := (HR.out.cell 0).trans rfl
                        have s1 : wr.cell? ⟨w.heap.size + 2, 1, none⟩ = some (.bool fd) := (HR.out.cell 1).trans rfl
                        have s2 : wr.cell? ⟨w.heap.size + 2, 2, none⟩ = some (.int .u64 0) := (HR.out.cell 2).trans rfl
                        have s3 : wr.cell? ⟨w.heap.size + 2, 3, none⟩ = some (.slice Av j cv) := (HR.out.cell 3).trans rfl
                        have s4 : wr.cell? ⟨w.heap.size + 2, 4, none⟩ = some (.int .u8 0) := (HR.out.cell 4).trans rfl
                        have a0 : wr.cell? ⟨w.heap.size, 0, none⟩ = some (.int .i64 0) := (HA.out.cell 0).trans rfl
                        have a1 : wr.cell? ⟨w.heap.size, 1, none⟩ = some (.bool false) := (HA.out.cell 1).trans rfl
                        have a2 : wr.cell? ⟨w.heap.size, 2, none⟩ = some (.int .u64 0) := (HA.out.cell 2).trans rfl
                        have a3 : wr.cell? ⟨w.heap.size, 3, none⟩ = some (.slice none 0 0) := (HA.out.cell 3).trans rfl
                        have a4 : wr.cell? ⟨w.heap.size, 4, none⟩ = some (.int .u8 0) := (HA.out.cell 4).trans rfl
                        have f0 := HA.out.frozen 0
                        have f1 := HA.out.frozen 1
                        have f2 := HA.out.frozen 2
                        have f3 := HA.out.frozen 3
                        have f4 := HA.out.frozen 4
                        go_wp2_with fail
                        refine bodyPost_ret (resCT rfl _ _ w.heap.size 37 (repC 0 fd 0 (.slice Av j cv) 0) _ rfl ?_ Try.underlying37 rfl (by kernel_rfl)) rfl ⟨.inr (.inr ⟨b1 :: t1, _, rfl, .inr (.inl ⟨rfl, by rw [HM.out]; omega, HB1.out, by rw [HX.out, HM.out]; exact hxm⟩), by rw [HFD.out]; rfl, fun h => absurd rfl h, fun _ => by rw [HX.out]; exact HW5.out _ _ _ _ _⟩), fine5 HBEL.out _ _ _ _ _⟩
                        exact set5 HA.out _ _ _ _ _
                  · have hxi : ((m : Int) + 1 - 6 == 16 * (x : Int)) = false := by simp; omega
                    have s0 : w4.cell? ⟨w.heap.size + 1, 0, none⟩ = some (.int .i64 0) := (KN4.out.cell 0).trans rfl
                    have s1 : w4.cell? ⟨w.heap.size + 1, 1, none⟩ = some (.bool false) := (KN4.out.cell 1).trans rfl
                    have s2 : w4.cell? ⟨w.heap.size + 1, 2, none⟩ = some (.int .u64 0) := (KN4.out.cell 2).trans rfl
                    have s3 : w4.cell? ⟨w.heap.size + 1, 3, none⟩ = some (.slice none 0 0) := (KN4.out.cell 3).trans rfl
                    have s4 : w4.cell? ⟨w.heap.size + 1, 4, none⟩ = some (.int .u8 0) := (KN4.out.cell 4).trans rfl
                    have a0 : w4.cell? ⟨w.heap.size, 0, none⟩ = some (.int .i64 0) := (KA4.out.cell 0).trans rfl
                    have a1 : w4.cell? ⟨w.heap.size, 1, none⟩ = some (.bool false) := (KA4.out.cell 1).trans rfl
                    have a2 : w4.cell? ⟨w.heap.size, 2, none⟩ = some (.int .u64 0) := (KA4.out.cell 2).trans rfl
                    have a3 : w4.cell? ⟨w.heap.size, 3, none⟩ = some (.slice none 0 0) := (KA4.out.cell 3).trans rfl
                    have a4 : w4.cell? ⟨w.heap.size, 4, none⟩ = some (.int .u8 0) := (KA4.out.cell 4).trans rfl
                    have f0 := KA4.out.frozen 0
                    have f1 := KA4.out.frozen 1
                    have f2 := KA4.out.frozen 2
                    have f3 := KA4.out.frozen 3
                    have f4 := KA4.out.frozen 4
                    go_wp2_with fail
                    refine bodyPost_ret (resCT rfl _ _ w.heap.size 37 (repC 0 false 0 nil_ 0) _ rfl ?_ Try.underlying37 rfl (by kernel_rfl)) rfl ⟨.inl ⟨fun h => body_not2 (.inr (by rw [HM.out, HX.out]; exact hxm)) (acc_zero.1 h), rfl⟩, fine5 Z4.out _ _ _ _ _⟩
                    exact set5 KA4.out _ _ _ _ _
    · have hbn : b.toNat ≠ 0 := fun h => hb (UInt8.toNat_inj.1 (by simpa using h))
      have hbq : ((b.toNat : Int) == 0) = false := by simp; omega
      by_cases hm : m = 0
      · subst hm
        obtain rfl := List.eq_nil_of_length_eq_zero HM.out
        have s0 : w2.cell? ⟨w.heap.size + 2, 0, none⟩ = some (.int .i64 (b.toNat : Int)) := (KR.out.cell 0).trans rfl
        have s1 : w2.cell? ⟨w.heap.size + 2, 1, none⟩ = some (.bool false) := (KR.out.cell 1).trans rfl
        have s2 : w2.cell? ⟨w.heap.size + 2, 2, none⟩ = some (.int .u64 0) := (KR.out.cell 2).trans rfl
        have s3 : w2.cell? ⟨w.heap.size + 2, 3, none⟩ = some (.slice none 0 0) := (KR.out.cell 3).trans rfl
        have s4 : w2.cell? ⟨w.heap.size + 2, 4, none⟩ = some (.int .u8 0) := (KR.out.cell 4).trans rfl
        have a0 : w2.cell? ⟨w.heap.size, 0, none⟩ = some (.int .i64 0) := (KA2.out.cell 0).trans rfl
        have a1 : w2.cell? ⟨w.heap.size, 1, none⟩ = some (.bool false) := (KA2.out.cell 1).trans rfl
        have a2 : w2.cell? ⟨w.heap.size, 2, none⟩ = some (.int .u64 0) := (KA2.out.cell 2).trans rfl
        have a3 : w2.cell? ⟨w.heap.size, 3, none⟩ = some (.slice none 0 0) := (KA2.out.cell 3).trans rfl
        have a4 : w2.cell? ⟨w.heap.size, 4, none⟩ = some (.int .u8 0) := (KA2.out.cell 4).trans rfl
        have f0 := KA2.out.frozen 0
        have f1 := KA2.out.frozen 1
        have f2 := KA2.out.frozen 2
        have f3 := KA2.out.frozen 3
        have f4 := KA2.out.frozen 4
        go_wp2_with fail
        refine bodyPost_ret (resCT rfl _ _ w.heap.size 37 (repC (b.toNat : Int) false 0 nil_ 0) _ rfl ?_ Try.underlying37 rfl (by kernel_rfl)) rfl ⟨.inr (.inl ⟨b, rfl, hb, rfl⟩), fine5 Z2.out _ _ _ _ _⟩
        exact set5 KA2.out _ _ _ _ _
      · have hm1 : ((m : Int) + 1 == 1) = false := by simp; omega
        have s0 : w2.cell? ⟨w.heap.size + 1, 0, none⟩ = some (.int .i64 0) := (KN2.out.cell 0).trans rfl
        have s1 : w2.cell? ⟨w.heap.size + 1, 1, none⟩ = some (.bool false) := (KN2.out.cell 1).trans rfl
        have s2 : w2.cell? ⟨w.heap.size + 1, 2, none⟩ = some (.int .u64 0) := (KN2.out.cell 2).trans rfl
        have s3 : w2.cell? ⟨w.heap.size + 1, 3, none⟩ = some (.slice none 0 0) := (KN2.out.cell 3).trans rfl
        have s4 : w2.cell? ⟨w.heap.size + 1, 4, none⟩ = some (.int .u8 0) := (KN2.out.cell 4).trans rfl
        have a0 : w2.cell? ⟨w.heap.size, 0, none⟩ = some (.int .i64 0) := (KA2.out.cell 0).trans rfl
        have a1 : w2.cell? ⟨w.heap.size, 1, none⟩ = some (.bool false) := (KA2.out.cell 1).trans rfl
        have a2 : w2.cell? ⟨w.heap.size, 2, none⟩ = some (.int .u64 0) := (KA2.out.cell 2).trans rfl
        have a3 : w2.cell? ⟨w.heap.size, 3, none⟩ = some (.slice none 0 0) := (KA2.out.cell 3).trans rfl
        have a4 : w2.cell? ⟨w.heap.size, 4, none⟩ = some (.int .u8 0) := (KA2.out.cell 4).trans rfl
        have f0 := KA2.out.frozen 0
        have f1 := KA2.out.frozen 1
        have f2 := KA2.out.frozen 2
        have f3 := KA2.out.frozen 3
        have f4 := KA2.out.frozen 4
        go_wp2_with fail
        refine bodyPost_ret (resCT rfl _ _ w.heap.size 37 (repC 0 false 0 nil_ 0) _ rfl ?_ Try.underlying37 rfl (by kernel_rfl)) rfl ⟨.inl ⟨not_acc_long _ hb (by rintro rfl; exact hm HM.out.symm), rfl⟩, fine5 Z2.out _ _ _ _ _⟩
        exact set5 KA2.out _ _ _ _ _
end Go.Proofs.Ytjiiabekjiilbaa
