/- Apart, of lists that stand apart: it answers yes, and touches nothing below them. -/
import Derived.Test.YtjiiabekjiilbaaStand
import Derived.Deep.RegionHeld3
import Derived.IntWalk
set_option linter.unusedSimpArgs false
set_option linter.unusedVariables false
namespace Go.Proofs.Ytjiiabekjiilbaa
open Go.RowKit Mp

theorem row_cells {w : World} {lo : Nat} {e : TypeId} {A : Option Addr} {n m c : Nat} {xs : List Value} (h : w.ownsRow lo e 1 (.slice A n c) m xs) (hlo : lo ≤ w.heap.size) : Cells w w.heap.size A xs := by
  obtain ⟨A', c', he, _, hc⟩ := cells_of_owns h hlo
  injection he with h1 h2 h3
  subst h1
  exact hc
theorem rows_info : (Try.prog.info? 22).map (fun i => (i.zero, i.size, i.bytes)) = some (some (.slice none 0 0), 1, 24) := by kernel_rfl
theorem u8_of (k : Nat) (h : k ≤ 254) : (k : Int) + 1 = ((UInt8.ofNat (k + 1)).toNat : Int) := by simp; omega
theorem flip_byte (b : UInt8) : (255 : Int) - (b.toNat : Int) = ((255 - b).toNat : Int) := by
  have := b.toNat_lt
  have h : (255 - b).toNat = 255 - b.toNat := by rw [UInt8.toNat_sub_of_le _ _ (by rw [UInt8.le_iff_toNat_le]; simp; omega)]; rfl
  rw [h]; omega
theorem ys_take {ys : List It} {y : It} {k : Nat} (h : ys.length = k) : (ys ++ [y]).take k = ys := by subst h; simp
/-- the i-th of the lists that are still as they were. -/
theorem Spoil.at_ {w0 w : World} {lo : Nat} {A : Option Addr} {t : TypeId} {xs : List It} {said : Value} {i : Nat} (h : Spoil w0 w lo A t xs said i) (ht : t ≠ 5) (hi : i < xs.length) :
    ∃ b off xa xn xc xl, A = some ⟨b, off, none⟩ ∧ w.cell? ⟨b, off + i, none⟩ = some (.slice xa xn xc) ∧ xn = xs[i].l.length ∧ OwnB w lo 5 xa xn xc xl ∧ (∀ w', w.grownBy w' (Mp.blk xa xc) → Spoil w0 w' lo A t xs said (i + 1)) := by
  obtain ⟨b, off, hA, hb, hc⟩ := h.lst.cells.at_ (k := i) (by simpa using hi)
  refine ⟨b, off, _, _, _, _, hA, (hc i (by simpa using hi)).trans (by rw [List.getElem_map]; rfl), rfl, h.own i hi (Nat.le_refl _), fun w' hg => h.step ht hi hg⟩

theorem run_cut {P : Program} (t e : TypeId) (ht : P.underlying t = some (.slice e)) (hs : ∀ w, (sizeOf e).run P w = .ok 1 w) (a : Option Addr) (len cap l : Nat) (h : l ≤ len) (W : World) :
    (Instr.sliceAt t (.slice a len cap) (some (.int .i64 (l : Int))) none none).run P W = .ok (.slice (if cap = l then a else a.map (·.add (l * 1))) (len - l) (cap - l)) W := by
  have hE : P.elem t = e := by simp [Program.elem, ht]
  rw [run_sliceAt_slice (h := by rw [hE]; exact ht), run_slice_l (ht := by rw [hE]; exact ht) (h0 := by omega) (h1 := by omega), hE, hs]
  simp [Result.andThen, sliced]
/-- behind a world: all that was there is as it was. -/
def Aft (w w' : World) : Prop := Below w.heap.size w w'
theorem Aft.refl (w : World) : Aft w w := Below.refl _ _
theorem Aft.drew {w w' : World} (h : Aft w w') : Aft w w'.drew := Below.drew h
theorem Aft.step {w w' w'' : World} (h : Aft w w') (k : Below w'.heap.size w' w'') : Aft w w'' := Below.trans h (k.mono h.size)
theorem only_setCell {a w : World} {g : Nat} (h : a.grownBy w (some g)) {p : Addr} (hp : p.block = g) (u : Value) : a.grownBy (w.setCell p u) (some g) :=
  ⟨h.os, h.tape, h.output, by simpa [World.setCell] using h.size, fun i hi hne => (Below.heap_setCell w p u i (by rintro rfl; exact hne (by rw [hp]))).trans (h.block i hi hne)⟩

set_option maxRecDepth 100000 in
set_option maxHeartbeats 4000000 in
theorem apart_any (A : Option Addr) (n c lo : Nat) (t : TypeId) (xs : List It) (w : World) (hl : xs.length = n) (hn : n ≤ 100) (hnc : n ≤ c) (ht : t ≠ 5) (hL : Lst w w.heap.size A t (xs.map It.val)) (hown : ∀ x ∈ xs, Own w lo x) (hp : Parted xs) (hlen : ∀ x ∈ xs, x.l.length ≤ 536870912) (hlo : lo ≤ w.heap.size) :
    Calls Try.prog 22 #[.slice A n c] w fun e w' => e = .returned (.bool true) ∧ Below lo w w' := by
  obtain ⟨i0, hi0, hz0, hz1, hz2⟩ := info_parts string_info
  obtain ⟨i1, hi1, hy0, hy1, hy2⟩ := info_parts rows_info
  have HL := Lib.hid hl
  have HT := Lib.hid ht
  have HP := Lib.hid hp
  have HLEN := Lib.hid hlen
  have HI : Hid (Items w A xs) := by
    have h : Items w A xs := ⟨hL.cells, fun x hx => (hown x hx).bytes⟩
    exact h
  have HLST := Lib.hid hL
  have HOWN := Lib.hid hown
  clear hl ht hp hlen hL hown
  go_enter Try.func22, Try.ntmps22
  go_wp2_with fail
  refine (texts_any A n c xs _ HL.out HI.out (by omega)).mono ?_
  rintro e w1 ⟨said, rfl, hS, hb1⟩
  obtain ⟨As, cs, rfl, hncs, _⟩ := cells_of_owns hS hb1.size
  have hG0 : Grow w w1 lo w1.heap.size A t xs [] (.slice As n cs) (.slice none 0 0) (.slice none 0 0) 0 0 := by
    refine ⟨HP.out, fun x hx g hg => (OwnB.blk_lt (HOWN.out x hx) hg).2, hlo, hb1.size, fun g hg => (hS.lt g hg).2, by simp, fun i h => by simp at h, hb1.mono hlo, Nat.le_refl _, HLST.out.keep (grown_of_below (row := none) hb1) (fun _ e => by cases e), fun x hx => OwnB.below (HOWN.out x hx) hb1, fun y hy => by simp at hy, ?_, World.ownsRow_nil _ _ _ _, World.ownsRow_nil _ _ _ _⟩
    rw [HL.out]
    exact hS
  have HG0 := Lib.hid hG0
  clear hS hb1 hG0
  go_wp2_with fail
  go_loopw [4, 5, 6] (fun lg wn i wr => ∃ (k : Nat) (ys : List It), k ≤ n ∧ i = .int .i64 k ∧ ys.length = k ∧ Grow w wr lo w1.heap.size A t xs ys (.slice As n cs) lg wn k k) (fun _ _ i _ => n - (intOf i).toNat)
  case atStart => exact ⟨0, [], by omega, rfl, rfl, HG0.out⟩
  case round =>
    obtain ⟨k, ys, hk, rfl, hy, hG⟩ := hrel
    have HG := Lib.hid hG
    have HY := Lib.hid hy
    clear hG hy
    by_cases hlt : k < n
    · have hkx : k < xs.length := by have := HL.out; omega
      obtain ⟨b, off, rfl, hbb, hcell⟩ := HG.out.lst.cells.at_ (k := k) (by simpa using hkx)
      have hc : wr.cell? ⟨b, off + k, none⟩ = some (.slice (xs[k]).a (xs[k]).l.length (xs[k]).c) := by
        have := hcell k (by simpa using hkx)
        simpa [It.val] using this
      clear hcell
      obtain ⟨bk, hbk⟩ : ∃ bk, bk = UInt8.ofNat (k + 1) := ⟨_, rfl⟩
      have hu : (k : Int) + 1 = (bk.toNat : Int) := by rw [hbk]; exact u8_of k (by omega)
      have HBK := Lib.hid hbk
      clear hbk
      have HU := Lib.hid hu
      clear hu
      have hlk := HLEN.out _ (List.getElem_mem hkx)
      go_wp2_with fail
      rw [HU.out]
      refine (longer_any (xs[k]).a (xs[k]).l.length (xs[k]).c lo _ (xs[k]).l _ (HG.out.own _ (List.getElem_mem hkx)) (by omega) (by have := HG.out.blw.size; omega)).mono ?_
      rintro e w2 ⟨A2, c2, rfl, hO2, hE2⟩
      have HG2 : Hid (Grow w w2 lo w1.heap.size (some ⟨b, off, none⟩) t xs (ys ++ [(⟨A2, c2, (xs[k]).l ++ farL bk⟩ : It)]) (.slice As n cs) u4 u5 k k) := by
        have h : Grow w w2 lo w1.heap.size (some ⟨b, off, none⟩) t xs (ys ++ [(⟨A2, c2, (xs[k]).l ++ farL bk⟩ : It)]) (.slice As n cs) u4 u5 k k := by
          rw [HBK.out]
          exact HG.out.longer HT.out (by rw [HY.out]; omega) (by rw [HY.out]; omega) HY.out hkx (by rw [← HBK.out]; exact hO2) hE2
        exact h
      have HO2 := Lib.hid hO2
      clear hO2 hE2
      go_wp2_with (at_builtin; refine wpList_append_own _ rfl (.tmp 18) (.tmp 27) _ rfl w.heap.size 22 i1 (.slice none 0 0) 1 24 Try.underlying42 hi1 hy0 hy1 hy2 rfl (by decide) _ k _ rfl (HG2.out.alloc _).long ⟨w2.heap.size, 0, none⟩ 1 1 [.slice A2 ((xs[k]).l.length + 40) c2] rfl rfl (new_one w2 _ _) (by simp [Value.oneCell']) (by simp [maxLen]; omega) (by omega) (by have := HG2.out.blw.size; simp; omega) ?_; intro v2 w3 hO3 hg3 hd3; have HO3 := Lib.hid hO3; have HG3' := Lib.hid hg3; clear hO3 hg3 hd3)
      have HYL : Hid ((ys ++ [(⟨A2, c2, (xs[k]).l ++ farL bk⟩ : It)]).length = k + 1) := by
        have h : (ys ++ [(⟨A2, c2, (xs[k]).l ++ farL bk⟩ : It)]).length = k + 1 := by simp [HY.out]
        exact h
      have HYK : Hid ((ys ++ [(⟨A2, c2, (xs[k]).l ++ farL bk⟩ : It)])[k]'(by rw [HYL.out]; omega) = ⟨A2, c2, (xs[k]).l ++ farL bk⟩) := by
        have h : (ys ++ [(⟨A2, c2, (xs[k]).l ++ farL bk⟩ : It)])[k]'(by rw [HYL.out]; omega) = ⟨A2, c2, (xs[k]).l ++ farL bk⟩ := by
          rw [List.getElem_append_right (by rw [HY.out]; omega)]
          simp [HY.out]
        exact h
      have HG3 : Hid (Grow w w3 lo w1.heap.size (some ⟨b, off, none⟩) t xs (ys ++ [(⟨A2, c2, (xs[k]).l ++ farL bk⟩ : It)]) (.slice As n cs) v2 u5 (k + 1) k) := by
        have h := (HG2.out.alloc (.cells #[.slice A2 ((xs[k]).l.length + 40) c2] 22)).put (by rw [HYL.out]; omega) (by
          rw [HYK.out]
          have := HO3.out
          simpa [It.val, farL] using this) HG3'.out
        exact h
      obtain ⟨b2, off2, hAs, hbb2, hcell2⟩ := (row_cells HG3.out.said (by have := HG3.out.blw.size; omega)).at_ (k := k) (by simpa using hkx)
      subst hAs
      have hc2 : w3.cell? ⟨b2, off2 + k, none⟩ = some (.string (txt (xs[k]).l)) := (hcell2 k (by simpa using hkx)).trans (by rw [List.getElem_map]; rfl)
      clear hcell2 hc
      have hsb := conv_any w3 (txt (xs[k]).l)
      have hts : (txt (xs[k]).l).size = (xs[k]).l.length := rfl
      have hq : (Instr.indexAt 72 (.slice (some ⟨b2, off2, none⟩) n cs) (.int .i64 k)).run Try.prog w3 = .ok (.pointer (some ⟨b2, off2 + k, none⟩)) w3 := by
        clear HI HLST HG0 HG HG2 HG3 HYK HYL HO2 HO3 HG3' hsb hts
        go_simp
      go_wp2_with fail
      rw [hq]
      clear hq
      go_wp2_with fail
      rw [HU.out]
      refine (longer_any (some ⟨w3.heap.size, 0, none⟩) (xs[k]).l.length (capOf 5 w3 (txt (xs[k]).l)) w3.heap.size _ (xs[k]).l _ (convW_own 5 w3 (xs[k]).l (by simp only [maxLen]; omega)) (by omega) (convW_below 5 w3 (txt (xs[k]).l)).size).mono ?_
      rintro e w5 ⟨A5, c5, rfl, hO5, hE5⟩
      have hb5 : Below w3.heap.size w3 w5 := (convW_below 5 w3 (txt (xs[k]).l)).grown hE5.2.1 (convW_below 5 w3 (txt (xs[k]).l)).size (fun g hg => (OwnB.blk_lt (convW_own 5 w3 (xs[k]).l (by simp only [maxLen]; omega)) hg).1)
      have HG5 := Lib.hid (HG3.out.below hb5)
      have hs5 := str_any c5 hO5.bytes hO5.1
      clear hb5 hE5 hO5 hc2 hsb hts
      go_wp2_with (at_builtin; refine wpList_append_own _ rfl (.tmp 29) (.tmp 40) _ rfl w1.heap.size 9 i0 (.string ⟨#[]⟩) 1 16 Try.underlying72 hi0 hz0 hz1 hz2 rfl (by decide) _ k _ rfl (HG5.out.alloc _).want ⟨w5.heap.size, 0, none⟩ 1 1 [.string (txt ((xs[k]).l ++ farL bk))] rfl rfl (new_one w5 _ _) (by simp [Value.oneCell']) (by simp [maxLen]; omega) (by omega) (by have := HG5.out.size; simp; omega) ?_; intro v6 w6 hO6 hg6 hd6; have HO6 := Lib.hid hO6; have HG6' := Lib.hid hg6; clear hO6 hg6 hd6)
      go_roundw
      case rel =>
        refine ⟨k + 1, _, by omega, by go_num, HYL.out, (HG5.out.alloc _).say_ (by rw [HYL.out]; omega) ?_ HG6'.out⟩
        rw [HYK.out]
        exact HO6.out
      case measure => simp [intOf]; omega
    · obtain rfl : k = n := by omega
      obtain ⟨Al, cl, hlg, hncl, _⟩ := cells_of_owns HG.out.long (by have := HG.out.blw.size; omega)
      obtain ⟨Aw, cw, hwn, hncw, _⟩ := cells_of_owns HG.out.want HG.out.size
      subst hlg hwn
      have HYT : Hid (ys.take k = ys) := by
        have h : ys.take k = ys := List.take_of_length_le (by rw [HY.out]; omega)
        exact h
      go_wp2_with fail
      refine (texts_any A k c xs _ HL.out HG.out.items (by omega)).mono ?_
      rintro e w2 ⟨s2, rfl, hS2, hb2⟩
      obtain ⟨A2, c2, rfl, hnc2, hC2⟩ := cells_of_owns hS2 hb2.size
      have HG2 := Lib.hid (HG.out.below hb2)
      have HC2 := Lib.hid hC2
      clear hS2 hb2 hC2
      go_wp2_with fail
      refine (eqtexts_same A2 As k c2 cs xs _ HL.out HC2.out (row_cells HG2.out.said (by have := HG2.out.blw.size; omega)) (by omega)).mono ?_
      rintro e w3 ⟨rfl, hb3⟩
      have HG3 := Lib.hid (HG2.out.below hb3)
      clear hb3
      have HI3 : Hid (Items w3 Al ys) := by
        have h : Items w3 Al ys := by
          refine ⟨?_, fun y hy => OwnB.bytes (HG3.out.made y hy)⟩
          have h := row_cells HG3.out.long (by have := HG3.out.blw.size; omega)
          rw [HYT.out] at h
          exact h
        exact h
      go_wp2_with fail
      refine (texts_any Al k cl ys _ HY.out HI3.out (by omega)).mono ?_
      rintro e w4 ⟨s4, rfl, hS4, hb4⟩
      obtain ⟨A4, c4, rfl, hnc4, hC4⟩ := cells_of_owns hS4 hb4.size
      have HG4 := Lib.hid (HG3.out.below hb4)
      have HC4 := Lib.hid hC4
      clear hS4 hb4 hC4
      go_wp2_with fail
      have HC5 : Hid (Cells w4 w4.heap.size Aw (ys.map It.str)) := by
        have h := row_cells HG4.out.want HG4.out.size
        rw [HYT.out] at h
        exact h
      refine (eqtexts_same A4 Aw k c4 cw ys _ HY.out HC4.out HC5.out (by omega)).mono ?_
      rintro e w5 ⟨rfl, hb5⟩
      have HG5 := Lib.hid (HG4.out.below hb5)
      clear hb5 HG HG0 HG2 HG3 HG4 HC2 HC4 HC5 HI3
      go_wp2_with fail
      have HSp0 := Lib.hid HG5.out.spoil
      clear HG5
      obtain ⟨wo, rfl⟩ : ∃ wo : World, wo = wr := ⟨_, rfl⟩
      go_loopw [7] (fun i wr => ∃ m : Nat, m ≤ k ∧ i = .int .i64 m ∧ Spoil w wr lo A t xs (.slice As k cs) m) (fun i _ => k - (intOf i).toNat)
      case atStart => exact ⟨0, by omega, rfl, HSp0.out⟩
      case round =>
        obtain ⟨m, hm, rfl, hSp⟩ := hrel
        have HSp := Lib.hid hSp
        clear hSp
        by_cases hlt : m < k
        · obtain ⟨b, off, xa, xn, xc, xl, rfl, hc, hxn, hO, hstep⟩ := HSp.out.at_ HT.out (by have := HL.out; omega)
          have hxb : xn ≤ 536870912 := by rw [hxn]; exact HLEN.out _ (List.getElem_mem _)
          have HO0 := Lib.hid hO
          have HST := Lib.hid hstep
          clear hxn hO hstep
          go_wp2_with fail
          obtain ⟨wp, rfl⟩ : ∃ wp : World, wp = wr := ⟨_, rfl⟩
          go_loopw [9] (fun j wr => ∃ (q : Nat) (l' : List UInt8), q ≤ xn ∧ j = .int .i64 q ∧ OwnB wr lo 5 xa xn xc l' ∧ wp.grownBy wr (Mp.blk xa xc)) (fun j _ => xn - (intOf j).toNat)
          case atStart => exact ⟨0, _, by omega, rfl, HO0.out, World.grownBy.refl wp _⟩
          case round =>
            obtain ⟨q, l', hq, rfl, hO, hgr⟩ := hrel
            have HO := Lib.hid hO
            have HGR := Lib.hid hgr
            clear hO hgr
            by_cases hltq : q < xn
            · obtain ⟨g, rfl, hgb, hg1, hg2, hcell, hfz⟩ := HO.out.open_ (by have := HO.out.2.1; omega)
              have hql : q < l'.length := by have := HO.out.1; omega
              have hc0 := hcell q hql
              have hf0 := hfz q (by have := HO.out.2.1; omega)
              have hby : (l'[q]).toNat ≤ 255 := by have := (l'[q]).toNat_lt; omega
              have HGB := Lib.hid hgb
              clear hcell hfz hgb hc
              go_wp2_with fail
              go_roundw
              case rel =>
                refine ⟨q + 1, l'.set q (255 - l'[q]), by omega, by go_num, ?_, ?_⟩
                · rw [flip_byte]; exact HO.out.store q hltq _
                · rw [HGB.out]
                  exact only_setCell (by rw [← HGB.out]; exact HGR.out) rfl _
              case measure => simp [intOf]; omega
            · obtain rfl : q = xn := by omega
              have HS1 := Lib.hid (HST.out _ HGR.out)
              go_wp2_with fail
              have hm0 : (0 : Int) ≤ (m : Int) + 1 := by omega
              have hm1 : (m : Int) + 1 ≤ (k : Int) := by omega
              have hm2 : (m : Int) + 1 ≤ (c : Int) := by omega
              have hm3 : (m : Int) + 1 ≤ (cs : Int) := by omega
              obtain ⟨A1, hA1⟩ : ∃ A1, A1 = (if c = m + 1 then (some ⟨b, off, none⟩ : Option Addr) else (some ⟨b, off, none⟩ : Option Addr).map (·.add ((m + 1) * 1))) := ⟨_, rfl⟩
              obtain ⟨A2, hA2⟩ : ∃ A2, A2 = (if cs = m + 1 then As else As.map (·.add ((m + 1) * 1))) := ⟨_, rfl⟩
              have hs1 : ∀ W : World, (Instr.sliceAt 42 (.slice (some ⟨b, off, none⟩) k c) (some (.int .i64 ((m : Int) + 1))) none none).run Try.prog W = .ok (.slice A1 (k - (m + 1)) (c - (m + 1))) W := fun W => by
                rw [hA1]
                exact run_cut _ _ Try.underlying42 (fun _ => by kernel_rfl) (some ⟨b, off, none⟩) k c (m + 1) (by omega) W
              have hs2 : ∀ W : World, (Instr.sliceAt 72 (.slice As k cs) (some (.int .i64 ((m : Int) + 1))) none none).run Try.prog W = .ok (.slice A2 (k - (m + 1)) (cs - (m + 1))) W := fun W => by
                rw [hA2]
                exact run_cut _ _ Try.underlying72 (fun _ => by kernel_rfl) As k cs (m + 1) (by omega) W
              have HDL : Hid ((xs.drop (m + 1)).length = k - (m + 1)) := by
                have h : (xs.drop (m + 1)).length = k - (m + 1) := by rw [List.length_drop, HL.out]
                exact h
              have HIT : Hid (Items wr A1 (xs.drop (m + 1))) := by
                have h : Items wr A1 (xs.drop (m + 1)) := by
                  refine ⟨?_, fun x hx => ?_⟩
                  · rw [hA1, List.map_drop]
                    exact (HS1.out.lst.cells.more HS1.out.blw.size).cut (m + 1) c (by simp; have := HL.out; omega)
                  · obtain ⟨j, hj, rfl⟩ := List.getElem_of_mem hx
                    rw [List.getElem_drop]
                    exact OwnB.bytes (HS1.out.own (m + 1 + j) (by rw [List.length_drop] at hj; omega) (by omega))
                exact h
              have HCS : Hid (Cells wr wr.heap.size A2 ((xs.drop (m + 1)).map It.str)) := by
                have h : Cells wr wr.heap.size A2 ((xs.drop (m + 1)).map It.str) := by
                  rw [hA2, List.map_drop]
                  exact (row_cells HS1.out.said HS1.out.blw.size).cut (m + 1) cs (by simp; have := HL.out; omega)
                exact h
              have PT : Hid (∀ W, Aft wr W → Calls Try.prog 37 #[.slice A1 (k - (m + 1)) (c - (m + 1))] W fun e w' => ∃ A' c', e = .returned (.slice A' (k - (m + 1)) c') ∧ Cells w' w'.heap.size A' ((xs.drop (m + 1)).map It.str) ∧ Aft wr w') := by
                have h : ∀ W, Aft wr W → Calls Try.prog 37 #[.slice A1 (k - (m + 1)) (c - (m + 1))] W fun e w' => ∃ A' c', e = .returned (.slice A' (k - (m + 1)) c') ∧ Cells w' w'.heap.size A' ((xs.drop (m + 1)).map It.str) ∧ Aft wr w' := fun W hA =>
                  (texts_any A1 (k - (m + 1)) (c - (m + 1)) (xs.drop (m + 1)) W HDL.out (HIT.out.below hA) (by omega)).mono fun e w' ⟨v, h1, h2, h3⟩ => by
                    obtain ⟨A', c', rfl, _, hC⟩ := cells_of_owns h2 h3.size
                    exact ⟨A', c', h1, hC, hA.step h3⟩
                exact h
              have PE : Hid (∀ W A' c', Cells W W.heap.size A' ((xs.drop (m + 1)).map It.str) → Aft wr W → Calls Try.prog 39 #[.slice A' (k - (m + 1)) c', .slice A2 (k - (m + 1)) (cs - (m + 1))] W fun e w' => e = .returned (.bool true) ∧ Aft wr w') := by
                have h : ∀ W A' c', Cells W W.heap.size A' ((xs.drop (m + 1)).map It.str) → Aft wr W → Calls Try.prog 39 #[.slice A' (k - (m + 1)) c', .slice A2 (k - (m + 1)) (cs - (m + 1))] W fun e w' => e = .returned (.bool true) ∧ Aft wr w' := fun W A' c' hC hA =>
                  (eqtexts_same A' A2 (k - (m + 1)) c' (cs - (m + 1)) (xs.drop (m + 1)) W HDL.out hC ((HCS.out.below (show Below _ _ _ from hA) (Nat.le_refl _)).more (Below.size hA)) (by omega)).mono fun e w' h => ⟨h.1, hA.step h.2⟩
                exact h
              clear hA1 hA2
              have hw : IntKind.i64.wrap ((m : Int) + 1) = (m : Int) + 1 := IntWalk.i64_in _ (by omega)
              have hst : Aft wr wr := Aft.refl _
              go_region_held3 (fun w' => Aft wr w') (first | (with_reducible assumption) | ((with_reducible refine Aft.drew ?_); (with_reducible assumption))) (first | (go_at_call 37; (with_reducible refine Calls.mono (PT.out _ ?_) ?_); (with_reducible assumption); rintro e wt ⟨At, ct, rfl, hCt, hAt⟩) | (go_at_call_of 39 At; (with_reducible refine Calls.mono (PE.out _ _ _ hCt hAt) ?_); rintro e we ⟨rfl, hAe⟩))
              clear hs1 hs2 hw
              go_wp2_with fail
              go_roundw
              case rel => exact ⟨m + 1, by omega, by go_num, HS1.out.below hAe⟩
              case measure => simp [intOf]; omega
        · obtain rfl : m = k := by omega
          go_wp2_with fail
          go_ret
          exact ⟨rfl, HSp.out.blw⟩
end Go.Proofs.Ytjiiabekjiilbaa
