/- PageBack: what was made is opened by its own tag and number alone, and what a page says makes that page again. -/
import Derived.Test.YtflgelkpblnkcaaPageRefOpen
import Derived.Deep.Cut
import Derived.ChangeKeysEq
set_option linter.unusedSimpArgs false
set_option linter.unusedVariables false
namespace Go.Proofs.Ytflgelkpblnkcaa
open Go.RowKit Mp

/-- two arrays of two numbers compared. -/
theorem eql2 (w : World) (a b c d : Int) : (Op.equalIn 10000 36 (.agg #[.int .u32 a, .int .u32 b]) (.agg #[.int .u32 c, .int .u32 d])).run Try.prog w = .ok (a == c && b == d) w := by
  obtain ⟨i, hi, _⟩ := info_parts (show (Try.prog.info? 22).map (fun i => (i.zero, i.size, i.bytes)) = some (some (.int .u32 0), 1, 4) by kernel_rfl)
  have hc : Try.prog.cellsOf 22 = 1 := by kernel_rfl
  rw [run_equalIn_array w 9999 _ _ Try.underlying36 hi, hc]
  have he : ∀ (x y : Int) (w : World), (Op.equalIn 9999 22 (.int .u32 x) (.int .u32 y)).run Try.prog w = .ok (x == y) w := fun x y w => run_equalIn_int w 9998 _ .u32 .u32 x y Try.underlying22
  have hl : List.range 2 = [0, 1] := rfl
  rw [hl]
  have p0 : ∀ (x y : Int) (w : World), (part 22 #[.int .u32 x, .int .u32 y] 0).run Try.prog w = .ok (.int .u32 x) w := fun x y w => by simp [part, isAgg, run_underlying Try.underlying22]
  have p1 : ∀ (x y : Int) (w : World), (part 22 #[.int .u32 x, .int .u32 y] 1).run Try.prog w = .ok (.int .u32 y) w := fun x y w => by simp [part, isAgg, run_underlying Try.underlying22]
  simp only [Op.eqItems, Sem.run_bind, Nat.zero_mul, Nat.one_mul, p0, p1, he, Result.andThen_ok]
  cases h1 : (a == c) <;> cases h2 : (b == d) <;> simp_all

theorem pageother (t nb t2 nb2 : Nat) (l : List UInt8) (hl : l.length ≤ 240) (ht : t ≤ 4294967295) (hnb : nb ≤ 4294967295) (ht2 : t2 ≤ 4294967295) (hnb2 : nb2 ≤ 4294967295) (h : ¬ (t = t2 ∧ nb = nb2)) : OpenAns (pageL t nb l) t2 nb2 [] 7 := by
  refine .inr ⟨?_, rfl, rfl⟩
  rintro ⟨l', h'⟩
  have := (says_page t nb l hl).eq h' ht hnb ht2 hnb2
  exact h ⟨this.1, this.2.1⟩
set_option maxRecDepth 100000 in
set_option maxHeartbeats 6400000 in
theorem law_back (A : Option Addr) (n c : Nat) (l : List UInt8) (t nb t2 nb2 : Nat) (A2 : Option Addr) (n2 c2 : Nat) (l2 : List UInt8) (w : World) (ht : t ≤ 4294967295) (hnb : nb ≤ 4294967295) (ht2 : t2 ≤ 4294967295) (hnb2 : nb2 ≤ 4294967295)
    (hl : l.length = n) (hb : Bytes w w.heap.size A l) (hnc : n ≤ c) (hcm : c ≤ maxLen) (hl2 : l2.length = n2) (hb2 : Bytes w w.heap.size A2 l2) (hnc2 : n2 ≤ c2) (hcm2 : c2 ≤ maxLen) :
    Calls Try.prog 5 #[.agg #[.slice A n c, .int .u32 t, .int .u32 nb, .int .u32 t2, .int .u32 nb2, .slice A2 n2 c2]] w fun e w' => e = .returned (.bool true) ∧ Below w.heap.size w w' := by
  have HL := Lib.hid hl
  have HB := Lib.hid hb
  have HL2 := Lib.hid hl2
  have HB2 := Lib.hid hb2
  clear hl hb hl2 hb2
  have hK := Blk.new w 38 #[.slice A n c, .int .u32 t, .int .u32 nb, .int .u32 t2, .int .u32 nb2, .slice A2 n2 c2]
  have s0 : (w.alloc (.cells #[.slice A n c, .int .u32 t, .int .u32 nb, .int .u32 t2, .int .u32 nb2, .slice A2 n2 c2] 38)).cell? ⟨w.heap.size, 0, none⟩ = some (.slice A n c) := (hK.cell 0).trans rfl
  have z0 : ((w.alloc (.cells #[.slice A n c, .int .u32 t, .int .u32 nb, .int .u32 t2, .int .u32 nb2, .slice A2 n2 c2] 38)).alloc (.cells #[.int .u32 t, .int .u32 nb] 36)).cell? ⟨w.heap.size, 0, none⟩ = some (.slice A n c) := ((hK.alloc _).cell 0).trans rfl
  have y0 : (((w.alloc (.cells #[.slice A n c, .int .u32 t, .int .u32 nb, .int .u32 t2, .int .u32 nb2, .slice A2 n2 c2] 38)).alloc (.cells #[.int .u32 t, .int .u32 nb] 36)).alloc (.cells #[.int .u32 t2, .int .u32 nb2] 36)).cell? ⟨w.heap.size, 0, none⟩ = some (.slice A n c) := (((hK.alloc _).alloc _).cell 0).trans rfl
  have s1 : (w.alloc (.cells #[.slice A n c, .int .u32 t, .int .u32 nb, .int .u32 t2, .int .u32 nb2, .slice A2 n2 c2] 38)).cell? ⟨w.heap.size, 1, none⟩ = some (.int .u32 t) := (hK.cell 1).trans rfl
  have z1 : ((w.alloc (.cells #[.slice A n c, .int .u32 t, .int .u32 nb, .int .u32 t2, .int .u32 nb2, .slice A2 n2 c2] 38)).alloc (.cells #[.int .u32 t, .int .u32 nb] 36)).cell? ⟨w.heap.size, 1, none⟩ = some (.int .u32 t) := ((hK.alloc _).cell 1).trans rfl
  have y1 : (((w.alloc (.cells #[.slice A n c, .int .u32 t, .int .u32 nb, .int .u32 t2, .int .u32 nb2, .slice A2 n2 c2] 38)).alloc (.cells #[.int .u32 t, .int .u32 nb] 36)).alloc (.cells #[.int .u32 t2, .int .u32 nb2] 36)).cell? ⟨w.heap.size, 1, none⟩ = some (.int .u32 t) := (((hK.alloc _).alloc _).cell 1).trans rfl
  have s2 : (w.alloc (.cells #[.slice A n c, .int .u32 t, .int .u32 nb, .int .u32 t2, .int .u32 nb2, .slice A2 n2 c2] 38)).cell? ⟨w.heap.size, 2, none⟩ = some (.int .u32 nb) := (hK.cell 2).trans rfl
  have z2 : ((w.alloc (.cells #[.slice A n c, .int .u32 t, .int .u32 nb, .int .u32 t2, .int .u32 nb2, .slice A2 n2 c2] 38)).alloc (.cells #[.int .u32 t, .int .u32 nb] 36)).cell? ⟨w.heap.size, 2, none⟩ = some (.int .u32 nb) := ((hK.alloc _).cell 2).trans rfl
  have y2 : (((w.alloc (.cells #[.slice A n c, .int .u32 t, .int .u32 nb, .int .u32 t2, .int .u32 nb2, .slice A2 n2 c2] 38)).alloc (.cells #[.int .u32 t, .int .u32 nb] 36)).alloc (.cells #[.int .u32 t2, .int .u32 nb2] 36)).cell? ⟨w.heap.size, 2, none⟩ = some (.int .u32 nb) := (((hK.alloc _).alloc _).cell 2).trans rfl
  have s3 : (w.alloc (.cells #[.slice A n c, .int .u32 t, .int .u32 nb, .int .u32 t2, .int .u32 nb2, .slice A2 n2 c2] 38)).cell? ⟨w.heap.size, 3, none⟩ = some (.int .u32 t2) := (hK.cell 3).trans rfl
  have z3 : ((w.alloc (.cells #[.slice A n c, .int .u32 t, .int .u32 nb, .int .u32 t2, .int .u32 nb2, .slice A2 n2 c2] 38)).alloc (.cells #[.int .u32 t, .int .u32 nb] 36)).cell? ⟨w.heap.size, 3, none⟩ = some (.int .u32 t2) := ((hK.alloc _).cell 3).trans rfl
  have y3 : (((w.alloc (.cells #[.slice A n c, .int .u32 t, .int .u32 nb, .int .u32 t2, .int .u32 nb2, .slice A2 n2 c2] 38)).alloc (.cells #[.int .u32 t, .int .u32 nb] 36)).alloc (.cells #[.int .u32 t2, .int .u32 nb2] 36)).cell? ⟨w.heap.size, 3, none⟩ = some (.int .u32 t2) := (((hK.alloc _).alloc _).cell 3).trans rfl
  have s4 : (w.alloc (.cells #[.slice A n c, .int .u32 t, .int .u32 nb, .int .u32 t2, .int .u32 nb2, .slice A2 n2 c2] 38)).cell? ⟨w.heap.size, 4, none⟩ = some (.int .u32 nb2) := (hK.cell 4).trans rfl
  have z4 : ((w.alloc (.cells #[.slice A n c, .int .u32 t, .int .u32 nb, .int .u32 t2, .int .u32 nb2, .slice A2 n2 c2] 38)).alloc (.cells #[.int .u32 t, .int .u32 nb] 36)).cell? ⟨w.heap.size, 4, none⟩ = some (.int .u32 nb2) := ((hK.alloc _).cell 4).trans rfl
  have y4 : (((w.alloc (.cells #[.slice A n c, .int .u32 t, .int .u32 nb, .int .u32 t2, .int .u32 nb2, .slice A2 n2 c2] 38)).alloc (.cells #[.int .u32 t, .int .u32 nb] 36)).alloc (.cells #[.int .u32 t2, .int .u32 nb2] 36)).cell? ⟨w.heap.size, 4, none⟩ = some (.int .u32 nb2) := (((hK.alloc _).alloc _).cell 4).trans rfl
  have s5 : (w.alloc (.cells #[.slice A n c, .int .u32 t, .int .u32 nb, .int .u32 t2, .int .u32 nb2, .slice A2 n2 c2] 38)).cell? ⟨w.heap.size, 5, none⟩ = some (.slice A2 n2 c2) := (hK.cell 5).trans rfl
  have z5 : ((w.alloc (.cells #[.slice A n c, .int .u32 t, .int .u32 nb, .int .u32 t2, .int .u32 nb2, .slice A2 n2 c2] 38)).alloc (.cells #[.int .u32 t, .int .u32 nb] 36)).cell? ⟨w.heap.size, 5, none⟩ = some (.slice A2 n2 c2) := ((hK.alloc _).cell 5).trans rfl
  have y5 : (((w.alloc (.cells #[.slice A n c, .int .u32 t, .int .u32 nb, .int .u32 t2, .int .u32 nb2, .slice A2 n2 c2] 38)).alloc (.cells #[.int .u32 t, .int .u32 nb] 36)).alloc (.cells #[.int .u32 t2, .int .u32 nb2] 36)).cell? ⟨w.heap.size, 5, none⟩ = some (.slice A2 n2 c2) := (((hK.alloc _).alloc _).cell 5).trans rfl
  clear hK
  go_enter Try.func5, Try.ntmps5
  go_upto_region 5 with (fail)
  have Z0 : Hid (Below w.heap.size w (((w.alloc (.cells #[.slice A n c, .int .u32 t, .int .u32 nb, .int .u32 t2, .int .u32 nb2, .slice A2 n2 c2] 38)).alloc (.cells #[.int .u32 t, .int .u32 nb] 36)).alloc (.cells #[.int .u32 t2, .int .u32 nb2] 36))) := by
    have h : Below w.heap.size w (((w.alloc (.cells #[.slice A n c, .int .u32 t, .int .u32 nb, .int .u32 t2, .int .u32 nb2, .slice A2 n2 c2] 38)).alloc (.cells #[.int .u32 t, .int .u32 nb] 36)).alloc (.cells #[.int .u32 t2, .int .u32 nb2] 36)) := (((Below.refl _ _).alloc (Nat.le_refl _) _).alloc (by simp) _).alloc (by simp; omega) _
    exact h
  have K1 : Hid (Blk (((w.alloc (.cells #[.slice A n c, .int .u32 t, .int .u32 nb, .int .u32 t2, .int .u32 nb2, .slice A2 n2 c2] 38)).alloc (.cells #[.int .u32 t, .int .u32 nb] 36)).alloc (.cells #[.int .u32 t2, .int .u32 nb2] 36)) (w.heap.size + 1) 36 #[.int .u32 t, .int .u32 nb]) := by
    have h := (Blk.new (w.alloc (.cells #[.slice A n c, .int .u32 t, .int .u32 nb, .int .u32 t2, .int .u32 nb2, .slice A2 n2 c2] 38)) 36 #[.int .u32 t, .int .u32 nb]).alloc (.cells #[.int .u32 t2, .int .u32 nb2] 36)
    rw [World.size_alloc] at h
    exact h
  have K2 : Hid (Blk (((w.alloc (.cells #[.slice A n c, .int .u32 t, .int .u32 nb, .int .u32 t2, .int .u32 nb2, .slice A2 n2 c2] 38)).alloc (.cells #[.int .u32 t, .int .u32 nb] 36)).alloc (.cells #[.int .u32 t2, .int .u32 nb2] 36)) (w.heap.size + 2) 36 #[.int .u32 t2, .int .u32 nb2]) := by
    have h := Blk.new ((w.alloc (.cells #[.slice A n c, .int .u32 t, .int .u32 nb, .int .u32 t2, .int .u32 nb2, .slice A2 n2 c2] 38)).alloc (.cells #[.int .u32 t, .int .u32 nb] 36)) 36 #[.int .u32 t2, .int .u32 nb2]
    rw [World.size_alloc, World.size_alloc] at h
    exact h
  clear s0 z0 y0 s1 z1 y1 s2 z2 y2 s3 z3 y3 s4 z4 y4 s5 z5 y5
  generalize ((w.alloc (.cells #[.slice A n c, .int .u32 t, .int .u32 nb, .int .u32 t2, .int .u32 nb2, .slice A2 n2 c2] 38)).alloc (.cells #[.int .u32 t, .int .u32 nb] 36)).alloc (.cells #[.int .u32 t2, .int .u32 nb2] 36) = w0 at *
  have HB0 : Hid (Bytes w0 w0.heap.size A l) := by
    have h := (HB.out.below Z0.out).more Z0.out.size
    exact h
  have p0 : w0.cell? ⟨w.heap.size + 1, 0, none⟩ = some (.int .u32 t) := (K1.out.cell 0).trans rfl
  have p1 : w0.cell? ⟨w.heap.size + 1, 1, none⟩ = some (.int .u32 nb) := (K1.out.cell 1).trans rfl
  have r0 : w0.cell? ⟨w.heap.size + 2, 0, none⟩ = some (.int .u32 t2) := (K2.out.cell 0).trans rfl
  have r1 : w0.cell? ⟨w.heap.size + 2, 1, none⟩ = some (.int .u32 nb2) := (K2.out.cell 1).trans rfl
  by_cases hbig : 4096 < n
  · go_wp2_with fail
    refine (works_any _).mono ?_
    rintro e w1 ⟨rfl, hb1⟩
    go_wp2_with fail
    go_ret
    exact ⟨rfl, Z0.out.trans (hb1.mono Z0.out.size)⟩
  by_cases hbig2 : 4096 < n2
  · go_wp2_with fail
    refine (works_any _).mono ?_
    rintro e w1 ⟨rfl, hb1⟩
    go_wp2_with fail
    go_ret
    exact ⟨rfl, Z0.out.trans (hb1.mono Z0.out.size)⟩
  by_cases h240 : 240 < n
  · go_wp2_with fail
    refine (make_no t nb A n c _ h240 (by omega)).mono ?_
    rintro e w1 ⟨rfl, rfl⟩
    go_wp2_with fail
    refine (works_any _).mono ?_
    rintro e w2 ⟨rfl, hb2⟩
    go_wp2_with fail
    go_ret
    exact ⟨rfl, Z0.out.trans (hb2.mono Z0.out.size)⟩
  have HPL : Hid ((pageL t nb l).length = 256) := by
    have h : (pageL t nb l).length = 256 := pageL_length t nb l (by rw [HL.out]; omega)
    exact h
  have HSP : Hid (Says (pageL t nb l) t nb l) := by
    have h : Says (pageL t nb l) t nb l := says_page t nb l (by rw [HL.out]; omega)
    exact h
  go_wp2_with fail
  refine (make_ok t nb A n c l _ ht hnb HL.out HB0.out (by omega)).mono ?_
  rintro e w1 ⟨A3, c3, rfl, hO1, hb1⟩
  have HO1 := Lib.hid hO1
  have Hb1 := Lib.hid (Z0.out.trans (hb1.mono Z0.out.size))
  have K1a := Lib.hid (K1.out.below hb1 K1.out.lt)
  have K2a := Lib.hid (K2.out.below hb1 K2.out.lt)
  clear hO1 hb1 p0 p1 r0 r1
  have p0 : w1.cell? ⟨w.heap.size + 1, 0, none⟩ = some (.int .u32 t) := (K1a.out.cell 0).trans rfl
  have p1 : w1.cell? ⟨w.heap.size + 1, 1, none⟩ = some (.int .u32 nb) := (K1a.out.cell 1).trans rfl
  have r0 : w1.cell? ⟨w.heap.size + 2, 0, none⟩ = some (.int .u32 t2) := (K2a.out.cell 0).trans rfl
  have r1 : w1.cell? ⟨w.heap.size + 2, 1, none⟩ = some (.int .u32 nb2) := (K2a.out.cell 1).trans rfl
  go_wp2_with fail
  refine (open_says A3 256 c3 t nb _ l _ HSP.out HPL.out HO1.out.bytes HO1.out.2.1 HO1.out.2.2.1 ht hnb).mono ?_
  rintro e w2 ⟨A4, c4, rfl, hO2, hb2⟩
  rw [HL.out] at hO2 ⊢
  have HO2 := Lib.hid hO2
  have HO12 := Lib.hid (HO1.out.below hb2)
  have Hb2 := Lib.hid (Hb1.out.trans (hb2.mono Hb1.out.size))
  have K1b := Lib.hid (K1a.out.below hb2 K1a.out.lt)
  have K2b := Lib.hid (K2a.out.below hb2 K2a.out.lt)
  clear hO2 hb2 p0 p1 r0 r1
  have p0 : w2.cell? ⟨w.heap.size + 1, 0, none⟩ = some (.int .u32 t) := (K1b.out.cell 0).trans rfl
  have p1 : w2.cell? ⟨w.heap.size + 1, 1, none⟩ = some (.int .u32 nb) := (K1b.out.cell 1).trans rfl
  have r0 : w2.cell? ⟨w.heap.size + 2, 0, none⟩ = some (.int .u32 t2) := (K2b.out.cell 0).trans rfl
  have r1 : w2.cell? ⟨w.heap.size + 2, 1, none⟩ = some (.int .u32 nb2) := (K2b.out.cell 1).trans rfl
  have HOA : Hid (∃ R E, OpenAns (pageL t nb l) t2 nb2 R E ∧ ((t = t2 ∧ nb = nb2 ∧ R = l ∧ E = 0) ∨ (¬ (t = t2 ∧ nb = nb2) ∧ R = [] ∧ E = 7))) := by
    have h : ∃ R E, OpenAns (pageL t nb l) t2 nb2 R E ∧ ((t = t2 ∧ nb = nb2 ∧ R = l ∧ E = 0) ∨ (¬ (t = t2 ∧ nb = nb2) ∧ R = [] ∧ E = 7)) := by
      by_cases hs : t = t2 ∧ nb = nb2
      · obtain ⟨rfl, rfl⟩ := hs
        exact ⟨l, 0, .inl ⟨HSP.out, rfl⟩, .inl ⟨rfl, rfl, rfl, rfl⟩⟩
      · exact ⟨[], 7, pageother t nb t2 nb2 l (by rw [HL.out]; omega) ht hnb ht2 hnb2 hs, .inr ⟨hs, rfl, rfl⟩⟩
    exact h
  obtain ⟨R, E, hA, hcase⟩ := HOA.out
  have HA := Lib.hid hA
  clear hA HOA
  go_wp2_with fail
  refine (open_ans A3 256 c3 t2 nb2 (pageL t nb l) R E _ HA.out HPL.out HO12.out.bytes (by omega) HO12.out.2.1 HO12.out.2.2.1 ht2 hnb2).mono ?_
  rintro e w3 ⟨A5, c5, rfl, hO3, hb3⟩
  have HO3 := Lib.hid hO3
  have HO23 := Lib.hid (HO2.out.below hb3)
  have Hb3 := Lib.hid (Hb2.out.trans (hb3.mono Hb2.out.size))
  have K1c := Lib.hid (K1b.out.below hb3 K1b.out.lt)
  have K2c := Lib.hid (K2b.out.below hb3 K2b.out.lt)
  clear hO3 hb3 p0 p1 r0 r1
  have p0 : w3.cell? ⟨w.heap.size + 1, 0, none⟩ = some (.int .u32 t) := (K1c.out.cell 0).trans rfl
  have p1 : w3.cell? ⟨w.heap.size + 1, 1, none⟩ = some (.int .u32 nb) := (K1c.out.cell 1).trans rfl
  have r0 : w3.cell? ⟨w.heap.size + 2, 0, none⟩ = some (.int .u32 t2) := (K2c.out.cell 0).trans rfl
  have r1 : w3.cell? ⟨w.heap.size + 2, 1, none⟩ = some (.int .u32 nb2) := (K2c.out.cell 1).trans rfl
  have HB3 : Hid (Bytes w3 w3.heap.size A l) := by
    have h := (HB.out.below Hb3.out).more Hb3.out.size
    exact h
  have HB32 : Hid (Bytes w3 w3.heap.size A2 l2) := by
    have h := (HB2.out.below Hb3.out).more Hb3.out.size
    exact h
  have HLL : Hid ((l == l) = true) := by
    have h : (l == l) = true := by simp
    exact h
  obtain ⟨R2, E2, hA2, hR2⟩ := openAns l2 t nb
  have hA2c : (Says l2 t nb R2 ∧ E2 = 0) ∨ (R2 = [] ∧ E2 = 7) := by
    rcases hA2 with ⟨h1, h2⟩ | ⟨_, h2⟩
    · exact .inl ⟨h1, h2⟩
    · exact .inr h2
  have HA2 := Lib.hid hA2
  have HA2c := Lib.hid hA2c
  clear hA2 hA2c
  have TAIL : Hid (∀ W : World, Since w3 W → Calls Try.prog 19 #[.slice A2 n2 c2, .int .u32 t, .int .u32 nb] W fun e w' => ∃ A' c', e = .returned (.tuple #[.slice A' R2.length c', .int .i64 E2]) ∧ OwnB w' W.heap.size 5 A' R2.length c' R2 ∧ Below W.heap.size W w') := by
    have h : ∀ W : World, Since w3 W → Calls Try.prog 19 #[.slice A2 n2 c2, .int .u32 t, .int .u32 nb] W fun e w' => ∃ A' c', e = .returned (.tuple #[.slice A' R2.length c', .int .i64 E2]) ∧ OwnB w' W.heap.size 5 A' R2.length c' R2 ∧ Below W.heap.size W w' := fun W hS =>
      open_ans A2 n2 c2 t nb l2 R2 E2 W HA2.out HL2.out ((HB32.out.below hS).more (Below.size hS)) (by omega) hnc2 hcm2 ht hnb
    exact h
  have hAr : ∀ a b c d : Int, (Op.equalIn 10000 36 (.agg #[.int .u32 a, .int .u32 b]) (.agg #[.int .u32 c, .int .u32 d])).run Try.prog w3 = .ok (a == c && b == d) w3 := eql2 w3
  rcases hcase with ⟨rfl, rfl, rfl, rfl⟩ | ⟨hne, rfl, rfl⟩
  · have HRL : Hid (R.length = n) := Lib.hid HL.out
    go_wp2_with fail
    refine (eq_any A n c A4 n c4 R R _ HL.out HB3.out HL.out HO23.out.bytes).mono ?_
    rintro e w3' ⟨rfl, rfl⟩
    rw [HLL.out]
    go_wp2_with fail
    refine (eq_any A n c A5 R.length c5 R R _ HL.out HB3.out rfl HO3.out.bytes).mono ?_
    rintro e w3' ⟨rfl, rfl⟩
    rw [HLL.out]
    go_wp2_with fail
    refine (TAIL.out _ (Since.refl _)).mono ?_
    rintro e w6 ⟨A6, c6, rfl, hO6, hb6⟩
    have HO6 := Lib.hid hO6
    have HB62 := Lib.hid ((HB32.out.below hb6).more hb6.size)
    have Hb6 := Lib.hid (Hb3.out.trans (hb6.mono Hb3.out.size))
    have K1d := Lib.hid (K1c.out.below hb6 K1c.out.lt)
    have K2d := Lib.hid (K2c.out.below hb6 K2c.out.lt)
    clear hO6 hb6 p0 p1 r0 r1 hAr
    have p0 : w6.cell? ⟨w.heap.size + 1, 0, none⟩ = some (.int .u32 t) := (K1d.out.cell 0).trans rfl
    have p1 : w6.cell? ⟨w.heap.size + 1, 1, none⟩ = some (.int .u32 nb) := (K1d.out.cell 1).trans rfl
    have hcc := HA2c.out
    clear HA2c TAIL
    rcases hcc with ⟨hsay, rfl⟩ | ⟨rfl, rfl⟩
    · have HSAY := Lib.hid hsay
      clear hsay
      go_wp2_with fail
      refine (make_ok t nb A6 R2.length c6 R2 _ ht hnb rfl HO6.out.bytes (by omega)).mono ?_
      rintro e w7 ⟨A7, c7, rfl, hO7, hb7⟩
      have HO7 := Lib.hid hO7
      have HB72 := Lib.hid ((HB62.out.below hb7).more hb7.size)
      have Hb7 := Lib.hid (Hb6.out.trans (hb7.mono Hb6.out.size))
      clear hO7 hb7
      go_wp2_with fail
      refine (eq_any A2 n2 c2 A7 256 c7 l2 (pageL t nb R2) _ HL2.out HB72.out HO7.out.1 HO7.out.bytes).mono ?_
      rintro e w7' ⟨rfl, rfl⟩
      have hd : (l2 == pageL t nb R2) = true := by rw [beq_iff_eq]; exact HSAY.out.2
      rw [hd]
      clear hd
      go_wp2_with fail
      refine (works_any _).mono ?_
      rintro e w8 ⟨rfl, hb8⟩
      go_wp2_with fail
      go_ret
      exact ⟨rfl, Hb7.out.trans (hb8.mono Hb7.out.size)⟩
    · go_wp2_with fail
      refine (works_any _).mono ?_
      rintro e w8 ⟨rfl, hb8⟩
      go_wp2_with fail
      go_ret
      exact ⟨rfl, Hb6.out.trans (hb8.mono Hb6.out.size)⟩
  · by_cases e1 : t = t2
    · have e2 : ¬ nb = nb2 := fun e2 => hne ⟨e1, e2⟩
      subst e1
      have hd2 : ((nb : Int) == (nb2 : Int)) = false := by simp; omega
      clear hne e2
      go_wp2_with fail
      refine (eq_any A n c A4 n c4 l l _ HL.out HB3.out HL.out HO23.out.bytes).mono ?_
      rintro e w3' ⟨rfl, rfl⟩
      rw [HLL.out]
      go_wp2_with fail
      refine (TAIL.out _ (Since.refl _)).mono ?_
      rintro e w6 ⟨A6, c6, rfl, hO6, hb6⟩
      have HO6 := Lib.hid hO6
      have HB62 := Lib.hid ((HB32.out.below hb6).more hb6.size)
      have Hb6 := Lib.hid (Hb3.out.trans (hb6.mono Hb3.out.size))
      have K1d := Lib.hid (K1c.out.below hb6 K1c.out.lt)
      have K2d := Lib.hid (K2c.out.below hb6 K2c.out.lt)
      clear hO6 hb6 p0 p1 r0 r1 hAr
      have p0 : w6.cell? ⟨w.heap.size + 1, 0, none⟩ = some (.int .u32 t) := (K1d.out.cell 0).trans rfl
      have p1 : w6.cell? ⟨w.heap.size + 1, 1, none⟩ = some (.int .u32 nb) := (K1d.out.cell 1).trans rfl
      have hcc := HA2c.out
      clear HA2c TAIL
      rcases hcc with ⟨hsay, rfl⟩ | ⟨rfl, rfl⟩
      · have HSAY := Lib.hid hsay
        clear hsay
        go_wp2_with fail
        refine (make_ok t nb A6 R2.length c6 R2 _ ht hnb rfl HO6.out.bytes (by omega)).mono ?_
        rintro e w7 ⟨A7, c7, rfl, hO7, hb7⟩
        have HO7 := Lib.hid hO7
        have HB72 := Lib.hid ((HB62.out.below hb7).more hb7.size)
        have Hb7 := Lib.hid (Hb6.out.trans (hb7.mono Hb6.out.size))
        clear hO7 hb7
        go_wp2_with fail
        refine (eq_any A2 n2 c2 A7 256 c7 l2 (pageL t nb R2) _ HL2.out HB72.out HO7.out.1 HO7.out.bytes).mono ?_
        rintro e w7' ⟨rfl, rfl⟩
        have hd : (l2 == pageL t nb R2) = true := by rw [beq_iff_eq]; exact HSAY.out.2
        rw [hd]
        clear hd
        go_wp2_with fail
        refine (works_any _).mono ?_
        rintro e w8 ⟨rfl, hb8⟩
        go_wp2_with fail
        go_ret
        exact ⟨rfl, Hb7.out.trans (hb8.mono Hb7.out.size)⟩
      · go_wp2_with fail
        refine (works_any _).mono ?_
        rintro e w8 ⟨rfl, hb8⟩
        go_wp2_with fail
        go_ret
        exact ⟨rfl, Hb6.out.trans (hb8.mono Hb6.out.size)⟩
    · have hd2 : ((t : Int) == (t2 : Int)) = false := by simp; omega
      clear hne e1
      go_wp2_with fail
      refine (eq_any A n c A4 n c4 l l _ HL.out HB3.out HL.out HO23.out.bytes).mono ?_
      rintro e w3' ⟨rfl, rfl⟩
      rw [HLL.out]
      go_wp2_with fail
      refine (TAIL.out _ (Since.refl _)).mono ?_
      rintro e w6 ⟨A6, c6, rfl, hO6, hb6⟩
      have HO6 := Lib.hid hO6
      have HB62 := Lib.hid ((HB32.out.below hb6).more hb6.size)
      have Hb6 := Lib.hid (Hb3.out.trans (hb6.mono Hb3.out.size))
      have K1d := Lib.hid (K1c.out.below hb6 K1c.out.lt)
      have K2d := Lib.hid (K2c.out.below hb6 K2c.out.lt)
      clear hO6 hb6 p0 p1 r0 r1 hAr
      have p0 : w6.cell? ⟨w.heap.size + 1, 0, none⟩ = some (.int .u32 t) := (K1d.out.cell 0).trans rfl
      have p1 : w6.cell? ⟨w.heap.size + 1, 1, none⟩ = some (.int .u32 nb) := (K1d.out.cell 1).trans rfl
      have hcc := HA2c.out
      clear HA2c TAIL
      rcases hcc with ⟨hsay, rfl⟩ | ⟨rfl, rfl⟩
      · have HSAY := Lib.hid hsay
        clear hsay
        go_wp2_with fail
        refine (make_ok t nb A6 R2.length c6 R2 _ ht hnb rfl HO6.out.bytes (by omega)).mono ?_
        rintro e w7 ⟨A7, c7, rfl, hO7, hb7⟩
        have HO7 := Lib.hid hO7
        have HB72 := Lib.hid ((HB62.out.below hb7).more hb7.size)
        have Hb7 := Lib.hid (Hb6.out.trans (hb7.mono Hb6.out.size))
        clear hO7 hb7
        go_wp2_with fail
        refine (eq_any A2 n2 c2 A7 256 c7 l2 (pageL t nb R2) _ HL2.out HB72.out HO7.out.1 HO7.out.bytes).mono ?_
        rintro e w7' ⟨rfl, rfl⟩
        have hd : (l2 == pageL t nb R2) = true := by rw [beq_iff_eq]; exact HSAY.out.2
        rw [hd]
        clear hd
        go_wp2_with fail
        refine (works_any _).mono ?_
        rintro e w8 ⟨rfl, hb8⟩
        go_wp2_with fail
        go_ret
        exact ⟨rfl, Hb7.out.trans (hb8.mono Hb7.out.size)⟩
      · go_wp2_with fail
        refine (works_any _).mono ?_
        rintro e w8 ⟨rfl, hb8⟩
        go_wp2_with fail
        go_ret
        exact ⟨rfl, Hb6.out.trans (hb8.mono Hb6.out.size)⟩
end Go.Proofs.Ytflgelkpblnkcaa
