/- PageBursts: a page that a burst of at most 32 bits has turned is not opened, wherever the burst lies. -/
import Derived.Test.YtflgelkpblnkcaaPageWorks
import Derived.Test.YtflgelkpblnkcaaPageTurned
import Derived.Deep.Cut
set_option linter.unusedSimpArgs false
set_option linter.unusedVariables false
namespace Go.Proofs.Ytflgelkpblnkcaa
open Go.RowKit Mp

set_option maxRecDepth 100000 in
set_option maxHeartbeats 3200000 in
theorem law_bursts (t nb : Nat) (A : Option Addr) (n c : Nat) (l : List UInt8) (a : Int) (m : Nat) (w : World) (ht : t ≤ 4294967295) (hnb : nb ≤ 4294967295) (hm : m ≤ 4294967295) (ha1 : -9223372036854775808 ≤ a) (ha2 : a ≤ 9223372036854775807) (hl : l.length = n) (hb : Bytes w w.heap.size A l) (hnc : n ≤ c) (hcm : c ≤ maxLen) :
    Calls Try.prog 6 #[.agg #[.int .u32 t, .int .u32 nb, .slice A n c, .int .i64 a, .int .u32 m]] w fun e w' => e = .returned (.bool true) ∧ Below w.heap.size w w' := by
  have HL := Lib.hid hl
  have HB := Lib.hid hb
  clear hl hb
  have ht1 : -2048 < a.tmod 2048 := by have := Int.lt_tmod_of_pos a (show (0 : Int) < 2048 by omega); omega
  have ht2 : a.tmod 2048 < 2048 := Int.tmod_lt_of_pos a (by omega)
  have hq1 : 0 ≤ (a.tmod 2048 + 2048) % 2048 := Int.emod_nonneg _ (by omega)
  have hq2 : (a.tmod 2048 + 2048) % 2048 < 2048 := Int.emod_lt_of_pos _ (by omega)
  have hqs : (a.tmod 2048 + 2048) % 2048 = a.tmod 2048 % 2048 := by omega
  obtain ⟨q, hq⟩ := Int.eq_ofNat_of_zero_le hq1
  have hqn : q < 2048 := by omega
  have hq' := hqs.symm.trans hq
  clear hq1 hq2 hqs
  have HQ1 := Lib.hid hq
  have HQ2 := Lib.hid hq'
  clear hq hq'
  have hK := Blk.new w 41 #[.int .u32 t, .int .u32 nb, .slice A n c, .int .i64 a, .int .u32 m]
  have s0 : (w.alloc (.cells #[.int .u32 t, .int .u32 nb, .slice A n c, .int .i64 a, .int .u32 m] 41)).cell? ⟨w.heap.size, 0, none⟩ = some (.int .u32 t) := (hK.cell 0).trans rfl
  have s1 : (w.alloc (.cells #[.int .u32 t, .int .u32 nb, .slice A n c, .int .i64 a, .int .u32 m] 41)).cell? ⟨w.heap.size, 1, none⟩ = some (.int .u32 nb) := (hK.cell 1).trans rfl
  have s2 : (w.alloc (.cells #[.int .u32 t, .int .u32 nb, .slice A n c, .int .i64 a, .int .u32 m] 41)).cell? ⟨w.heap.size, 2, none⟩ = some (.slice A n c) := (hK.cell 2).trans rfl
  have s3 : (w.alloc (.cells #[.int .u32 t, .int .u32 nb, .slice A n c, .int .i64 a, .int .u32 m] 41)).cell? ⟨w.heap.size, 3, none⟩ = some (.int .i64 a) := (hK.cell 3).trans rfl
  have s4 : (w.alloc (.cells #[.int .u32 t, .int .u32 nb, .slice A n c, .int .i64 a, .int .u32 m] 41)).cell? ⟨w.heap.size, 4, none⟩ = some (.int .u32 m) := (hK.cell 4).trans rfl
  clear hK
  go_enter Try.func6, Try.ntmps6
  go_upto_region 5 with (fail)
  have Z0 : Hid (Below w.heap.size w ((w.alloc (.cells #[.int .u32 t, .int .u32 nb, .slice A n c, .int .i64 a, .int .u32 m] 41)).alloc (.cells #[.int .u32 t, .int .u32 nb] 36))) := by
    have h : Below w.heap.size w ((w.alloc (.cells #[.int .u32 t, .int .u32 nb, .slice A n c, .int .i64 a, .int .u32 m] 41)).alloc (.cells #[.int .u32 t, .int .u32 nb] 36)) := ((Below.refl _ _).alloc (Nat.le_refl _) _).alloc (by simp) _
    exact h
  have K1 : Hid (Blk ((w.alloc (.cells #[.int .u32 t, .int .u32 nb, .slice A n c, .int .i64 a, .int .u32 m] 41)).alloc (.cells #[.int .u32 t, .int .u32 nb] 36)) (w.heap.size + 1) 36 #[.int .u32 t, .int .u32 nb]) := by
    have h := Blk.new (w.alloc (.cells #[.int .u32 t, .int .u32 nb, .slice A n c, .int .i64 a, .int .u32 m] 41)) 36 #[.int .u32 t, .int .u32 nb]
    rw [World.size_alloc] at h
    exact h
  clear s0 s1 s2 s3 s4
  generalize (w.alloc (.cells #[.int .u32 t, .int .u32 nb, .slice A n c, .int .i64 a, .int .u32 m] 41)).alloc (.cells #[.int .u32 t, .int .u32 nb] 36) = w0 at *
  have HB0 : Hid (Bytes w0 w0.heap.size A l) := by
    have h := (HB.out.below Z0.out).more Z0.out.size
    exact h
  have p0 : w0.cell? ⟨w.heap.size + 1, 0, none⟩ = some (.int .u32 t) := (K1.out.cell 0).trans rfl
  have p1 : w0.cell? ⟨w.heap.size + 1, 1, none⟩ = some (.int .u32 nb) := (K1.out.cell 1).trans rfl
  by_cases hbig : 4096 < n
  · go_wp2_with fail
    refine (works_any _).mono ?_
    rintro e w1 ⟨rfl, hb1⟩
    go_wp2_with fail
    go_ret
    exact ⟨rfl, Z0.out.trans (hb1.mono Z0.out.size)⟩
  by_cases h240 : 240 < n
  · go_wp2_with fail
    refine (make_no t nb A n c _ h240 (by omega)).mono ?_
    rintro e w1 ⟨rfl, rfl⟩
    go_wp2_with fail
    refine (works_any _).mono ?_
    rintro e w2 ⟨rfl, hb2⟩
    go_wp2_with fail
    go_ret
    exact ⟨rfl, Z0.out.trans (hb2.mono Z0.out.size)⟩
  have HPL : Hid ((pageL t nb l).length = 256) := by
    have h : (pageL t nb l).length = 256 := pageL_length t nb l (by rw [HL.out]; omega)
    exact h
  go_wp2_with fail
  refine (make_ok t nb A n c l _ ht hnb HL.out HB0.out (by omega)).mono ?_
  rintro e w1 ⟨A1, c1, rfl, hO1, hb1⟩
  have HO1 := Lib.hid hO1
  have Hb1 := Lib.hid (Z0.out.trans (hb1.mono Z0.out.size))
  have K1a := Lib.hid (K1.out.below hb1 K1.out.lt)
  clear hO1 hb1 p0 p1
  have p0 : w1.cell? ⟨w.heap.size + 1, 0, none⟩ = some (.int .u32 t) := (K1a.out.cell 0).trans rfl
  have p1 : w1.cell? ⟨w.heap.size + 1, 1, none⟩ = some (.int .u32 nb) := (K1a.out.cell 1).trans rfl
  have hqA := HQ1.out
  have hqB := HQ2.out
  go_wp2_with fail
  clear hqA hqB
  refine (turned_any A1 256 c1 q m (pageL t nb l) _ HPL.out HO1.out.bytes (by omega) (by omega) hm).mono ?_
  rintro e w2 ⟨A2, c2, tt, rfl, hO2, hBu, hb2⟩
  have HO2 := Lib.hid hO2
  have HBU := Lib.hid hBu
  have HO12 := Lib.hid (HO1.out.below hb2)
  have Hb2 := Lib.hid (Hb1.out.trans (hb2.mono Hb1.out.size))
  have K2a := Lib.hid (K1a.out.below hb2 K1a.out.lt)
  clear hO2 hBu hb2 p0 p1
  have p0 : w2.cell? ⟨w.heap.size + 1, 0, none⟩ = some (.int .u32 t) := (K2a.out.cell 0).trans rfl
  have p1 : w2.cell? ⟨w.heap.size + 1, 1, none⟩ = some (.int .u32 nb) := (K2a.out.cell 1).trans rfl
  go_wp2_with fail
  refine (eq_any A1 256 c1 A2 256 c2 (pageL t nb l) tt _ HPL.out HO12.out.bytes HO2.out.1 HO2.out.bytes).mono ?_
  rintro e w2' ⟨rfl, rfl⟩
  by_cases hpt : pageL t nb l = tt
  · have hd : (pageL t nb l == tt) = true := by rw [beq_iff_eq]; exact hpt
    rw [hd]
    clear hd hpt
    go_wp2_with fail
    refine (works_any _).mono ?_
    rintro e w3 ⟨rfl, hb3⟩
    go_wp2_with fail
    go_ret
    exact ⟨rfl, Hb2.out.trans (hb3.mono Hb2.out.size)⟩
  · have hd : (pageL t nb l == tt) = false := by rw [beq_eq_false_iff_ne]; exact hpt
    rw [hd]
    have HPT := Lib.hid hpt
    clear hd hpt
    go_wp2_with fail
    refine (open_shut A2 256 c2 t nb tt _ (burst_shut (by rw [HL.out]; omega) HBU.out HPT.out) HO2.out.1 HO2.out.bytes (by omega) HO2.out.2.1 HO2.out.2.2.1 ht hnb).mono ?_
    rintro e w3 ⟨rfl, hb3⟩
    have Hb3 := Lib.hid (Hb2.out.trans (hb3.mono Hb2.out.size))
    clear hb3
    go_wp2_with fail
    refine (works_any _).mono ?_
    rintro e w4 ⟨rfl, hb4⟩
    go_wp2_with fail
    go_ret
    exact ⟨rfl, Hb3.out.trans (hb4.mono Hb3.out.size)⟩
end Go.Proofs.Ytflgelkpblnkcaa
