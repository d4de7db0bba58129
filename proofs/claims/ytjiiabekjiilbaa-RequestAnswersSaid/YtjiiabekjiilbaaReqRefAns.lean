/- The document's Answer. -/
import Derived.Test.YtjiiabekjiilbaaReqCopy
import Derived.Deep.Cut
set_option linter.unusedSimpArgs false
set_option linter.unusedVariables false
namespace Go.Proofs.Ytjiiabekjiilbaa
open Go.RowKit Mp

set_option maxRecDepth 100000 in
set_option maxHeartbeats 6400000 in
theorem refanswer_any (k : Nat) (err : Int) (fd : Bool) (ds n c st : Nat) (A : Option Addr) (ws : List Ed) (eb : UInt8) (w : World) (heb : err % 256 = (eb.toNat : Int)) (herr : -9223372036854775808 ≤ err ∧ err ≤ 9223372036854775807)
    (hds : ds ≤ 18446744073709551615) (hst : st ≤ 255) (hws : ws.length = n) (hW : WayAt w w.heap.size A ws) (hok : ∀ x ∈ ws, x.ok) (hn : n ≤ 65536) :
    Calls Try.prog 20 #[.int .u8 k, .agg (repC err fd ds (.slice A n c) st)] w fun e w' => ∃ A' m c', e = .returned (.slice A' m c') ∧ OwnB w' w.heap.size 5 A' m c' (ansL eb (bodyL k fd ds st n ws)) ∧ Below w.heap.size w w' := by
  obtain ⟨i0, hi0, hz0, hz1, hz2⟩ := info_parts info_u8
  have HWS := Lib.hid hws
  have HOK := Lib.hid hok
  have HEB := Lib.hid heb
  have K0 := Lib.hid (Blk.new w 37 (repC err fd ds (.slice A n c) st))
  have Z0 : Hid (Below w.heap.size w (w.alloc (.cells (repC err fd ds (.slice A n c) st) 37))) := (Below.refl w.heap.size w).alloc (Nat.le_refl _) _
  have HWW := Lib.hid hW
  clear hws hW hok heb
  go_enter Try.func20, Try.ntmps20
  unfold repC at *
  go_upto_region 2 with (fail)
  have HO1 : Hid (OwnB ((w.alloc (.cells #[.int .i64 err, .bool fd, .int .u64 ds, .slice A n c, .int .u8 st] 37)).alloc (.cells #[.int .u8 (err % 256)] 5)) (w.heap.size + 1) 5 (some ⟨w.heap.size + 1, 0, none⟩) 1 1 [eb]) := by
    have h := (own_one (w.alloc (.cells #[.int .i64 err, .bool fd, .int .u64 ds, .slice A n c, .int .u8 st] 37)) (err % 256) eb HEB.out)
    rw [show (w.alloc (.cells #[.int .i64 err, .bool fd, .int .u64 ds, .slice A n c, .int .u8 st] 37)).heap.size = w.heap.size + 1 from World.size_alloc _ _] at h
    exact h
  have K1 := Lib.hid (K0.out.alloc (.cells #[.int .u8 (err % 256)] 5))
  have Z1 : Hid (Below w.heap.size w ((w.alloc (.cells #[.int .i64 err, .bool fd, .int .u64 ds, .slice A n c, .int .u8 st] 37)).alloc (.cells #[.int .u8 (err % 256)] 5))) := by
    have h := Z0.out.alloc Z0.out.size (.cells #[.int .u8 (err % 256)] 5)
    exact h
  clear K0
  generalize (w.alloc (.cells #[.int .i64 err, .bool fd, .int .u64 ds, .slice A n c, .int .u8 st] 37)).alloc (.cells #[.int .u8 (err % 256)] 5) = w1 at *
  have b0 : w1.cell? ⟨w.heap.size + 1, 0, none⟩ = some (.int .u8 (err % 256)) := by
    obtain ⟨g, hg, _, _, hc⟩ := ans_head (eb := eb) (X := []) (by rw [show ansL eb [] = [eb] by unfold ansL; split <;> simp]; exact HO1.out)
    injection hg with hg
    injection hg with hg
    rw [hg, HEB.out]
    exact hc
  have q1 : w1.cell? ⟨w.heap.size, 1, none⟩ = some (.bool fd) := (K1.out.cell 1).trans rfl
  have q4 : w1.cell? ⟨w.heap.size, 4, none⟩ = some (.int .u8 st) := (K1.out.cell 4).trans rfl
  have hsz : w.heap.size + 1 ≤ w1.heap.size := K1.out.lt
  by_cases he : eb = 0
  · subst he
    have he0 : err % 256 = 0 := HEB.out
    have hwr : IntKind.u8.wrap err = 0 := by simp [IntKind.wrap, IntKind.signed, IntKind.bits]; exact he0
    by_cases h1 : k = 1
    · subst h1
      have HE := Lib.hid (show ansL 0 (bodyL 1 fd ds st n ws) = [0] ++ flagL fd ++ le 8 ds by rw [ansL_zero rfl, body1, distL, List.append_assoc])
      go_wp2_with fail
      refine (refflag_any _ 1 1 (w.heap.size + 1) fd [0] _ HO1.out (by omega) hsz).mono ?_
      rintro e w2 ⟨A2, c2, rfl, hO2, hb2⟩
      have HO2 := Lib.hid hO2
      have K2 := Lib.hid (K1.out.below hb2 (Nat.lt_succ_self _))
      have Z2 := Lib.hid (Z1.out.trans (hb2.mono (Nat.le_succ _)))
      clear hO2 hb2 q1 q4
      have q2 : w2.cell? ⟨w.heap.size, 2, none⟩ = some (.int .u64 ds) := (K2.out.cell 2).trans rfl
      go_wp2_with fail
      refine (refput_put A2 2 c2 ds 8 ([0] ++ flagL fd) _ sz8 HO2.out.1 HO2.out.bytes (by omega) hds).mono ?_
      rintro e w3 ⟨A3, c3, rfl, hO3, hb3⟩
      have HO3 := Lib.hid (hO3.mono Z2.out.size)
      have Z3 := Lib.hid (Z2.out.trans (hb3.mono Z2.out.size))
      clear hO3 hb3
      go_wp2_with fail
      go_ret
      exact ⟨A3, 10, c3, rfl, by rw [HE.out]; exact HO3.out, Z3.out⟩
    by_cases h2 : k = 2
    · subst h2
      have HE := Lib.hid (show ansL 0 (bodyL 2 fd ds st n ws) = [0] ++ flagL fd ++ le 4 n ++ wayL ws by rw [ansL_zero rfl, body2]; simp)
      go_wp2_with fail
      refine (refflag_any _ 1 1 (w.heap.size + 1) fd [0] _ HO1.out (by omega) hsz).mono ?_
      rintro e w2 ⟨A2, c2, rfl, hO2, hb2⟩
      have HO2 := Lib.hid hO2
      have K2 := Lib.hid (K1.out.below hb2 (Nat.lt_succ_self _))
      have Z2 := Lib.hid (Z1.out.trans (hb2.mono (Nat.le_succ _)))
      clear hO2 hb2 q1 q4
      have q3 : w2.cell? ⟨w.heap.size, 3, none⟩ = some (.slice A n c) := (K2.out.cell 3).trans rfl
      go_wp2_with fail
      refine (refput_put A2 2 c2 n 4 ([0] ++ flagL fd) _ sz4 HO2.out.1 HO2.out.bytes (by omega) (by omega)).mono ?_
      rintro e w3 ⟨A3, c3, rfl, hO3, hb3⟩
      have HO3 := Lib.hid (hO3.mono (Nat.le_of_lt K2.out.lt))
      have K3 := Lib.hid (K2.out.below hb3 K2.out.lt)
      have HO3' := Lib.hid (hO3.mono (show w.heap.size + 1 ≤ w2.heap.size from K2.out.lt))
      have Z3 := Lib.hid (Z2.out.trans (hb3.mono Z2.out.size))
      clear hO3 hb3 q3
      generalize hP : [0] ++ flagL fd ++ le 4 n = P at *
      clear hP
      go_wp2_with fail
      go_loopw [5, 6] (fun v i wr => ∃ (j : Nat) (A' : Option Addr) (c' : Nat), j ≤ n ∧ i = .int .i64 j ∧ v = .slice A' (6 + 16 * j) c' ∧ OwnB wr (w.heap.size + 1) 5 A' (6 + 16 * j) c' (P ++ wayL (ws.take j)) ∧ Below (w.heap.size + 1) w3 wr) (fun _ i _ => n - (intOf i).toNat)
      case atStart => exact ⟨0, A3, c3, by omega, rfl, rfl, by simpa [wayL] using HO3'.out, Below.refl _ _⟩
      case round =>
        obtain ⟨j, A', c', hj, rfl, rfl, hO, hb⟩ := hrel
        have HO := Lib.hid hO
        have HB := Lib.hid hb
        have q3 : wr.cell? ⟨w.heap.size, 3, none⟩ = some (.slice A n c) := ((K3.out.below hb (Nat.lt_succ_self _)).cell 3).trans rfl
        have hszr : w.heap.size + 1 ≤ wr.heap.size := (K3.out.below hb (Nat.lt_succ_self _)).lt
        have Zr := Lib.hid (Z3.out.trans (hb.mono (Nat.le_succ _)))
        clear hO hb
        by_cases hlt : j < n
        · have hjx : j < ws.length := by have := HWS.out; omega
          obtain ⟨b, off, rfl, hbl, e0, e1, e2, e3⟩ := (HWW.out.below Zr.out (Nat.le_refl _)).at_ hjx
          have HK := Lib.hid (HOK.out _ (List.getElem_mem hjx))
          have hwk : wayL (ws.take (j + 1)) = wayL (ws.take j) ++ stepL ws[j] := by rw [List.take_succ_eq_append_getElem hjx, wayL_snoc]
          have HWK := Lib.hid hwk
          generalize ws[j] = E at *
          clear hwk
          go_wp2_with fail
          refine (refedge_any E.t E.h E.w E.m _ HK.out.1 HK.out.2.1 HK.out.2.2.1 HK.out.2.2.2).mono ?_
          rintro e w5 ⟨A5, c5, rfl, hO5, hb5⟩
          have HO5 := Lib.hid hO5
          have hc5 : (16 : Int) ≤ (c5 : Int) := by have := hO5.2.1; omega
          obtain ⟨g5, rfl, _⟩ := hO5.open_ (by have := hO5.2.1; omega)
          have HOr := Lib.hid (HO.out.below hb5)
          have HB5 := Lib.hid (HB.out.trans (hb5.mono hszr))
          have HSZ5 := Lib.hid (Nat.le_trans hszr hb5.size)
          clear hO5 hb5 q3 e0 e1 e2 e3
          go_wp2_with (at_builtin; refine wpList_append_b rfl (.tmp 46) (.tmp 53) _ rfl 5 i0 Try.underlying22 hi0 hz0 hz1 hz2 rfl HOr.out rfl (HO5.out.bytes.take 16) (by rw [edgeL_take, stepL_length]) (by omega) HSZ5.out ?_; intro A6 c6 w6 hO6 hg6 hd6; rw [edgeL_take] at hO6; have HO6 := Lib.hid hO6; have HB6 := Lib.hid (below_grown HB5.out HOr.out hg6 HSZ5.out); clear hO6 hg6 hd6)
          go_roundw
          case rel => exact ⟨j + 1, A6, c6, by omega, by go_num, rfl, by rw [HWK.out, ← List.append_assoc]; exact HO6.out, HB6.out⟩
          case measure => simp [intOf]; omega
        · obtain rfl : j = n := by omega
          go_wp2_with fail
          go_ret
          have hO := HO.out
          rw [← HWS.out, List.take_length, HWS.out] at hO
          exact ⟨A', _, c', rfl, by rw [HE.out]; exact hO.mono (Nat.le_succ _), Zr.out⟩
    by_cases h3 : k = 3
    · subst h3
      obtain ⟨sb, hsb, hle⟩ : ∃ sb : UInt8, (st : Int) = (sb.toNat : Int) ∧ le 1 st = [sb] := ⟨UInt8.ofNat st, by rw [UInt8.toNat_ofNat']; omega, by simp [le]⟩
      have HE := Lib.hid (show ansL 0 (bodyL 3 fd ds st n ws) = [0] ++ [sb] by rw [ansL_zero rfl, body3, hle])
      have HSB := Lib.hid hsb
      clear hle hsb
      go_wp2_with (at_builtin; refine wpList_append_b rfl (.tmp 57) (.tmp 60) _ rfl 5 i0 Try.underlying22 hi0 hz0 hz1 hz2 rfl (HO1.out.alloc _) rfl (bytes_one _ _ _ sb HSB.out) rfl (by omega) (by simp; omega) ?_; intro A6 c6 w6 hO6 hg6 hd6; have HO6 := Lib.hid hO6; have Z6 := Lib.hid (below_grown (Z1.out.alloc Z1.out.size _) ((HO1.out.mono (Nat.le_succ _)).alloc _) hg6 (by have := Z1.out.size; simp; omega)); clear hO6 hg6 hd6)
      go_ret
      exact ⟨A6, _, c6, rfl, by rw [HE.out]; exact HO6.out.mono (Nat.le_succ _), Z6.out⟩
    · have HE := Lib.hid (show ansL 0 (bodyL k fd ds st n ws) = [0] by rw [ansL_zero rfl, body0 h1 h2 h3]; rfl)
      have n1 : ((k : Int) == 1) = false := by simp; omega
      have n2 : ((k : Int) == 2) = false := by simp; omega
      have n3 : ((k : Int) == 3) = false := by simp; omega
      go_wp2_with fail
      go_ret
      exact ⟨_, 1, 1, rfl, by rw [HE.out]; exact HO1.out.mono (Nat.le_succ _), Z1.out⟩
  · have he0 : ¬ err % 256 = 0 := by
      rw [HEB.out]
      intro h
      exact he (UInt8.toNat_inj.1 (by simpa using h))
    have hbq : ((err % 256) == 0) = false := by simp [he0]
    have HE := Lib.hid (ansL_other (X := bodyL k fd ds st n ws) he)
    go_wp2_with fail
    go_ret
    exact ⟨_, 1, 1, rfl, by rw [HE.out]; exact HO1.out.mono (Nat.le_succ _), Z1.out⟩
end Go.Proofs.Ytjiiabekjiilbaa
