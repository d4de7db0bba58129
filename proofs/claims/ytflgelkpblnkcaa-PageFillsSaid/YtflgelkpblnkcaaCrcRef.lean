/- What the reference's sum computes, bit by bit; and the sums of nothing ahead. -/
import Derived.Test.YtflgelkpblnkcaaCrc
set_option linter.unusedSimpArgs false
set_option linter.unusedVariables false
namespace Go.Proofs.Ytflgelkpblnkcaa
open Go.RowKit Mp

theorem sum_any (A : Option Addr) (n c : Nat) (l : List UInt8) (w : World) (hl : l.length = n) (hb : Bytes w w.heap.size A l) (hn : n ≤ 1099511627776) :
    Calls Try.prog 27 #[.slice A n c] w fun e w' => e = .returned (.int .u32 (ext 0 l : Nat)) ∧ Below w.heap.size w w' := by
  have HL := Lib.hid hl
  have HB := Lib.hid hb
  clear hl hb
  go_enter Try.func27, Try.ntmps27
  go_wp2_with fail
  refine (extend_any 0 A n c l _ (by omega) HL.out HB.out hn).mono ?_
  rintro e w1 ⟨rfl, hb1⟩
  go_wp2_with fail
  go_ret
  exact ⟨rfl, hb1⟩

set_option maxRecDepth 100000 in
set_option maxHeartbeats 800000 in
theorem refextend_any (s : Nat) (A : Option Addr) (n c : Nat) (l : List UInt8) (w : World) (hs : s ≤ 4294967295) (hl : l.length = n) (hb : Bytes w w.heap.size A l) (hn : n ≤ 1099511627776) :
    Calls Try.prog 42 #[.int .u32 s, .slice A n c] w fun e w' => e = .returned (.int .u32 (ext s l : Nat)) ∧ w = w' := by
  have HL := Lib.hid hl
  have HB := Lib.hid hb
  clear hl hb
  have hsM := xor_M s hs
  have hsx := xor_le hs (show M ≤ 4294967295 by decide)
  obtain ⟨s', hs'⟩ : ∃ s', s' = s ^^^ M := ⟨_, rfl⟩
  rw [← hs'] at hsx hsM
  have HS := Lib.hid hs'
  clear hs'
  go_enter Try.func42, Try.ntmps42
  go_wp2_with fail
  clear hsM
  go_loop [5, 6] (fun x i => ∃ (k X : Nat), k ≤ n ∧ i = .int .i64 k ∧ x = .int .u32 X ∧ X ≤ 4294967295 ∧ X = fold s' (l.take k)) (fun _ i => n - (intOf i).toNat)
  case atStart => exact ⟨0, s', by omega, rfl, rfl, hsx, by simp [fold]⟩
  case round =>
    obtain ⟨k, X, hk, rfl, rfl, hX, hF⟩ := hrel
    have HF := Lib.hid hF
    clear hF
    by_cases hlt : k < n
    · obtain ⟨b, off, rfl, hbB, hcell⟩ := HB.out.open_ HL.out (by omega)
      have hkl : k < l.length := by have := HL.out; omega
      have hc0 := hcell k hkl
      have hxb := xor_byte X l[k] hX
      have hby := byte_le l[k]
      have hxX : X ^^^ l[k].toNat ≤ 4294967295 := xor_le hX (by have := byte_le l[k]; omega)
      have hfs := fold_snoc s' l k hkl
      rw [← HF.out] at hfs
      have HFS := Lib.hid hfs
      clear hfs
      generalize hye : X ^^^ l[k].toNat = y at hxb hxX HFS
      clear hye
      go_wp2_with fail
      go_loop [5, 7] (fun x j => ∃ (q Y : Nat), q ≤ 8 ∧ j = .int .i64 q ∧ x = .int .u32 Y ∧ Y ≤ 4294967295 ∧ Ln (8 - q) Y = Ln 8 y) (fun _ j => 8 - (intOf j).toNat)
      case atStart => exact ⟨0, y, by omega, rfl, rfl, hxX, rfl⟩
      case round =>
        obtain ⟨q, Y, hq, rfl, rfl, hY, hLL⟩ := hrel
        have HLL := Lib.hid hLL
        clear hLL
        by_cases hlt8 : q < 8
        · have HN : Hid (Ln (8 - (q + 1)) (L Y) = Ln 8 y) := by
            have h : Ln (8 - (q + 1)) (L Y) = Ln 8 y := by rw [← HLL.out, show 8 - q = (8 - (q + 1)) + 1 by omega]; rfl
            exact h
          have hLe := L_le hY
          by_cases hodd : Y % 2 = 1
          · have ho := L_odd Y hY hodd
            go_wp2_with fail
            go_round
            case rel => exact ⟨q + 1, L Y, by omega, by go_num, rfl, hLe, HN.out⟩
            case measure => simp [intOf]; omega
          · have HE := Lib.hid (L_even Y hodd)
            go_wp2_with fail
            go_round
            case rel => exact ⟨q + 1, L Y, by omega, by go_num, by rw [HE.out], hLe, HN.out⟩
            case measure => simp [intOf]; omega
        · obtain rfl : q = 8 := by omega
          go_wp2_with fail
          go_round
          case rel => exact ⟨k + 1, Y, by omega, by go_num, rfl, hY, by rw [HFS.out, ← HLL.out]; rfl⟩
          case measure => simp [intOf]; omega
    · have hX2 := xor_M X hX
      have he : X ^^^ M = ext s l := by rw [HF.out, List.take_of_length_le (by have := HL.out; omega), HS.out]; rfl
      rw [he] at hX2
      clear he
      go_wp2_with fail
      go_ret
      exact ⟨rfl, rfl⟩

theorem refsum_any (A : Option Addr) (n c : Nat) (l : List UInt8) (w : World) (hl : l.length = n) (hb : Bytes w w.heap.size A l) (hn : n ≤ 1099511627776) :
    Calls Try.prog 29 #[.slice A n c] w fun e w' => e = .returned (.int .u32 (ext 0 l : Nat)) ∧ w = w' := by
  have HL := Lib.hid hl
  have HB := Lib.hid hb
  clear hl hb
  go_enter Try.func29, Try.ntmps29
  go_wp2_with fail
  refine (refextend_any 0 A n c l _ (by omega) HL.out HB.out hn).mono ?_
  rintro e w1 ⟨rfl, rfl⟩
  go_wp2_with fail
  go_ret
  exact ⟨rfl, rfl⟩
end Go.Proofs.Ytflgelkpblnkcaa
