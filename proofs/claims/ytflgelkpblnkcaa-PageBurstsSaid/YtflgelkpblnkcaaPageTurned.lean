/- What Turned of the statements on pages makes: a copy in which a burst of at most 32 bits is turned. -/
import Derived.Test.YtflgelkpblnkcaaSame
import Derived.Test.YtflgelkpblnkcaaBits
set_option linter.unusedSimpArgs false
set_option linter.unusedVariables false
namespace Go.Proofs.Ytflgelkpblnkcaa
open Go.RowKit Mp

set_option maxRecDepth 100000 in
set_option maxHeartbeats 1600000 in
theorem turned_any (A : Option Addr) (n c at' mask : Nat) (l : List UInt8) (w : World) (hl : l.length = n) (hb : Bytes w w.heap.size A l) (hn : n ≤ 1073741824) (hat : at' ≤ 1099511627776) (hmask : mask ≤ 4294967295) :
    Calls Try.prog 21 #[.slice A n c, .int .i64 at', .int .u32 mask] w fun e w' => ∃ A' c' t, e = .returned (.slice A' n c') ∧ OwnB w' w.heap.size 5 A' n c' t ∧ Burst l t at' 32 ∧ Below w.heap.size w w' := by
  have HL := Lib.hid hl
  have HB := Lib.hid hb
  clear hl hb
  go_enter Try.func21, Try.ntmps21
  go_wp2_with fail
  refine (copy_any A n c l _ HL.out HB.out (by omega)).mono ?_
  rintro e w1 ⟨A1, c1, rfl, hO1, hb1⟩
  have HO1 := Lib.hid hO1
  have Hb1 := Lib.hid hb1
  clear hO1 hb1
  go_wp2_with fail
  go_loopw [8] (fun i wr => ∃ (k : Nat) (t : List UInt8), k ≤ 32 ∧ i = .int .i64 k ∧ OwnB wr w.heap.size 5 A1 n c1 t ∧ Burst l t at' k ∧ Below w.heap.size w wr) (fun i _ => 32 - (intOf i).toNat)
  case atStart => exact ⟨0, l, by omega, rfl, HO1.out, Burst.zero _ _, Hb1.out⟩
  case round =>
    obtain ⟨k, t, hk, rfl, hO, hB, hbel⟩ := hrel
    have HO := Lib.hid hO
    have HBu := Lib.hid hB
    have HBe := Lib.hid hbel
    clear hO hB hbel
    by_cases hlt : k < 32
    · by_cases hbit : (bits .and .u32 ((mask : Int) / 2 ^ k) 1 == 1) = true
      · by_cases hin : at' + k < 8 * n
        · obtain ⟨g, rfl, hgb, hg1, hg2, hcell, hfz⟩ := HO.out.open_ (by have := HO.out.2.1; omega)
          have ht : t.length = n := HO.out.1
          have hk8 : (at' + k) / 8 < n := by omega
          have hkt : (at' + k) / 8 < t.length := by omega
          have hc0 := hcell _ hkt
          have hf0 := hfz ((at' + k) / 8) (by have := HO.out.2.1; omega)
          have HT := Lib.hid ht
          obtain ⟨y, hy, hyx⟩ := flip_u8 t[(at' + k) / 8] ((at' + k) % 8) (by omega)
          have HY := Lib.hid hy
          have HYX := Lib.hid hyx
          clear hcell hfz ht hy hyx
          go_wp2_with fail
          go_roundw
          case rel => exact ⟨k + 1, t.set ((at' + k) / 8) y, by omega, by go_num, by rw [HYX.out]; exact HO.out.store _ hk8 y, HBu.out.flip hkt y HY.out, HBe.out.setCell hg1 _⟩
          case measure => simp [intOf]; omega
        · go_wp2_with fail
          go_roundw
          case rel => exact ⟨k + 1, t, by omega, by go_num, HO.out, HBu.out.skip, HBe.out⟩
          case measure => simp [intOf]; omega
      · have hbit' : (bits .and .u32 ((mask : Int) / 2 ^ k) 1 == 1) = false := by simpa using hbit
        clear hbit
        go_wp2_with fail
        go_roundw
        case rel => exact ⟨k + 1, t, by omega, by go_num, HO.out, HBu.out.skip, HBe.out⟩
        case measure => simp [intOf]; omega
    · obtain rfl : k = 32 := by omega
      go_wp2_with fail
      go_ret
      exact ⟨A1, c1, t, rfl, HO.out, HBu.out, HBe.out⟩
end Go.Proofs.Ytflgelkpblnkcaa
