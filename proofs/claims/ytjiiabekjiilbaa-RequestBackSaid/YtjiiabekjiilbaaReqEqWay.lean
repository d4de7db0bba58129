/- milepostref05.Eq and milepostref26.Same, where the two are alike. -/
import Derived.Test.YtjiiabekjiilbaaReqAcc
import Derived.BigQuiet
set_option linter.unusedSimpArgs false
set_option linter.unusedVariables false
namespace Go.Proofs.Ytjiiabekjiilbaa
open Go.RowKit Mp

set_option maxRecDepth 100000 in
set_option maxHeartbeats 3200000 in
theorem eqway_yes (n c c' : Nat) (A A' : Option Addr) (ws : List Ed) (w : World) (hl : ws.length = n) (hW : WayAt w w.heap.size A ws) (hW' : WayAt w w.heap.size A' ws) (hn : n ≤ 1099511627776) :
    Calls Try.prog 21 #[.slice A n c, .slice A' n c'] w fun e w' => e = .returned (.bool true) ∧ Below w.heap.size w w' := by
  have HL := Lib.hid hl
  have HW := Lib.hid hW
  have HW' := Lib.hid hW'
  clear hl hW hW'
  go_enter Try.func21, Try.ntmps21
  go_wp2_with fail
  go_loopw [5] (fun i wr => ∃ k : Nat, k ≤ n ∧ i = .int .i64 k ∧ Below w.heap.size w wr) (fun i _ => n - (intOf i).toNat)
  case atStart => exact ⟨0, by omega, rfl, Below.refl _ _⟩
  case round =>
    obtain ⟨k, hk, rfl, hb⟩ := hrel
    have HB := Lib.hid hb
    by_cases hlt : k < n
    · have hkx : k < ws.length := by have := HL.out; omega
      obtain ⟨b, off, rfl, hbl, e0, e1, e2, e3⟩ := (HW.out.below hb (Nat.le_refl _)).at_ hkx
      obtain ⟨b', off', rfl, hbl', d0, d1, d2, d3⟩ := (HW'.out.below hb (Nat.le_refl _)).at_ hkx
      generalize ws[k] = E at *
      clear hb
      go_wp2_with fail
      go_region
      all_goals
        go_wp2_with fail
        go_roundw
        case rel => exact ⟨k + 1, by omega, by go_num, HB.out.drew⟩
        case measure => simp [intOf]; omega
    · obtain rfl : k = n := by omega
      go_wp2_with fail
      go_ret
      exact ⟨rfl, HB.out⟩

set_option maxRecDepth 100000 in
set_option maxHeartbeats 3200000 in
theorem same_yes (err : Int) (fd : Bool) (ds st n c c' : Nat) (A A' : Option Addr) (ws : List Ed) (w : World) (hl : ws.length = n) (hW : WayAt w w.heap.size A ws) (hW' : WayAt w w.heap.size A' ws) (hn : n ≤ 1099511627776) :
    Calls Try.prog 25 #[.agg #[.int .i64 err, .bool fd, .int .u64 ds, .slice A n c, .int .u8 st], .agg #[.int .i64 err, .bool fd, .int .u64 ds, .slice A' n c', .int .u8 st]] w fun e w' => e = .returned (.bool true) ∧ Below w.heap.size w w' := by
  have HL := Lib.hid hl
  have Z : Hid (Below w.heap.size w ((w.alloc (.cells #[.int .i64 err, .bool fd, .int .u64 ds, .slice A n c, .int .u8 st] 37)).alloc (.cells #[.int .i64 err, .bool fd, .int .u64 ds, .slice A' n c', .int .u8 st] 37))) := by
    have h := ((Below.refl w.heap.size w).alloc (Nat.le_refl _) (.cells #[.int .i64 err, .bool fd, .int .u64 ds, .slice A n c, .int .u8 st] 37))
    have h2 := h.alloc h.size (.cells #[.int .i64 err, .bool fd, .int .u64 ds, .slice A' n c', .int .u8 st] 37)
    exact h2
  have HW := Lib.hid ((hW.below Z.out (Nat.le_refl _)).more' Z.out.size)
  have HW' := Lib.hid ((hW'.below Z.out (Nat.le_refl _)).more' Z.out.size)
  clear hl hW hW'
  go_enter Try.func25, Try.ntmps25
  go_wp2_with fail
  refine (eqway_yes n c c' A A' ws _ HL.out HW.out HW'.out hn).mono ?_
  rintro e w1 ⟨rfl, hb1⟩
  go_wp2_with fail
  go_ret
  exact ⟨rfl, Z.out.trans (hb1.mono Z.out.size)⟩
end Go.Proofs.Ytjiiabekjiilbaa
