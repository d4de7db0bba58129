/- The anchor of the statements on pages; Open, where it is known what the bytes say. -/
import Derived.Test.YtflgelkpblnkcaaPageOpen
set_option linter.unusedSimpArgs false
set_option linter.unusedVariables false
namespace Go.Proofs.Ytflgelkpblnkcaa
open Go.RowKit Mp

theorem open_says (A : Option Addr) (n c tag nb : Nat) (p l : List UInt8) (w : World) (hs : Says p tag nb l) (hl : p.length = n) (hb : Bytes w w.heap.size A p) (hnc : n ≤ c) (hcm : c ≤ maxLen) (htag : tag ≤ 4294967295) (hnb : nb ≤ 4294967295) :
    Calls Try.prog 19 #[.slice A n c, .int .u32 tag, .int .u32 nb] w fun e w' => ∃ A' c', e = .returned (.tuple #[.slice A' l.length c', .int .i64 0]) ∧ OwnB w' w.heap.size 5 A' l.length c' l ∧ Below w.heap.size w w' :=
  (open_any A n c tag nb p w hl hb (by have := hs.size; omega) hnc hcm htag hnb).mono fun e w' ⟨h, hb⟩ => by
    rcases h with ⟨l', h1, A', c', h2, h3⟩ | ⟨h1, _⟩
    · obtain ⟨_, _, rfl⟩ := hs.eq h1 htag hnb htag hnb
      exact ⟨A', c', h2, h3, hb⟩
    · exact absurd ⟨l, hs⟩ h1
theorem open_shut (A : Option Addr) (n c tag nb : Nat) (p : List UInt8) (w : World) (hs : ¬ Opens p tag nb) (hl : p.length = n) (hb : Bytes w w.heap.size A p) (hn : n ≤ 1099511627776) (hnc : n ≤ c) (hcm : c ≤ maxLen) (htag : tag ≤ 4294967295) (hnb : nb ≤ 4294967295) :
    Calls Try.prog 19 #[.slice A n c, .int .u32 tag, .int .u32 nb] w fun e w' => e = .returned (.tuple #[.slice none 0 0, .int .i64 7]) ∧ Below w.heap.size w w' :=
  (open_any A n c tag nb p w hl hb hn hnc hcm htag hnb).mono fun e w' ⟨h, hb⟩ => by
    rcases h with ⟨l', h1, _⟩ | ⟨_, h2⟩
    · exact absurd ⟨l', h1⟩ hs
    · exact ⟨h2, hb⟩
theorem says_page (tag nb : Nat) (l : List UInt8) (h : l.length ≤ 240) : Says (pageL tag nb l) tag nb l := ⟨h, rfl⟩
theorem anchor_shut : ¬ Opens (pageL 1 2 [7]) 1 3 := by
  rintro ⟨l, h⟩
  have := (says_page 1 2 [7] (by simp)).eq h (by omega) (by omega) (by omega) (by omega)
  omega
theorem anchor_tag : ext 0 [49, 50, 51, 52, 53, 54, 55, 56, 57] = 3808858755 := by decide +kernel

set_option maxRecDepth 100000 in
set_option maxHeartbeats 1600000 in
theorem works_any (w : World) : Calls Try.prog 10 #[] w fun e w' => e = .returned (.bool true) ∧ Below w.heap.size w w' := by
  go_enter Try.func10, Try.ntmps10
  go_wp2_with fail
  refine (make_ok 1 2 (some ⟨w.heap.size, 0, none⟩) 1 1 [7] _ (by omega) (by omega) rfl ((bytes_one w 5 7 7 rfl).more (by simp)) (by omega)).mono ?_
  rintro e w1 ⟨A1, c1, rfl, hO1, hb1⟩
  have HO1 := Lib.hid hO1
  have Hb1 : Hid (Below w.heap.size w w1) := by
    have h0 : Below w.heap.size w (w.alloc (.cells #[.int .u8 7] 5)) := (Below.refl _ _).alloc (Nat.le_refl _) _
    have h := h0.trans (hb1.mono h0.size)
    exact h
  clear hO1 hb1
  go_wp2_with fail
  refine (open_says A1 256 c1 1 2 _ [7] _ (says_page 1 2 [7] (by simp)) HO1.out.1 HO1.out.bytes HO1.out.2.1 HO1.out.2.2.1 (by omega) (by omega)).mono ?_
  rintro e w2 ⟨A2, c2, rfl, hO2, hb2⟩
  have HO2 := Lib.hid hO2
  have HO12 := Lib.hid (HO1.out.below hb2)
  have Hb2 := Lib.hid (Hb1.out.trans (hb2.mono Hb1.out.size))
  clear hO2 hb2
  go_wp2_with fail
  refine (open_shut A1 256 c1 1 3 _ _ anchor_shut HO12.out.1 HO12.out.bytes (by omega) HO12.out.2.1 HO12.out.2.2.1 (by omega) (by omega)).mono ?_
  rintro e w3 ⟨rfl, hb3⟩
  have hs : (convert 23 9 (.slice A2 1 c2)).run Try.prog w3 = .ok (.string { data := #[7] }) w3 := str_any c2 (HO2.out.below hb3).bytes rfl
  have Hb3 := Lib.hid (Hb2.out.trans (hb3.mono Hb2.out.size))
  clear hb3
  go_wp2_with fail
  refine (tag_any [49, 50, 51, 52, 53, 54, 55, 56, 57] _ (by simp)).mono ?_
  rintro e w4 ⟨rfl, hb4⟩
  rw [anchor_tag]
  have Hb4 := Lib.hid (Hb3.out.trans (hb4.mono Hb3.out.size))
  clear hb4
  go_wp2_with fail
  go_ret
  exact ⟨rfl, Hb4.out⟩
end Go.Proofs.Ytflgelkpblnkcaa
