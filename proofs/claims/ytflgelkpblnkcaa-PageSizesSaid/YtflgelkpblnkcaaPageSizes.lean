/- PageSizes: of up to 240 bytes a page of 256 is made, of more none. -/
import Derived.Test.YtflgelkpblnkcaaPageWorks
import Derived.Test.YtflgelkpblnkcaaApart3
set_option linter.unusedSimpArgs false
set_option linter.unusedVariables false
namespace Go.Proofs.Ytflgelkpblnkcaa
open Go.RowKit Mp

theorem made_noughts (n : Nat) : (madeCells (Value.int .u8 0).cells (n * 1)).toList = (List.replicate n (0 : UInt8)).map bv := by
  apply List.ext_getElem
  · simp [madeCells]
  · intro i h1 h2
    simp [madeCells, Value.cells, Nat.mod_one]

theorem bytes_of_row {w : World} {B : Nat} {A : Option Addr} {l : List UInt8} (h : Cells w B A (l.map bv)) : Bytes w B A l := by
  rcases h with h | ⟨b, off, h1, h2, h3⟩
  · left; simpa using h
  · refine .inr ⟨b, off, h1, h2, fun i hi => (h3 i (by simpa using hi)).trans (by simp)⟩

set_option maxRecDepth 100000 in
set_option maxHeartbeats 1600000 in
theorem law_sizes (tag nb n : Nat) (w : World) (htag : tag ≤ 4294967295) (hnb : nb ≤ 4294967295) (hn : n ≤ 65535) :
    Calls Try.prog 7 #[.int .u32 tag, .int .u32 nb, .int .u16 n] w fun e w' => e = .returned (.bool true) ∧ Below w.heap.size w w' := by
  obtain ⟨i0, hi0, hz0, hz1, hz2⟩ := info_parts info_u8
  have hm : n % 1000 < 1000 := Nat.mod_lt _ (by omega)
  go_enter Try.func7, Try.ntmps7
  go_wp2_with (at_make; refine wpList_make_full _ rfl (.tmp 18) (.tmp 18) _ rfl w.heap.size 5 i0 (.int .u8 0) 1 Try.underlying23 hi0 hz0 hz1 .i64 .i64 _ _ (n % 1000) rfl rfl (by omega) (by omega) (by rw [hz2]; omega) (by simp only [maxLen]; omega) (Nat.le_refl _) ?_; intro w1 hO1 hg1; rw [made_noughts] at hO1; have HO1 := Lib.hid hO1; have HG1 := Lib.hid hg1; clear hO1 hg1)
  have HB1 : Hid (Bytes w1 w1.heap.size (some ⟨w.heap.size, 0, none⟩) (List.replicate (n % 1000) 0)) := by
    have h := bytes_of_row (row_cells HO1.out HG1.out.size)
    exact h
  have Hb1 : Hid (Below w.heap.size w w1) := by
    have h := (Below.refl w.heap.size w).grown HG1.out (Nat.le_refl _) (fun _ e => by cases e)
    exact h
  have HLR : Hid ((List.replicate (n % 1000) (0 : UInt8)).length = n % 1000) := Lib.hid List.length_replicate
  clear HO1 HG1
  by_cases hbig : 240 < n % 1000
  · have hbi : (240 : Int) < (n : Int) % 1000 := by omega
    refine (make_no tag nb _ (n % 1000) (n % 1000) _ hbig (by omega)).mono ?_
    rintro e w2 ⟨rfl, rfl⟩
    go_wp2_with fail
    refine (works_any _).mono ?_
    rintro e w3 ⟨rfl, hb3⟩
    go_wp2_with fail
    go_ret
    exact ⟨rfl, Hb1.out.trans (hb3.mono Hb1.out.size)⟩
  · have hbi : ¬ (240 : Int) < (n : Int) % 1000 := by omega
    refine (make_ok tag nb _ (n % 1000) (n % 1000) (List.replicate (n % 1000) 0) _ htag hnb HLR.out HB1.out (by omega)).mono ?_
    rintro e w2 ⟨A2, c2, rfl, hO2, hb2⟩
    have HO2 := Lib.hid hO2
    have Hb2 := Lib.hid (Hb1.out.trans (hb2.mono Hb1.out.size))
    clear hO2 hb2
    go_wp2_with fail
    refine (open_says A2 256 c2 tag nb _ _ _ (says_page tag nb _ (by rw [HLR.out]; omega)) HO2.out.1 HO2.out.bytes HO2.out.2.1 HO2.out.2.2.1 htag hnb).mono ?_
    rintro e w3 ⟨A3, c3, rfl, hO3, hb3⟩
    rw [HLR.out]
    have Hb3 := Lib.hid (Hb2.out.trans (hb3.mono Hb2.out.size))
    clear hO3 hb3
    go_wp2_with fail
    refine (works_any _).mono ?_
    rintro e w4 ⟨rfl, hb4⟩
    go_wp2_with fail
    go_ret
    exact ⟨rfl, Hb3.out.trans (hb4.mono Hb3.out.size)⟩
end Go.Proofs.Ytflgelkpblnkcaa
