/- milepostref05.Copy: a way copied; milepostref26.flag. -/
import Derived.Test.YtjiiabekjiilbaaReqEqWay
import Derived.Test.YtjiiabekjiilbaaOctRefWrite
set_option linter.unusedSimpArgs false
set_option linter.unusedVariables false
namespace Go.Proofs.Ytjiiabekjiilbaa
open Go.RowKit Mp

theorem cellsL_length (ws : List Ed) : (cellsL ws).length = ws.length * 4 := by
  induction ws with
  | nil => rfl
  | cons x ws ih =>
    have : cellsL (x :: ws) = x.cells ++ cellsL ws := rfl
    rw [this, List.length_append, ih]
    simp [Ed.cells]; omega
theorem cellsL_get : ∀ (ws : List Ed) (i : Nat) (h : i < ws.length), (cellsL ws)[i * 4]? = some (.int .u32 ws[i].t) ∧ (cellsL ws)[i * 4 + 1]? = some (.int .u32 ws[i].h) ∧ (cellsL ws)[i * 4 + 2]? = some (.int .u64 ws[i].w) ∧ (cellsL ws)[i * 4 + 3]? = some (.int .u32 ws[i].m)
  | x :: ws, 0, _ => ⟨rfl, rfl, rfl, rfl⟩
  | x :: ws, i + 1, h => by
    have hc : cellsL (x :: ws) = x.cells ++ cellsL ws := rfl
    have hl : x.cells.length = 4 := rfl
    have ih := cellsL_get ws i (by simpa using h)
    have e : ∀ j, (cellsL (x :: ws))[(i + 1) * 4 + j]? = (cellsL ws)[i * 4 + j]? := fun j => by
      rw [hc, List.getElem?_append_right (by rw [hl]; omega), hl]
      congr 1
      omega
    have e0 := e 0
    simp only [Nat.add_zero] at e0
    rw [e0, e 1, e 2, e 3]
    simpa using ih
theorem cellsL_one (ws : List Ed) : ∀ u ∈ cellsL ws, u.oneCell' = true := by
  intro u hu
  obtain ⟨x, _, hx⟩ := List.mem_flatMap.1 hu
  exact edge_ones x u hx
/-- the cells of a way, in a row. -/
theorem WayAt.cells {w : World} {B b off : Nat} {ws : List Ed} (h : WayAt w B (some ⟨b, off, none⟩) ws) : ∀ j u, (cellsL ws)[j]? = some u → w.cell? ((⟨b, off, none⟩ : Addr).add j) = some u := by
  intro j u hu
  have hj : j < ws.length * 4 := by
    have := (List.getElem?_eq_some_iff.1 hu).1
    rw [cellsL_length] at this
    exact this
  have hadd : (⟨b, off, none⟩ : Addr).add j = ⟨b, off + j, none⟩ := by unfold Addr.add; split <;> simp_all
  rw [hadd]
  rcases h with h | ⟨b', off', h1, h2, h3⟩
  · subst h; simp at hj
  · injection h1 with h1
    injection h1 with e1 e2
    subst e1 e2
    have hi : j / 4 < ws.length := by omega
    obtain ⟨c0, c1, c2, c3⟩ := h3 (j / 4) hi
    obtain ⟨d0, d1, d2, d3⟩ := cellsL_get ws (j / 4) hi
    have hm : j % 4 = 0 ∨ j % 4 = 1 ∨ j % 4 = 2 ∨ j % 4 = 3 := by omega
    rcases hm with hm | hm | hm | hm
    · have e : j = j / 4 * 4 := by omega
      rw [e] at hu; rw [d0] at hu; rw [← hu, show off + j = off + j / 4 * 4 by omega]; exact c0
    · have e : j = j / 4 * 4 + 1 := by omega
      rw [e] at hu; rw [d1] at hu; rw [← hu, show off + j = off + j / 4 * 4 + 1 by omega]; exact c1
    · have e : j = j / 4 * 4 + 2 := by omega
      rw [e] at hu; rw [d2] at hu; rw [← hu, show off + j = off + j / 4 * 4 + 2 by omega]; exact c2
    · have e : j = j / 4 * 4 + 3 := by omega
      rw [e] at hu; rw [d3] at hu; rw [← hu, show off + j = off + j / 4 * 4 + 3 by omega]; exact c3
theorem way_of_row {w : World} {base n : Nat} {v : Value} {ws : List Ed} (h : w.ownsRow base 71 4 v n (cellsL ws)) : ∃ A c, v = .slice A n c ∧ WayAt w w.heap.size A ws ∧ n ≤ c ∧ c ≤ maxLen := by
  have hn : ws.length = n := by have := h.1; rw [cellsL_length] at this; omega
  rcases h.2 with ⟨rfl, h0⟩ | ⟨g, cap, cur, rfl, _, h3, h4, h5, h6, h7⟩
  · subst h0
    exact ⟨none, 0, rfl, .inl (List.eq_nil_of_length_eq_zero hn), Nat.le_refl _, Nat.zero_le _⟩
  · refine ⟨_, _, rfl, .inr ⟨g, 0, rfl, lt_of_block h3, fun i hi => ?_⟩, h4, h5⟩
    obtain ⟨d0, d1, d2, d3⟩ := cellsL_get ws i hi
    have hc : ∀ j, j < n * 4 → w.cell? ⟨g, j, none⟩ = (cellsL ws)[j]? := fun j hj => by
      rw [cell_of_row w g j cur _ _ h3, ← h7, List.getElem?_take, if_pos hj]
      simp
    simp only [Nat.zero_add]
    exact ⟨(hc _ (by omega)).trans d0, (hc _ (by omega)).trans d1, (hc _ (by omega)).trans d2, (hc _ (by omega)).trans d3⟩

theorem way_of_row' {w : World} {base n c : Nat} {A : Option Addr} {ws : List Ed} (h : w.ownsRow base 71 4 (.slice A n c) n (cellsL ws)) : WayAt w w.heap.size A ws := by
  obtain ⟨A', c', e, h1, _⟩ := way_of_row h
  injection e with e1 e2 e3
  subst e1
  exact h1

set_option maxRecDepth 100000 in
set_option maxHeartbeats 1600000 in
theorem copyway_any (A : Option Addr) (n c : Nat) (ws : List Ed) (w : World) (hl : ws.length = n) (hW : WayAt w w.heap.size A ws) (hn : n ≤ 1048576) :
    Calls Try.prog 18 #[.slice A n c] w fun e w' => ∃ A' c', e = .returned (.slice A' n c') ∧ w'.ownsRow w.heap.size 71 4 (.slice A' n c') n (cellsL ws) ∧ Below w.heap.size w w' := by
  obtain ⟨i0, hi0, hz0, hz1, hz2⟩ := info_parts edge_info
  rcases A with _ | ⟨b, off, spot⟩
  · have h0 : ws = [] := by
      rcases hW with h | ⟨b, off, h, _⟩
      · exact h
      · cases h
    subst h0
    obtain rfl : n = 0 := by simpa using hl.symm
    go_enter Try.func18, Try.ntmps18
    go_wp2_with fail
    go_ret
    exact ⟨none, 0, rfl, World.ownsRow_nil _ _ _ _, Below.refl _ _⟩
  · have HC : Hid (∀ j u, (cellsL ws)[j]? = some u → w.cell? ((⟨b, off, spot⟩ : Addr).add j) = some u) := by
      have h : ∀ j u, (cellsL ws)[j]? = some u → w.cell? ((⟨b, off, spot⟩ : Addr).add j) = some u := by
        by_cases hz : ws = []
        · subst hz; intro j u h; simp [cellsL] at h
        · have hs : spot = none := by
            rcases hW with h | ⟨b', off', h, _⟩
            · exact absurd h hz
            · injection h with h; injection h
          subst hs
          exact hW.cells
      exact h
    have HL := Lib.hid hl
    clear hl hW
    go_enter Try.func18, Try.ntmps18
    go_wp2_with (at_builtin; refine wpList_append_own _ rfl (.tmp 4) (.tmp 5) _ rfl w.heap.size 71 i0 _ 4 24 Try.underlying35 hi0 hz0 hz1 hz2 rfl (by decide) _ 0 [] rfl (World.ownsRow_nil _ _ _ _) ⟨b, off, spot⟩ n c (cellsL ws) rfl (by rw [cellsL_length, HL.out]) HC.out (cellsL_one ws) (by simp only [maxLen]; omega) (by omega) (Nat.le_refl _) ?_; intro v' w' hO' hg' hiff'; have HO' := Lib.hid hO'; have HG' := Lib.hid hg'; clear hO' hg' hiff')
    go_ret
    have hO := HO'.out
    rw [Nat.zero_add, List.nil_append] at hO
    obtain ⟨A', c', rfl, h2, h3, h4⟩ := way_of_row hO
    exact ⟨A', c', by simp, hO, below_of_grown (Below.refl _ _) HG'.out (Nat.le_refl _) (fun g h => by cases h)⟩

set_option maxRecDepth 100000 in
set_option maxHeartbeats 1600000 in
theorem refflag_any (A : Option Addr) (n c lo : Nat) (fd : Bool) (l : List UInt8) (w : World) (hO : OwnB w lo 5 A n c l) (hn : n ≤ 536870912) (hlo : lo ≤ w.heap.size) :
    Calls Try.prog 35 #[.slice A n c, .bool fd] w fun e w' => ∃ A' c', e = .returned (.slice A' (n + 1) c') ∧ OwnB w' lo 5 A' (n + 1) c' (l ++ flagL fd) ∧ Below lo w w' := by
  obtain ⟨i0, hi0, hz0, hz1, hz2⟩ := info_parts info_u8
  have HO := Lib.hid hO
  clear hO
  cases fd
  · go_enter Try.func35, Try.ntmps35
    go_wp2_with (at_builtin; refine wpList_append_b rfl (.tmp 9) (.tmp 10) _ rfl 5 i0 Try.underlying22 hi0 hz0 hz1 hz2 rfl (HO.out.alloc _) rfl (bytes_one _ _ _ 0 rfl) rfl (by omega) (by simp; omega) ?_; intro A6 c6 w6 hO6 hg6 hd6; have HO6 := Lib.hid hO6; have Z6 := Lib.hid (below_grown ((Below.refl lo w).alloc hlo _) (HO.out.alloc _) hg6 (by simp; omega)); clear hO6 hg6 hd6)
    go_ret
    exact ⟨A6, c6, rfl, HO6.out, Z6.out⟩
  · go_enter Try.func35, Try.ntmps35
    go_wp2_with (at_builtin; refine wpList_append_b rfl (.tmp 6) (.tmp 7) _ rfl 5 i0 Try.underlying22 hi0 hz0 hz1 hz2 rfl (HO.out.alloc _) rfl (bytes_one _ _ _ 1 rfl) rfl (by omega) (by simp; omega) ?_; intro A6 c6 w6 hO6 hg6 hd6; have HO6 := Lib.hid hO6; have Z6 := Lib.hid (below_grown ((Below.refl lo w).alloc hlo _) (HO.out.alloc _) hg6 (by simp; omega)); clear hO6 hg6 hd6)
    go_ret
    exact ⟨A6, c6, rfl, HO6.out, Z6.out⟩
end Go.Proofs.Ytjiiabekjiilbaa
