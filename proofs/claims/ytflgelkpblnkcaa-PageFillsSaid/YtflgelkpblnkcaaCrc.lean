/- What the functions of package crc compute: the table, and the sum by the table. -/
import Derived.Test.YtflgelkpblnkcaaBits
import Derived.Test.YtflgelkpblnkcaaMem
import Derived.Test.YtflgelkpblnkcaaRows
import Derived.WalkKit
import Derived.ProofKit
import Derived.Lib.Hide
import Derived.Deep.WholeRow
set_option linter.unusedSimpArgs false
set_option linter.unusedVariables false
namespace Go.Proofs.Ytflgelkpblnkcaa
open Go.RowKit Mp

def Z256 : Array Value := Array.replicate 256 (.int .u32 0)
theorem zeroTab (w : World) : (zeroValue 73).run Try.prog w = .ok (.agg Z256) w := by kernel_rfl
theorem sizeTab : (Try.prog.info? 73).map (·.size) = some 256 := by kernel_rfl

/-- a table: of each byte what eight steps make of it. -/
def IsTab (cs : Array Value) : Prop := cs.size = 256 ∧ ∀ j, j < 256 → cs[j]? = some (.int .u32 (Ln 8 j : Nat))

theorem IsTab.one {cs : Array Value} (h : IsTab cs) : cs.all (·.oneCell') = true := by
  rw [Array.all_eq_true_iff_forall_mem]
  intro v hv
  obtain ⟨i, hi, rfl⟩ := Array.getElem_of_mem hv
  have h1 := h.2 i (by have := h.1; omega)
  rw [Array.getElem?_eq_getElem hi] at h1
  injection h1 with h1
  rw [h1]; rfl

theorem tab_set {cs : Array Value} {k : Nat} (hk : k < 256) (hs : cs.size = 256) (hc : ∀ j, j < k → cs[j]? = some (.int .u32 (Ln 8 j : Nat))) (X : Nat) (hX : X = Ln 8 k) :
    (cs.setIfInBounds k (.int .u32 X)).size = 256 ∧ ∀ j, j < k + 1 → (cs.setIfInBounds k (.int .u32 X))[j]? = some (.int .u32 (Ln 8 j : Nat)) := by
  refine ⟨by simpa using hs, fun j hj => ?_⟩
  rw [Array.getElem?_setIfInBounds]
  by_cases h : k = j
  · subst h; simp [hs, hk, hX]
  · rw [if_neg h]; exact hc j (by omega)

set_option maxRecDepth 100000 in
set_option maxHeartbeats 800000 in
theorem table_any (w : World) : Calls Try.prog 47 #[] w fun e w' => ∃ cs, e = .returned (.agg cs) ∧ IsTab cs ∧ Below w.heap.size w w' := by
  go_enter Try.func47, Try.ntmps47
  have hz := zeroTab
  go_wp2_with fail
  clear hz
  go_loopw [3] (fun i wr => ∃ (k : Nat) (cs : Array Value), k ≤ 256 ∧ i = .int .i64 k ∧ wr = w.alloc (.cells cs 73) ∧ cs.size = 256 ∧ ∀ j, j < k → cs[j]? = some (.int .u32 (Ln 8 j : Nat))) (fun i _ => 256 - (intOf i).toNat)
  case atStart => exact ⟨0, Z256, by omega, rfl, rfl, by simp [Z256], fun j hj => by omega⟩
  case round =>
    obtain ⟨k, cs, hk, rfl, rfl, hs, hc⟩ := hrel
    have HC := Lib.hid hc
    clear hc
    have HS := Lib.hid hs
    clear hs
    by_cases hlt : k < 256
    · go_wp2_with fail
      go_loop [2, 8] (fun x j => ∃ (n X : Nat), n ≤ 8 ∧ j = .int .i64 n ∧ x = .int .u32 X ∧ X ≤ 4294967295 ∧ Ln (8 - n) X = Ln 8 k) (fun _ j => 8 - (intOf j).toNat)
      case atStart => exact ⟨0, k, by omega, rfl, rfl, by omega, rfl⟩
      case round =>
        obtain ⟨n, X, hn, rfl, rfl, hX, hL⟩ := hrel
        have HL := Lib.hid hL
        clear hL
        by_cases hlt8 : n < 8
        · go_wp2_with fail
          go_round
          case rel => exact ⟨n + 1, L X, by omega, by go_num, by rw [step_u32 X hX], L_le hX, by rw [← HL.out, show 8 - n = (8 - (n + 1)) + 1 by omega]; rfl⟩
          case measure => simp [intOf]; omega
        · obtain rfl : n = 8 := by omega
          obtain ⟨u, hu⟩ : ∃ u, cs[k]? = some u := by
            have := HS.out
            exact ⟨cs[k], by rw [Array.getElem?_eq_getElem]⟩
          go_wp2_with fail
          go_roundw
          case rel =>
            have ht := tab_set hlt HS.out HC.out X HL.out
            exact ⟨k + 1, cs.setIfInBounds k (.int .u32 X), by omega, by go_num, rfl, ht.1, ht.2⟩
          case measure => simp [intOf]; omega
    · obtain rfl : k = 256 := by omega
      have hT : IsTab cs := ⟨HS.out, HC.out⟩
      have hz : (Try.prog.info? 73).map (·.size) = some cs.size := by rw [HS.out]; exact sizeTab
      have H1 := Lib.hid hz
      clear hz
      go_wp2_with (first
        | (refine wpList_load_row rfl 73 (.tmp 0) rfl w.heap.size rfl 73 cs (0, 0) _ (heap_alloc_last w _) Try.underlying73 rfl H1.out ?_)
        | (refine wpList_store_row rfl 73 (.tmp 0) (.tmp 21) rfl w.heap.size cs rfl rfl 73 cs (heap_alloc_last w _) H1.out rfl hT.one ?_; rw [World.setRow_alloc_new]))
      refine bodyPost_ret (v := .agg cs) (results_cell_row rfl _ _ w.heap.size 73 cs (0, 0) _ rfl (heap_alloc_last w _) Try.underlying73 rfl H1.out) rfl ?_
      exact ⟨cs, rfl, hT, (Below.refl _ _).alloc (Nat.le_refl _) _⟩

theorem fold_snoc (x : Nat) (l : List UInt8) (k : Nat) (h : k < l.length) : fold x (l.take (k + 1)) = Ln 8 (fold x (l.take k) ^^^ l[k].toNat) := by
  rw [List.take_succ_eq_append_getElem h]
  unfold fold
  rw [List.foldl_append]; rfl

set_option maxRecDepth 100000 in
set_option maxHeartbeats 800000 in
theorem extend_any (s : Nat) (A : Option Addr) (n c : Nat) (l : List UInt8) (w : World) (hs : s ≤ 4294967295) (hl : l.length = n) (hb : Bytes w w.heap.size A l) (hn : n ≤ 1099511627776) :
    Calls Try.prog 40 #[.int .u32 s, .slice A n c] w fun e w' => e = .returned (.int .u32 (ext s l : Nat)) ∧ Below w.heap.size w w' := by
  have HL := Lib.hid hl
  have HB := Lib.hid hb
  clear hl hb
  go_enter Try.func40, Try.ntmps40
  go_wp2_with fail
  refine (table_any _).mono ?_
  rintro e w1 ⟨cs, rfl, hT, hb1⟩
  have hz := zeroTab
  have H1 : Hid ((Try.prog.info? 73).map (·.size) = some cs.size) := by
    have h : (Try.prog.info? 73).map (·.size) = some cs.size := by rw [hT.1]; exact sizeTab
    exact h
  have HT := Lib.hid hT
  clear hT
  go_wp2_with (refine wpList_store_row rfl 73 (.tmp 5) (.tmp 8) rfl w1.heap.size cs rfl rfl 73 Z256 (heap_alloc_last w1 _) H1.out (by rw [HT.out.1]; simp [Z256]) HT.out.one ?_; rw [World.setRow_alloc_new])
  have hn0 : bits .xor .u32 IntKind.u32.max (s : Int) = ((s ^^^ M : Nat) : Int) := not_u32 s hs
  rw [hn0]
  have hsx := xor_le hs (show M ≤ 4294967295 by decide)
  obtain ⟨s', hs'⟩ : ∃ s', s' = s ^^^ M := ⟨_, rfl⟩
  rw [← hs'] at hsx ⊢
  have HS := Lib.hid hs'
  clear hs' hn0 hz
  go_loop [6, 13] (fun x i => ∃ (k X : Nat), k ≤ n ∧ i = .int .i64 k ∧ x = .int .u32 X ∧ X ≤ 4294967295 ∧ X = fold s' (l.take k)) (fun _ i => n - (intOf i).toNat)
  case atStart => exact ⟨0, s', by omega, rfl, rfl, hsx, by simp [fold]⟩
  case round =>
    obtain ⟨k, X, hk, rfl, rfl, hX, hF⟩ := hrel
    have HF := Lib.hid hF
    clear hF
    by_cases hlt : k < n
    · obtain ⟨b, off, rfl, hbB, hcell⟩ := HB.out.open_ HL.out (by omega)
      have hkl : k < l.length := by have := HL.out; omega
      have hc0 : (w1.alloc (.cells cs 73)).cell? ⟨b, off + k, none⟩ = some (.int .u8 (l[k].toNat : Nat)) :=
        (World.cell?_alloc_lt _ _ _ (Nat.lt_of_lt_of_le hbB hb1.size)).trans ((hb1.cell (p := ⟨b, off + k, none⟩) hbB).trans (hcell k hkl))
      have hxX : X ^^^ l[k].toNat ≤ 4294967295 := xor_le hX (by have := byte_le l[k]; omega)
      have HX : Hid (bits .xor .u32 ((X : Int) / 256) ((Ln 8 (X % 256 ^^^ l[k].toNat) : Nat) : Int) = ((Ln 8 (X ^^^ l[k].toNat) : Nat) : Int)) := tab_step X l[k] hX
      have hx8 := xor_u8 X l[k]
      have hq := xor_u8_lt X l[k]
      have hct := HT.out.2 _ hq
      have hfs := fold_snoc s' l k hkl
      rw [← HF.out] at hfs
      have HFS := Lib.hid hfs
      clear hfs
      generalize hqe : X % 256 ^^^ l[k].toNat = q at hx8 hq hct HX
      generalize hye : Ln 8 q = y at hct HX
      clear hqe hye
      go_wp2_with fail
      go_round
      case rel => exact ⟨k + 1, Ln 8 (X ^^^ l[k].toNat), by omega, by go_num, by rw [HX.out], Ln_le 8 hxX, HFS.out.symm⟩
      case measure => simp [intOf]; omega
    · have hX2 := not_u32 X hX
      have he : X ^^^ M = ext s l := by rw [HF.out, List.take_of_length_le (by have := HL.out; omega), HS.out]; rfl
      rw [he] at hX2
      clear he
      go_wp2_with fail
      go_ret
      exact ⟨rfl, hb1.alloc hb1.size _⟩
end Go.Proofs.Ytflgelkpblnkcaa
