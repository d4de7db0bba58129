/- What milepostref00.longer answers, and what it leaves of the list as it was. -/
import Derived.Test.YtjiiabekjiilbaaTexts
import Derived.Test.YtjiiabekjiilbaaAppend2
set_option linter.unusedSimpArgs false
set_option linter.unusedVariables false
namespace Go.Proofs.Ytjiiabekjiilbaa
open Go.RowKit Mp

/-- what longer lays behind a list: forty bytes of one kind. -/
def farL (b : UInt8) : List UInt8 := List.replicate 40 b
/-- what growing a slice of the call's own leaves of the slice as it was. -/
def Elder (w0 wr : World) (lo : Nat) (A : Option Addr) (n c : Nat) (l : List UInt8) (A' : Option Addr) (c' : Nat) : Prop :=
  OwnB wr lo 5 A n c l ∧ w0.grownBy wr (blk A c) ∧ ((A' = A ∧ c' = c) ∨ ∀ g, blk A' c' = some g → w0.heap.size ≤ g)

theorem grown_trans {w w' w'' : World} {row row2 : Option Nat} (h1 : w.grownBy w' row) (h2 : w'.grownBy w'' row2) (hr : row2 = row ∨ ∀ g, row2 = some g → w.heap.size ≤ g) : w.grownBy w'' row :=
  ⟨h2.os.trans h1.os, h2.tape.trans h1.tape, h2.output.trans h1.output, Nat.le_trans h1.size h2.size, fun k hk hne => by
    refine (h2.block k (Nat.lt_of_lt_of_le hk h1.size) ?_).trans (h1.block k hk hne)
    rcases hr with rfl | hr
    · exact hne
    · intro e; have := hr k e.symm; omega⟩
theorem elder_step {w0 wr w3 : World} {o : Obj} {lo n m c c' c2 : Nat} {A A' A2 : Option Addr} {l x y : List UInt8} (h0 : ∀ g, blk A c = some g → g < w0.heap.size) (h : Elder w0 wr lo A n c l A' c') (hO3 : OwnB w3 lo 5 A2 (m + 1) c2 (l ++ x ++ y)) (hnm : n ≤ m + 1)
    (hg : (wr.alloc o).grownBy w3 (blk A' c'))
    (hd : (blk A2 c2 = blk A' c' ∧ c2 = c' ∧ A2 = A' ∧ m + 1 ≤ c') ∨ ((∀ g, blk A2 c2 = some g → (wr.alloc o).heap.size ≤ g) ∧ c' < m + 1 ∧ (wr.alloc o).grownBy w3 none)) : Elder w0 w3 lo A n c l A2 c2 := by
  obtain ⟨h1, h2, h3⟩ := h
  have hln : l.length = n := h1.1
  have ha : w0.grownBy (wr.alloc o) (blk A c) := grown_trans h2 (World.grownBy_alloc wr o _) (.inl rfl)
  have htake : ∀ {B : Option Addr} {d : Nat}, OwnB w3 lo 5 B (m + 1) d (l ++ x ++ y) → OwnB w3 lo 5 B n d l := by
    intro B d hq
    have := hq.take n hnm
    rw [List.append_assoc, List.take_append_of_le_length (by omega), List.take_of_length_le (by omega)] at this
    exact this
  have hsz : w0.heap.size ≤ (wr.alloc o).heap.size := ha.size
  rcases hd with ⟨e1, rfl, rfl, hm⟩ | ⟨hnew, hm, hgn⟩
  · rcases h3 with ⟨rfl, rfl⟩ | hfar
    · exact ⟨htake hO3, grown_trans ha hg (.inl rfl), .inl ⟨rfl, rfl⟩⟩
    · refine ⟨(h1.alloc o).grown hg ?_, grown_trans ha hg (.inr hfar), .inr hfar⟩
      rcases hb : blk A c with _ | g
      · exact .inl rfl
      · refine .inr fun e => ?_
        have := h0 g hb
        have := hfar g e.symm
        omega
  · have hw3 : (wr.alloc o).grownBy w3 (blk A c) := ⟨hgn.os, hgn.tape, hgn.output, hgn.size, fun k hk _ => hgn.block k hk (by simp)⟩
    refine ⟨(h1.alloc o).keep fun g hg' => ?_, grown_trans ha hw3 (.inl rfl), .inr fun g hg' => Nat.le_trans hsz (hnew g hg')⟩
    exact hgn.block g ((h1.alloc o).blk_lt hg').2 (by simp)

set_option maxRecDepth 100000 in
set_option maxHeartbeats 1600000 in
/-- longer, of a slice of the call's own: it may grow in place; the slice as it was reads on, and nothing else is touched. -/
theorem longer_any (A : Option Addr) (n c lo : Nat) (b : UInt8) (l : List UInt8) (w : World) (hO : OwnB w lo 5 A n c l) (hn : n ≤ 1073741824) (hlo : lo ≤ w.heap.size) :
    Calls Try.prog 38 #[.slice A n c, .int .u8 (b.toNat : Int)] w fun e w' => ∃ A' c', e = .returned (.slice A' (n + 40) c') ∧ OwnB w' lo 5 A' (n + 40) c' (l ++ farL b) ∧ Elder w w' lo A n c l A' c' := by
  obtain ⟨i0, hi0, hz0, hz1, hz2⟩ := info_parts (show (Try.prog.info? 5).map (fun i => (i.zero, i.size, i.bytes)) = some (some (.int .u8 0), 1, 1) by kernel_rfl)
  have HO0 := Lib.hid hO
  clear hO
  go_enter Try.func38, Try.ntmps38
  go_wp2_with fail
  go_loopw [0] (fun v wr => ∃ (k : Nat) (A' : Option Addr) (c' : Nat), k ≤ 40 ∧ v = .slice A' (n + k) c' ∧ OwnB wr lo 5 A' (n + k) c' (l ++ List.replicate k b) ∧ Elder w wr lo A n c l A' c') (fun v _ => match v with | .slice _ m _ => n + 40 - m | _ => 0)
  case atStart => exact ⟨0, A, c, by omega, rfl, by simpa using HO0.out, HO0.out, World.grownBy.refl w _, .inl ⟨rfl, rfl⟩⟩
  case round =>
    obtain ⟨k, A', c', hk, rfl, hO, hel⟩ := hrel
    have HO := Lib.hid hO
    have HEL := Lib.hid hel
    clear hO hel
    have HSZ : Hid (w.heap.size ≤ wr.heap.size) := Lib.hid HEL.out.2.1.size
    by_cases hlt : k < 40
    · go_wp2_with (at_builtin; refine wpList_append_b2 rfl (.tmp 13) (.tmp 15) _ rfl 5 i0 Try.underlying22 hi0 hz0 hz1 hz2 rfl (HO.out.alloc _) rfl (bytes_one wr _ _ b rfl) rfl (by omega) (by have := HSZ.out; simp; omega) ?_; intro A2 c2 w3 hO3 hg3 hd3; have HO3 := Lib.hid hO3; have HG3 := Lib.hid hg3; have HD3 := Lib.hid hd3; clear hO3 hg3 hd3)
      go_roundw
      case rel =>
        refine ⟨k + 1, A2, c2, by omega, rfl, by rw [List.replicate_succ', ← List.append_assoc]; exact HO3.out, ?_⟩
        exact elder_step (fun g hg => (HO0.out.blk_lt hg).2) HEL.out HO3.out (by omega) HG3.out HD3.out
      case measure => simp; omega
    · obtain rfl : k = 40 := by omega
      go_wp2_with fail
      go_ret
      exact ⟨A', c', rfl, HO.out, HEL.out⟩
end Go.Proofs.Ytjiiabekjiilbaa
