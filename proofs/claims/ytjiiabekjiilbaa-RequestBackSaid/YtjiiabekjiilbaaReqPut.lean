/- What the writers of answers put: numbers, flags, distances, states. -/
import Derived.Test.YtjiiabekjiilbaaReqRW
import Derived.Test.YtjiiabekjiilbaaStand
set_option linter.unusedSimpArgs false
set_option linter.unusedVariables false
namespace Go.Proofs.Ytjiiabekjiilbaa
open Go.RowKit Mp

theorem blk_ne {w : World} {g g' : Nat} {t t' : TypeId} {cs cs' : Array Value} (h : Blk w g t cs) (h' : Blk w g' t' cs') (hne : t ≠ t') : g ≠ g' := by
  rintro rfl
  have e := h.symm.trans h'
  injection e with e
  injection e with _ e _
  exact hne e
theorem own_set {w : World} {lo : Nat} {e : TypeId} {A : Option Addr} {n c : Nat} {l : List UInt8} (h : OwnB w lo e A n c l) (p : Addr) (u : Value) (hp : ∀ g, Mp.blk A c = some g → g ≠ p.block) : OwnB (w.setCell p u) lo e A n c l :=
  h.keep fun g hg => Below.heap_setCell w p u g (hp g hg)
theorem own_ne_blk {w : World} {lo : Nat} {A : Option Addr} {n c : Nat} {l : List UInt8} (h : OwnB w lo 5 A n c l) {g : Nat} {t : TypeId} {cs : Array Value} (hb : Blk w g t cs) (ht : 5 ≠ t) : ∀ g', Mp.blk A c = some g' → g' ≠ g := fun g' hg => (own_kind h hg).ne ⟨cs, (0, 0), hb⟩ ht

/-- an answer that is being written: ga is its block, gr the reply's. -/
structure AW (w : World) (lo ga gr : Nat) (R : Array Value) (l : List UInt8) (A : Option Addr) (c : Nat) : Prop where
  a : Blk w ga 66 #[.slice A l.length c, .bool false]
  o : OwnB w lo 5 A l.length c l
  r : Blk w gr 37 R
  lga : lo ≤ ga
  lsz : lo ≤ w.heap.size
def AWs (w : World) (lo ga gr : Nat) (R : Array Value) (l : List UInt8) : Prop := ∃ A c, AW w lo ga gr R l A c

set_option maxRecDepth 100000 in
set_option maxHeartbeats 1600000 in
theorem aput_any (lo ga gr x k : Nat) (R : Array Value) (l : List UInt8) (w : World) (h : AWs w lo ga gr R l) (hn : l.length ≤ 536870000) (hk : Sz (k : Int)) (hx : x ≤ 18446744073709551615) :
    Calls Try.prog 55 #[.pointer (some ⟨ga, 0, none⟩), .int .u64 x, .int .i64 k] w fun e w' => e = .returned (.tuple #[]) ∧ AWs w' lo ga gr R (l ++ le k x) ∧ Below lo w w' := by
  obtain ⟨A, c, h⟩ := h
  have HA := Lib.hid h
  have HK := Lib.hid hk
  have c0 : w.cell? ⟨ga, 0, none⟩ = some (.slice A l.length c) := (h.a.cell 0).trans rfl
  clear h hk
  obtain ⟨n, hn'⟩ : ∃ n, n = l.length := ⟨_, rfl⟩
  rw [← hn'] at c0 hn
  have HN := Lib.hid hn'
  clear hn'
  go_enter Try.func55, Try.ntmps55
  go_wp2_with fail
  refine (putk_any A n c x k l _ HK.out HN.out.symm HA.out.o.bytes (by omega) (by rw [HN.out]; exact HA.out.o.2.1) hx).mono ?_
  rintro e w1 ⟨A1, c1, rfl, hO1, hb1⟩
  have HO1 := Lib.hid hO1
  have HA1 := Lib.hid (HA.out.a.below hb1 HA.out.a.lt)
  have HR1 := Lib.hid (HA.out.r.below hb1 HA.out.r.lt)
  have Hb1 := Lib.hid hb1
  clear hO1 hb1 c0
  have c0 := (HA1.out.cell 0).trans rfl
  have f0 := HA1.out.frozen 0
  go_wp2_with fail
  go_end0
  refine ⟨rfl, ⟨A1, c1, ?_, ?_, ?_, HA.out.lga, ?_⟩, ?_⟩
  · have h := HA1.out.set_ 0 (.slice A1 (n + k) c1)
    rw [List.length_append, le_length, ← HN.out]
    exact h
  · rw [List.length_append, le_length, ← HN.out]
    refine own_set (HO1.out.mono HA.out.lsz) _ _ fun g hg => ?_
    have := (HO1.out.blk_lt hg).1
    have := HA.out.a.lt
    simp only; omega
  · exact HR1.out.far (p := ⟨ga, 0, none⟩) (blk_ne HR1.out HA1.out (by decide)) _
  · have := Hb1.out.size; have := HA.out.lsz; simp [World.setCell]; omega
  · exact (Hb1.out.mono HA.out.lsz).setCell (p := ⟨ga, 0, none⟩) HA.out.lga _

/-- yes or no, as a byte. -/
def flagL (b : Bool) : List UInt8 := [if b then 1 else 0]
theorem aflag_any (lo ga gr : Nat) (b : Bool) (R : Array Value) (l : List UInt8) (w : World) (h : AWs w lo ga gr R l) (hn : l.length ≤ 536870000) :
    Calls Try.prog 54 #[.pointer (some ⟨ga, 0, none⟩), .bool b] w fun e w' => e = .returned (.tuple #[]) ∧ AWs w' lo ga gr R (l ++ flagL b) ∧ Below lo w w' := by
  have HP := Lib.hid (fun x hx => aput_any lo ga gr x 1 R l w h hn sz1 hx)
  clear h
  cases b
  · go_enter Try.func54, Try.ntmps54
    go_wp2_with fail
    refine (HP.out 0 (by omega)).mono ?_
    rintro e w1 ⟨rfl, hA, hb⟩
    have HA := Lib.hid hA
    have HB := Lib.hid hb
    clear hA hb
    go_wp2_with fail
    go_end0
    exact ⟨rfl, HA.out, HB.out⟩
  · go_enter Try.func54, Try.ntmps54
    go_wp2_with fail
    refine (HP.out 1 (by omega)).mono ?_
    rintro e w1 ⟨rfl, hA, hb⟩
    have HA := Lib.hid hA
    have HB := Lib.hid hb
    clear hA hb
    go_wp2_with fail
    go_end0
    exact ⟨rfl, HA.out, HB.out⟩

/-- a reply's cells. -/
def repC (err : Int) (fd : Bool) (ds : Nat) (way : Value) (st : Nat) : Array Value := #[.int .i64 err, .bool fd, .int .u64 ds, way, .int .u8 st]
set_option maxRecDepth 100000 in
set_option maxHeartbeats 1600000 in
theorem putdist_any (lo ga gr : Nat) (err : Int) (fd : Bool) (ds st : Nat) (way : Value) (l : List UInt8) (w : World) (h : AWs w lo ga gr (repC err fd ds way st) l) (hn : l.length ≤ 536860000) (hd : ds ≤ 18446744073709551615) :
    Calls Try.prog 41 #[.pointer (some ⟨ga, 0, none⟩), .pointer (some ⟨gr, 0, none⟩)] w fun e w' => e = .returned (.tuple #[]) ∧ AWs w' lo ga gr (repC err fd ds way st) (l ++ flagL fd ++ le 8 ds) ∧ Below lo w w' := by
  have HA := Lib.hid h
  clear h
  have r1 : w.cell? ⟨gr, 1, none⟩ = some (.bool fd) := by obtain ⟨A, c, h⟩ := HA.out; exact (h.r.cell 1).trans rfl
  go_enter Try.func41, Try.ntmps41
  go_wp2_with fail
  refine (aflag_any lo ga gr fd _ l _ HA.out (by omega)).mono ?_
  rintro e w1 ⟨rfl, hA1, hb1⟩
  have HA1 := Lib.hid hA1
  have HB1 := Lib.hid hb1
  clear hA1 hb1 r1
  have r2 : w1.cell? ⟨gr, 2, none⟩ = some (.int .u64 ds) := by obtain ⟨A, c, h⟩ := HA1.out; exact (h.r.cell 2).trans rfl
  go_wp2_with fail
  refine (aput_any lo ga gr ds 8 _ (l ++ flagL fd) _ HA1.out (by simp [flagL]; omega) sz8 hd).mono ?_
  rintro e w2 ⟨rfl, hA2, hb2⟩
  have HA2 := Lib.hid hA2
  have HB2 := Lib.hid hb2
  clear hA2 hb2
  go_wp2_with fail
  go_end0
  exact ⟨rfl, HA2.out, HB1.out.trans HB2.out⟩
theorem putstate_any (lo ga gr : Nat) (err : Int) (fd : Bool) (ds st : Nat) (way : Value) (l : List UInt8) (w : World) (h : AWs w lo ga gr (repC err fd ds way st) l) (hn : l.length ≤ 536860000) (hst : st ≤ 255) :
    Calls Try.prog 45 #[.pointer (some ⟨ga, 0, none⟩), .pointer (some ⟨gr, 0, none⟩)] w fun e w' => e = .returned (.tuple #[]) ∧ AWs w' lo ga gr (repC err fd ds way st) (l ++ le 1 st) ∧ Below lo w w' := by
  have HA := Lib.hid h
  clear h
  have r1 : w.cell? ⟨gr, 4, none⟩ = some (.int .u8 st) := by obtain ⟨A, c, h⟩ := HA.out; exact (h.r.cell 4).trans rfl
  go_enter Try.func45, Try.ntmps45
  go_wp2_with fail
  refine (aput_any lo ga gr st 1 _ l _ HA.out (by omega) sz1 (by omega)).mono ?_
  rintro e w1 ⟨rfl, hA1, hb1⟩
  have HA1 := Lib.hid hA1
  have HB1 := Lib.hid hb1
  clear hA1 hb1 r1
  go_wp2_with fail
  go_end0
  exact ⟨rfl, HA1.out, HB1.out⟩
end Go.Proofs.Ytjiiabekjiilbaa
