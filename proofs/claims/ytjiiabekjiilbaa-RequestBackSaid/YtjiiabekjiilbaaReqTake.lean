/- What the readers of answers take: numbers, flags, distances, states. -/
import Derived.Test.YtjiiabekjiilbaaReqPut
import Derived.Test.YtjiiabekjiilbaaApart3
set_option linter.unusedSimpArgs false
set_option linter.unusedVariables false
namespace Go.Proofs.Ytjiiabekjiilbaa
open Go.RowKit Mp

/-- an answer that is being read: ga is its block, gr the reply's; its bytes lie below block lo. -/
structure AR (w : World) (lo ga gr : Nat) (bad : Bool) (R : Array Value) (l : List UInt8) (A : Option Addr) (c : Nat) : Prop where
  a : Blk w ga 66 #[.slice A l.length c, .bool bad]
  b : Bytes w lo A l
  nc : l.length ≤ c
  cm : c ≤ maxLen
  r : Blk w gr 37 R
  lga : lo ≤ ga
  lgr : lo ≤ gr
  lsz : lo ≤ w.heap.size
def ARs (w : World) (lo ga gr : Nat) (bad : Bool) (R : Array Value) (l : List UInt8) : Prop := ∃ A c, AR w lo ga gr bad R l A c
theorem AR.of_grown {w w' : World} {lo ga gr : Nat} {bad : Bool} {R : Array Value} {l : List UInt8} {A : Option Addr} {c : Nat} (h : AR w lo ga gr bad R l A c) (hb : Below w.heap.size w w') : AR w' lo ga gr bad R l A c :=
  ⟨h.a.below hb h.a.lt, h.b.below (hb.mono h.lsz), h.nc, h.cm, h.r.below hb h.r.lt, h.lga, h.lgr, Nat.le_trans h.lsz hb.size⟩
theorem ARs.below {w w' : World} {lo ga gr : Nat} {bad : Bool} {R : Array Value} {l : List UInt8} (h : ARs w lo ga gr bad R l) (hb : Below w.heap.size w w') : ARs w' lo ga gr bad R l := by
  obtain ⟨A, c, h⟩ := h
  exact ⟨A, c, h.of_grown hb⟩
theorem drop_bytes {w : World} {B : Nat} {A : Option Addr} {n c : Nat} {l : List UInt8} (hb : Bytes w B A l) (hl : l.length = n) (hnc : n ≤ c) (k : Nat) (hk : k ≤ n) : Bytes w B (if c = k then A else A.map (·.add (k * 1))) (l.drop k) := by
  have h := hb.cut k n c hk (by omega) (by omega)
  rw [List.take_of_length_le (by simp; omega)] at h
  exact h

set_option maxRecDepth 100000 in
set_option maxHeartbeats 1600000 in
theorem take_ok (lo ga gr k : Nat) (bad : Bool) (R : Array Value) (l : List UInt8) (w : World) (h : ARs w lo ga gr bad R l) (hn : l.length ≤ 1099511627776) (hk : Sz (k : Int)) (hkl : k ≤ l.length) :
    Calls Try.prog 40 #[.pointer (some ⟨ga, 0, none⟩), .int .i64 k] w fun e w' => e = .returned (.int .u64 (num l 0 k : Nat)) ∧ ARs w' lo ga gr bad R (l.drop k) ∧ w.grownBy w' (some ga) := by
  obtain ⟨A, c, h⟩ := h
  have HA := Lib.hid h
  have HK := Lib.hid hk
  have c0 : w.cell? ⟨ga, 0, none⟩ = some (.slice A l.length c) := (h.a.cell 0).trans rfl
  have hnc := h.nc
  clear h hk
  obtain ⟨n, hn'⟩ : ∃ n, n = l.length := ⟨_, rfl⟩
  rw [← hn'] at c0 hn hkl hnc
  have HN := Lib.hid hn'
  clear hn'
  have hck : (k : Int) ≤ (n : Int) := by omega
  have hck0 : (0 : Int) ≤ (k : Int) := by omega
  obtain ⟨A1, hA1⟩ : ∃ A1, A1 = (if c = k then A else A.map (·.add (k * 1))) := ⟨_, rfl⟩
  have hs1 : ∀ W : World, (Instr.sliceAt 22 (.slice A n c) (some (.int .i64 (k : Int))) none none).run Try.prog W = .ok (.slice A1 (n - k) (c - k)) W := fun W => by
    rw [hA1]
    exact run_cut _ _ Try.underlying22 (fun _ => by kernel_rfl) A n c k (by omega) W
  have HB : Hid (Bytes w lo A1 (l.drop k)) := by
    have h : Bytes w lo A1 (l.drop k) := by rw [hA1]; exact drop_bytes HA.out.b HN.out.symm hnc k hkl
    exact h
  have HDL : Hid ((l.drop k).length = n - k) := by
    have h : (l.drop k).length = n - k := by rw [List.length_drop, HN.out]
    exact h
  have HG := Lib.hid (get_ok A n c 0 k l w HN.out.symm (HA.out.b.more HA.out.lsz) hn hnc HK.out (by omega))
  clear hA1
  generalize num l 0 k = v at *
  go_enter Try.func40, Try.ntmps40
  go_wp2_with fail
  refine HG.out.mono ?_
  rintro e w1 ⟨rfl, hb1⟩
  have HA1 := Lib.hid (HA.out.of_grown hb1)
  have Hb1 := Lib.hid hb1
  clear hb1 c0
  have c0 : w1.cell? ⟨ga, 0, none⟩ = some (.slice A n c) := by rw [HN.out]; exact (HA1.out.a.cell 0).trans rfl
  have f0 := HA1.out.a.frozen 0
  go_wp2_with fail
  go_ret
  refine ⟨rfl, ⟨A1, c - k, ?_, ?_, by rw [HDL.out]; omega, ?_, ?_, HA1.out.lga, HA1.out.lgr, ?_⟩, ?_⟩
  · have h := HA1.out.a.set_ 0 (.slice A1 (n - k) (c - k))
    rw [HDL.out]
    exact h
  · exact (HB.out.below (Hb1.out.mono HA.out.lsz)).below ((Below.refl lo w1).setCell (p := ⟨ga, 0, none⟩) HA.out.lga _)
  · have := HA1.out.cm; omega
  · exact HA1.out.r.far (p := ⟨ga, 0, none⟩) (blk_ne HA1.out.r HA1.out.a (by decide)) _
  · have := HA1.out.lsz; simp [World.setCell]; omega
  · exact only_setCell (grown_of_below Hb1.out) rfl _

set_option maxRecDepth 100000 in
set_option maxHeartbeats 1600000 in
theorem take_no (lo ga gr k : Nat) (bad : Bool) (R : Array Value) (l : List UInt8) (w : World) (h : ARs w lo ga gr bad R l) (hn : l.length ≤ 1099511627776) (hkl : l.length < k) :
    Calls Try.prog 40 #[.pointer (some ⟨ga, 0, none⟩), .int .i64 k] w fun e w' => e = .returned (.int .u64 0) ∧ ARs w' lo ga gr true R l ∧ w.grownBy w' (some ga) := by
  obtain ⟨A, c, h⟩ := h
  have HA := Lib.hid h
  have c0 : w.cell? ⟨ga, 0, none⟩ = some (.slice A l.length c) := (h.a.cell 0).trans rfl
  clear h
  obtain ⟨n, hn'⟩ : ∃ n, n = l.length := ⟨_, rfl⟩
  rw [← hn'] at c0 hn hkl
  have HN := Lib.hid hn'
  clear hn'
  have HG := Lib.hid (get_no A n c 0 k w hn (by rintro ⟨_, _, h⟩; omega))
  go_enter Try.func40, Try.ntmps40
  go_wp2_with fail
  refine HG.out.mono ?_
  rintro e w1 ⟨rfl, hb1⟩
  have HA1 := Lib.hid (HA.out.of_grown hb1)
  have Hb1 := Lib.hid hb1
  clear hb1 c0
  have c1 : w1.cell? ⟨ga, 1, none⟩ = some (.bool bad) := (HA1.out.a.cell 1).trans rfl
  have f1 := HA1.out.a.frozen 1
  go_wp2_with fail
  go_ret
  refine ⟨rfl, ⟨A, c, ?_, ?_, HA1.out.nc, HA1.out.cm, ?_, HA1.out.lga, HA1.out.lgr, ?_⟩, ?_⟩
  · exact HA1.out.a.set_ 1 (.bool true)
  · exact HA1.out.b.below ((Below.refl lo w1).setCell (p := ⟨ga, 1, none⟩) HA.out.lga _)
  · exact HA1.out.r.far (p := ⟨ga, 1, none⟩) (blk_ne HA1.out.r HA1.out.a (by decide)) _
  · have := HA1.out.lsz; simp [World.setCell]; omega
  · exact only_setCell (grown_of_below Hb1.out) rfl _

theorem num_one (b : UInt8) (t : List UInt8) : num (b :: t) 0 1 = b.toNat := by simp [num, bval]
set_option maxRecDepth 100000 in
set_option maxHeartbeats 1600000 in
theorem takeflag_any (lo ga gr : Nat) (bad : Bool) (R : Array Value) (l : List UInt8) (w : World) (h : ARs w lo ga gr bad R l) (hn : l.length ≤ 1099511627776) :
    Calls Try.prog 56 #[.pointer (some ⟨ga, 0, none⟩)] w fun e w' => e = .returned (.bool (l.head? == some 1)) ∧ ARs w' lo ga gr (bad || l.isEmpty || decide (1 < l.headD 0)) R (l.drop 1) ∧ w.grownBy w' (some ga) := by
  have fin : ∀ (w1 : World) (x : Bool) (bd bd2 : Bool) (l' : List UInt8), Hid (ARs w1 lo ga gr bd R l') → Hid (w.grownBy w1 (some ga)) → ARs (w1.setCell ⟨ga, 1, none⟩ (.bool bd2)) lo ga gr bd2 R l' ∧ w.grownBy (w1.setCell ⟨ga, 1, none⟩ (.bool bd2)) (some ga) := by
    rintro w1 x bd bd2 l' hA hg
    obtain ⟨A, c, HA⟩ := hA.out
    refine ⟨⟨A, c, HA.a.set_ 1 (.bool bd2), HA.b.below ((Below.refl lo w1).setCell (p := ⟨ga, 1, none⟩) HA.lga _), HA.nc, HA.cm, HA.r.far (p := ⟨ga, 1, none⟩) (blk_ne HA.r HA.a (by decide)) _, HA.lga, HA.lgr, ?_⟩, only_setCell hg.out rfl _⟩
    have := HA.lsz; simp [World.setCell]; omega
  have FIN := Lib.hid fin
  clear fin
  rcases l with _ | ⟨b, t⟩
  · have HT := Lib.hid (take_no lo ga gr 1 bad R [] w h hn (by simp))
    clear h
    go_enter Try.func56, Try.ntmps56
    go_wp2_with fail
    refine HT.out.mono ?_
    rintro e w1 ⟨rfl, hA1, hg1⟩
    have HA1 := Lib.hid hA1
    have HG1 := Lib.hid hg1
    obtain ⟨A, c, h1⟩ := hA1
    have c1 : w1.cell? ⟨ga, 1, none⟩ = some (.bool true) := (h1.a.cell 1).trans rfl
    have f1 := h1.a.frozen 1
    clear h1 hg1
    go_wp2_with fail
    go_ret
    have h := FIN.out w1 true true true _ HA1 HG1
    refine ⟨by simp, ?_, h.2⟩
    have hb : (bad || ([] : List UInt8).isEmpty || decide ((1 : UInt8) < ([] : List UInt8).headD 0)) = true := by simp
    rw [hb]
    exact h.1
  · have HT := Lib.hid (take_ok lo ga gr 1 bad R (b :: t) w h hn sz1 (by simp))
    have hbl := b.toNat_lt
    clear h
    by_cases hone : b = 1
    · have hnum : num (b :: t) 0 1 = 1 := by rw [num_one, hone]; rfl
      have HNUM := Lib.hid hnum
      have HB := Lib.hid hone
      clear hnum hone
      cases bad
      all_goals
        go_enter Try.func56, Try.ntmps56
        go_wp2_with fail
        refine HT.out.mono ?_
        rintro e w1 ⟨rfl, hA1, hg1⟩
        rw [HNUM.out]
        have HA1 := Lib.hid hA1
        have HG1 := Lib.hid hg1
        obtain ⟨A, c, h1⟩ := hA1
        have c1 := (h1.a.cell 1).trans rfl
        have f1 := h1.a.frozen 1
        clear h1 hg1
        go_wp2_with fail
        go_ret
      · have h := FIN.out w1 true false false _ HA1 HG1
        refine ⟨by rw [HB.out]; rfl, ?_, h.2⟩
        rw [HB.out]
        exact h.1
      · have h := FIN.out w1 true true true _ HA1 HG1
        refine ⟨by rw [HB.out]; rfl, ?_, h.2⟩
        rw [HB.out]
        exact h.1
    · have hd : ((b.toNat : Int) == 1) = false := by
        rw [beq_eq_false_iff_ne]
        intro e
        exact hone (UInt8.toNat_inj.1 (by show b.toNat = 1; omega))
      have HNUM := Lib.hid (num_one b t)
      have HB := Lib.hid hone
      have hne : b.toNat ≠ 1 := by
        intro e
        exact hone (UInt8.toNat_inj.1 (by show b.toNat = 1; omega))
      clear hone
      have HH : Hid ((List.head? (b :: t) == some 1) = false) := by
        have h : (List.head? (b :: t) == some 1) = false := by simp; exact HB.out
        exact h
      have HDD : Hid (decide ((1 : UInt8) < b) = decide ((1 : Int) < (b.toNat : Int))) := by
        have h : decide ((1 : UInt8) < b) = decide ((1 : Int) < (b.toNat : Int)) := by
          rw [decide_eq_decide, UInt8.lt_iff_toNat_lt]
          show (1 : Nat) < b.toNat ↔ _
          omega
        exact h
      cases bad
      all_goals
        go_enter Try.func56, Try.ntmps56
        go_wp2_with fail
        refine HT.out.mono ?_
        rintro e w1 ⟨rfl, hA1, hg1⟩
        rw [HNUM.out]
        have HA1 := Lib.hid hA1
        have HG1 := Lib.hid hg1
        obtain ⟨A, c, h1⟩ := hA1
        have c1 := (h1.a.cell 1).trans rfl
        have f1 := h1.a.frozen 1
        clear h1 hg1
        go_wp2_with fail
        go_ret
      · have h := FIN.out w1 true false (decide ((1 : Int) < (b.toNat : Int))) _ HA1 HG1
        refine ⟨by rw [HH.out]; rfl, ?_, h.2⟩
        have he : (false || (b :: t).isEmpty || decide ((1 : UInt8) < (b :: t).headD 0)) = decide ((1 : Int) < (b.toNat : Int)) := by
          rw [← HDD.out]; simp
        rw [he]
        exact h.1
      · have h := FIN.out w1 true true true _ HA1 HG1
        refine ⟨by rw [HH.out]; rfl, ?_, h.2⟩
        have he : (true || (b :: t).isEmpty || decide ((1 : UInt8) < (b :: t).headD 0)) = true := by simp
        rw [he]
        exact h.1

/-- a cell of the reply is written. -/
theorem ARs.reply {w : World} {lo ga gr : Nat} {bad : Bool} {R : Array Value} {l : List UInt8} (h : ARs w lo ga gr bad R l) (i : Nat) (u : Value) : ARs (w.setCell ⟨gr, i, none⟩ u) lo ga gr bad (R.setIfInBounds i u) l := by
  obtain ⟨A, c, h⟩ := h
  refine ⟨A, c, h.a.far (p := ⟨gr, i, none⟩) (blk_ne h.a h.r (by decide)) _, h.b.below ((Below.refl lo w).setCell (p := ⟨gr, i, none⟩) h.lgr _), h.nc, h.cm, h.r.set_ i u, h.lga, h.lgr, ?_⟩
  have := h.lsz; simp [World.setCell]; omega
/-- Below, where two blocks from lo on are written. -/
theorem below_only {lo g : Nat} {w w1 w2 : World} (h : Below lo w w1) (hg : w1.grownBy w2 (some g)) (hlo : lo ≤ g) (hsz : lo ≤ w1.heap.size) : Below lo w w2 :=
  h.grown hg hsz (fun k hk => by injection hk with hk; omega)

set_option maxRecDepth 100000 in
set_option maxHeartbeats 1600000 in
/-- the eight bytes of a number, or that they lack. -/
theorem take_any (lo ga gr k : Nat) (bad : Bool) (R : Array Value) (l : List UInt8) (w : World) (h : ARs w lo ga gr bad R l) (hn : l.length ≤ 1099511627776) (hk : Sz (k : Int)) :
    Calls Try.prog 40 #[.pointer (some ⟨ga, 0, none⟩), .int .i64 k] w fun e w' => ∃ (x : Nat) (bd : Bool) (l' : List UInt8), e = .returned (.int .u64 x) ∧ x < 2 ^ (8 * k) ∧ l'.length ≤ l.length ∧ (k ≤ l.length → x = num l 0 k ∧ bd = bad ∧ l' = l.drop k) ∧ (l.length < k → x = 0 ∧ bd = true ∧ l' = l) ∧ ARs w' lo ga gr bd R l' ∧ w.grownBy w' (some ga) := by
  by_cases hkl : k ≤ l.length
  · exact (take_ok lo ga gr k bad R l w h hn hk hkl).mono fun e w' ⟨h1, h2, h3⟩ => ⟨_, bad, _, h1, num_lt l 0 k, by rw [List.length_drop]; omega, fun _ => ⟨rfl, rfl, rfl⟩, fun h => by omega, h2, h3⟩
  · exact (take_no lo ga gr k bad R l w h hn (by omega)).mono fun e w' ⟨h1, h2, h3⟩ => ⟨0, true, l, h1, Nat.two_pow_pos _, Nat.le_refl _, fun h => by omega, fun _ => ⟨rfl, rfl, rfl⟩, h2, h3⟩

/-- what takeDist leaves. -/
def TD (l : List UInt8) (fd : Bool) (ds : Nat) (bd : Bool) (l' : List UInt8) : Prop :=
  (l.length = 9 ∧ l.headD 0 ≤ 1 ∧ fd = (l.head? == some 1) ∧ ds = num l 1 8 ∧ bd = false ∧ l' = []) ∨ (¬ (l.length = 9 ∧ l.headD 0 ≤ 1) ∧ (bd = true ∨ l' ≠ []))
set_option maxRecDepth 100000 in
set_option maxHeartbeats 1600000 in
theorem takedist_any (lo ga gr : Nat) (err : Int) (fd : Bool) (ds st : Nat) (way : Value) (l : List UInt8) (w : World) (h : ARs w lo ga gr false (repC err fd ds way st) l) (hn : l.length ≤ 1099511627776) :
    Calls Try.prog 42 #[.pointer (some ⟨ga, 0, none⟩), .pointer (some ⟨gr, 0, none⟩)] w fun e w' => ∃ (fd' : Bool) (ds' : Nat) (bd : Bool) (l' : List UInt8), e = .returned (.tuple #[]) ∧ TD l fd' ds' bd l' ∧ ARs w' lo ga gr bd (repC err fd' ds' way st) l' ∧ Below lo w w' := by
  have HA := Lib.hid h
  clear h
  go_enter Try.func42, Try.ntmps42
  go_wp2_with fail
  refine (takeflag_any lo ga gr false _ l _ HA.out hn).mono ?_
  rintro e w1 ⟨rfl, hA1, hg1⟩
  have HB1 : Hid (Below lo w w1) := by
    have h : Below lo w w1 := by
      obtain ⟨A, c, h⟩ := HA.out
      exact below_only (Below.refl _ _) hg1 h.lga h.lsz
    exact h
  have HA1 := Lib.hid hA1
  clear hg1
  obtain ⟨A, c, h1⟩ := hA1
  have c1 := (h1.r.cell 1).trans rfl
  have f1 := h1.r.frozen 1
  have hlgr := h1.lgr
  have hlsz := h1.lsz
  clear h1
  obtain ⟨fd', hfd⟩ : ∃ x, x = (l.head? == some 1) := ⟨_, rfl⟩
  obtain ⟨bd, hbd⟩ : ∃ x, x = (false || l.isEmpty || decide ((1 : UInt8) < l.headD 0)) := ⟨_, rfl⟩
  rw [← hbd] at HA1
  rw [← hfd]
  have HFD := Lib.hid hfd
  have HBD := Lib.hid hbd
  clear hfd hbd
  have HA2 := Lib.hid (HA1.out.reply 1 (.bool fd'))
  have HB2 := Lib.hid (HB1.out.setCell (p := ⟨gr, 1, none⟩) hlgr (.bool fd'))
  go_wp2_with fail
  refine (take_any lo ga gr 8 bd _ (l.drop 1) _ HA2.out (by rw [List.length_drop]; omega) sz8).mono ?_
  rintro e w3 ⟨x, bd3, l3, rfl, hx, hl3, hyes, hno, hA3, hg3⟩
  have HB3 := Lib.hid (below_only HB2.out hg3 (by obtain ⟨A, c, h⟩ := HA.out; exact h.lga) (by simp [World.setCell]; omega))
  have HA3 := Lib.hid hA3
  have HY := Lib.hid hyes
  have HN := Lib.hid hno
  clear hg3 hyes hno c1 f1 hx
  obtain ⟨A, c, h1⟩ := hA3
  have c1 := (h1.r.cell 2).trans rfl
  have f1 := h1.r.frozen 2
  clear h1
  have HA4 := Lib.hid (HA3.out.reply 2 (.int .u64 x))
  have HB4 := Lib.hid (HB3.out.setCell (p := ⟨gr, 2, none⟩) hlgr (.int .u64 x))
  go_wp2_with fail
  go_end0
  refine ⟨fd', x, bd3, l3, rfl, ?_, HA4.out, HB4.out⟩
  have hb := HBD.out
  unfold TD
  rcases l with _ | ⟨b, t⟩
  · refine .inr ⟨by simp, .inl ?_⟩
    exact (HN.out (by simp)).2.1
  · by_cases h9 : t.length = 8
    · obtain ⟨e1, e2, e3⟩ := HY.out (by simp; omega)
      by_cases hb1 : b ≤ 1
      · refine .inl ⟨by simp; omega, hb1, HFD.out, ?_, ?_, ?_⟩
        · rw [e1]; simp [num]
        · rw [e2, hb]; simp; exact hb1
        · rw [e3]; apply List.eq_nil_of_length_eq_zero; simp; omega
      · refine .inr ⟨fun h => hb1 h.2, .inl ?_⟩
        rw [e2, hb]; simp
        rw [UInt8.lt_iff_toNat_lt]
        rw [UInt8.le_iff_toNat_le] at hb1
        omega
    · refine .inr ⟨fun h => h9 (by have := h.1; simp at this; omega), ?_⟩
      by_cases hlt : t.length < 8
      · exact .inl (HN.out (by simp; omega)).2.1
      · obtain ⟨e1, e2, e3⟩ := HY.out (by simp; omega)
        refine .inr ?_
        rw [e3]
        intro e
        have := congrArg List.length e
        simp at this
        omega

/-- what takeState leaves. -/
def TS (l : List UInt8) (st : Nat) (bd : Bool) (l' : List UInt8) : Prop := (l.length = 1 ∧ st = (l.headD 0).toNat ∧ bd = false ∧ l' = []) ∨ (l.length ≠ 1 ∧ (bd = true ∨ l' ≠ []))
set_option maxRecDepth 100000 in
set_option maxHeartbeats 1600000 in
theorem takestate_any (lo ga gr : Nat) (err : Int) (fd : Bool) (ds st : Nat) (way : Value) (l : List UInt8) (w : World) (h : ARs w lo ga gr false (repC err fd ds way st) l) (hn : l.length ≤ 1099511627776) :
    Calls Try.prog 46 #[.pointer (some ⟨ga, 0, none⟩), .pointer (some ⟨gr, 0, none⟩)] w fun e w' => ∃ (st' : Nat) (bd : Bool) (l' : List UInt8), e = .returned (.tuple #[]) ∧ TS l st' bd l' ∧ st' ≤ 255 ∧ ARs w' lo ga gr bd (repC err fd ds way st') l' ∧ Below lo w w' := by
  have HA := Lib.hid h
  clear h
  go_enter Try.func46, Try.ntmps46
  go_wp2_with fail
  refine (take_any lo ga gr 1 false _ l _ HA.out hn sz1).mono ?_
  rintro e w3 ⟨x, bd3, l3, rfl, hx, hl3, hyes, hno, hA3, hg3⟩
  have hx2 : x < 256 := by simpa using hx
  have HB3 : Hid (Below lo w w3) := by
    have h : Below lo w w3 := by
      obtain ⟨A, c, h⟩ := HA.out
      exact below_only (Below.refl _ _) hg3 h.lga h.lsz
    exact h
  have HA3 := Lib.hid hA3
  have HY := Lib.hid hyes
  have HN := Lib.hid hno
  clear hg3 hyes hno hx
  obtain ⟨A, c, h1⟩ := hA3
  have c1 := (h1.r.cell 4).trans rfl
  have f1 := h1.r.frozen 4
  have hlgr := h1.lgr
  clear h1
  have HA4 := Lib.hid (HA3.out.reply 4 (.int .u8 x))
  have HB4 := Lib.hid (HB3.out.setCell (p := ⟨gr, 4, none⟩) hlgr (.int .u8 x))
  go_wp2_with fail
  go_end0
  refine ⟨x, bd3, l3, rfl, ?_, by omega, HA4.out, HB4.out⟩
  unfold TS
  rcases l with _ | ⟨b, t⟩
  · exact .inr ⟨by simp, .inl (HN.out (by simp)).2.1⟩
  · obtain ⟨e1, e2, e3⟩ := HY.out (by simp)
    by_cases h1 : t = []
    · subst h1
      exact .inl ⟨rfl, by rw [e1, num_one]; rfl, e2, by rw [e3]; rfl⟩
    · refine .inr ⟨?_, .inr ?_⟩
      · intro e
        simp at e
        exact h1 e
      · rw [e3]
        exact h1
end Go.Proofs.Ytjiiabekjiilbaa
