/- What ReadAnswer answers, of the package and of the document, told exactly: the same of both. -/
import Derived.Test.YtjiiabekjiilbaaReqRefRead
set_option linter.unusedSimpArgs false
set_option linter.unusedVariables false
namespace Go.Proofs.Ytjiiabekjiilbaa
open Go.RowKit Mp

theorem rh_refh {k lo : Nat} {l : List UInt8} {Q : Bool → Nat → Value → Nat → Bool → List UInt8 → World → Prop} {e : Ending} {w' : World} (h : RH l Q e w')
    (hq : ∀ t fd ds way st bd l', l = 0 :: t → Q fd ds way st bd l' w' → (bd = false → l' = [] → bodyOk k t ∧ fd = (if k = 3 then false else t.head? == some 1) ∧ ds = (if k = 1 then num t 1 8 else 0) ∧ st = (if k = 3 then (t.headD 0).toNat else 0) ∧ (k ≠ 2 → way = nil_) ∧ (k = 2 → w'.ownsRow lo 71 4 way (num t 1 4) (cellsL (parse (t.drop 5) (num t 1 4))))) ∧ (bd = true ∨ l' ≠ [] → ¬ bodyOk k t)) : RefH lo k l e w' := by
  rcases h with ⟨rfl, rfl⟩ | ⟨b, t, rfl, hb, h⟩ | ⟨t, fd, ds, way, st, bd, l', rfl, hQ, h⟩
  · exact .inl ⟨not_acc_nil _, rfl⟩
  · rcases h with ⟨rfl, rfl⟩ | ⟨ht, rfl⟩
    · exact .inr (.inl ⟨b, rfl, hb, rfl⟩)
    · exact .inl ⟨not_acc_long k hb ht, rfl⟩
  · have hh := hq t fd ds way st bd l' rfl hQ
    rcases h with ⟨hb, hl, rfl⟩ | ⟨hb, rfl⟩
    · obtain ⟨hok, rfl, rfl, rfl, h1, h2⟩ := hh.1 hb hl
      exact .inr (.inr ⟨t, way, rfl, hok, rfl, h1, h2⟩)
    · exact .inl ⟨fun h' => hh.2 hb (acc_zero.1 h'), rfl⟩
theorem readans_refh (k n c : Nat) (A : Option Addr) (l : List UInt8) (w : World) (hk : k = 1 ∨ k = 2 ∨ k = 3) (hl : l.length = n) (hb : Bytes w w.heap.size A l) (hn : n ≤ 1048576) (hnc : n ≤ c) (hcm : c ≤ maxLen) :
    Calls Try.prog 23 #[.int .u8 k, .slice A n c] w fun e w' => RefH w.heap.size k l e w' ∧ Below w.heap.size w w' := by
  rcases hk with rfl | rfl | rfl
  · refine (readans1 n c A l w hl hb (by omega) hnc hcm).mono fun e w' ⟨h1, h2⟩ => ⟨rh_refh h1 fun t fd ds way st bd l' ht hQ => ?_, h2⟩
    subst ht
    obtain ⟨hT, rfl, rfl⟩ := hQ
    rcases hT with ⟨a1, a2, a3, a4, a5, a6⟩ | ⟨a1, a2⟩
    · exact ⟨fun _ _ => ⟨.inl ⟨rfl, a1, a2⟩, a3, a4, rfl, fun _ => rfl, fun h => absurd h (by decide)⟩, fun h => by rcases h with h | h; rw [a5] at h; cases h; exact absurd a6 h⟩
    · refine ⟨fun h3 h4 => ?_, fun _ h => ?_⟩
      · rcases a2 with h | h
        · rw [h3] at h; cases h
        · exact absurd h4 h
      · rcases h with ⟨_, h5, h6⟩ | ⟨h, _⟩ | ⟨h, _⟩
        · exact a1 ⟨h5, h6⟩
        · omega
        · omega
  · refine (readans2 n c A l w hl hb hn hnc hcm).mono fun e w' ⟨h1, h2⟩ => ⟨rh_refh h1 fun t fd ds way st bd l' ht hQ => ?_, h2⟩
    subst ht
    obtain ⟨hT, rfl, rfl, hrow⟩ := hQ
    rcases hT with ⟨a1, a2, a3, a4, a5, a6⟩ | ⟨a1, a2⟩
    · simp only [List.tail_cons] at a1 a2 a3 a4 a5 a6 hrow
      refine ⟨fun _ h4 => ⟨.inr (.inl ⟨rfl, a1, a2, ?_⟩), a3, rfl, rfl, fun h => absurd rfl h, fun _ => hrow a5⟩, fun h => ?_⟩
      · rw [h4] at a6
        have := congrArg List.length a6
        simp at this
        omega
      · rcases h with h | h
        · rw [a5] at h; cases h
        · rintro (⟨h5, _⟩ | ⟨_, h5, h6, h7⟩ | ⟨h5, _⟩)
          · omega
          · apply h
            rw [a6]
            apply List.drop_eq_nil_of_le
            omega
          · omega
    · simp only [List.tail_cons] at a1
      refine ⟨fun h3 _ => absurd (a2.symm.trans h3) (by decide), fun _ h => ?_⟩
      rcases h with ⟨h5, _⟩ | ⟨_, h5, h6, h7⟩ | ⟨h5, _⟩
      · omega
      · exact a1 ⟨h5, h6, by omega⟩
      · omega
  · refine (readans3 n c A l w hl hb (by omega) hnc hcm).mono fun e w' ⟨h1, h2⟩ => ⟨rh_refh h1 fun t fd ds way st bd l' ht hQ => ?_, h2⟩
    subst ht
    obtain ⟨hT, _, rfl, rfl, rfl⟩ := hQ
    rcases hT with ⟨a1, a2, a5, a6⟩ | ⟨a1, a2⟩
    · exact ⟨fun _ _ => ⟨.inr (.inr ⟨rfl, a1⟩), rfl, rfl, a2, fun _ => rfl, fun h => absurd h (by decide)⟩, fun h => by rcases h with h | h; rw [a5] at h; cases h; exact absurd a6 h⟩
    · refine ⟨fun h3 h4 => ?_, fun _ h => ?_⟩
      · rcases a2 with h | h
        · rw [h3] at h; cases h
        · exact absurd h4 h
      · rcases h with ⟨h, _⟩ | ⟨h, _⟩ | ⟨_, h5⟩
        · omega
        · omega
        · exact a1 h5

/-- a reply with the word on it, in plain terms. -/
structure RepT where
  err : Int
  fd : Bool
  ds : Nat
  st : Nat
  er : Int
  ws : List Ed
def noT : RepT := ⟨0, false, 0, 0, 8, []⟩
def RF (k : Nat) (l : List UInt8) (T : RepT) : Prop :=
  (¬ Acc k l ∧ T = noT) ∨ (∃ b, l = [b] ∧ b ≠ 0 ∧ T = ⟨(b.toNat : Int), false, 0, 0, 0, []⟩) ∨
  (∃ t, l = 0 :: t ∧ bodyOk k t ∧ T = ⟨0, if k = 3 then false else t.head? == some 1, if k = 1 then num t 1 8 else 0, if k = 3 then (t.headD 0).toNat else 0, 0, if k = 2 then parse (t.drop 5) (num t 1 4) else []⟩)
theorem rf_one {k : Nat} {l : List UInt8} {T T' : RepT} (h : RF k l T) (h' : RF k l T') : T = T' := by
  rcases h with ⟨a, rfl⟩ | ⟨b, rfl, hb, rfl⟩ | ⟨t, rfl, ht, rfl⟩
  · rcases h' with ⟨_, rfl⟩ | ⟨b, rfl, hb, _⟩ | ⟨t, rfl, ht, _⟩
    · rfl
    · exact absurd (acc_err k hb) a
    · exact absurd (acc_zero.2 ht) a
  · rcases h' with ⟨a, _⟩ | ⟨b', h, _, rfl⟩ | ⟨t, h, _, _⟩
    · exact absurd (acc_err k hb) a
    · injection h with h; subst h; rfl
    · injection h with h; exact absurd h hb
  · rcases h' with ⟨a, _⟩ | ⟨b', h, hb, _⟩ | ⟨t', h, _, rfl⟩
    · exact absurd (acc_zero.2 ht) a
    · injection h with h; exact absurd h.symm hb
    · injection h with _ h; subst h; rfl
def Kn (k : Nat) : Prop := k = 1 ∨ k = 2 ∨ k = 3
def RT (k : Nat) (l : List UInt8) (T : RepT) : Prop := (¬ Kn k ∧ T = noT) ∨ (Kn k ∧ RF k l T)
theorem rt_one {k : Nat} {l : List UInt8} {T T' : RepT} (h : RT k l T) (h' : RT k l T') : T = T' := by
  rcases h with ⟨a, rfl⟩ | ⟨a, h⟩
  · rcases h' with ⟨_, rfl⟩ | ⟨b, _⟩
    · rfl
    · exact absurd b a
  · rcases h' with ⟨b, _⟩ | ⟨_, h'⟩
    · exact absurd a b
    · exact rf_one h h'
def repE (T : RepT) (A : Option Addr) (n c : Nat) : Ending := .returned (.tuple #[.agg #[.int .i64 T.err, .bool T.fd, .int .u64 T.ds, .slice A n c, .int .u8 T.st], .int .i64 T.er])
/-- what is told, and where the way lies. -/
def Told (k : Nat) (l : List UInt8) (e : Ending) (w' : World) : Prop := ∃ T A n c, e = repE T A n c ∧ T.ws.length = n ∧ WayAt w' w'.heap.size A T.ws ∧ n ≤ c ∧ c ≤ maxLen ∧ RT k l T
theorem told_none {k : Nat} {l : List UInt8} (w' : World) (h : ¬ Kn k) : Told k l noAns w' := ⟨noT, none, 0, 0, rfl, rfl, .inl rfl, Nat.le_refl _, by simp [maxLen], .inl ⟨h, rfl⟩⟩
theorem refh_told {lo k : Nat} {l : List UInt8} {e : Ending} {w' : World} (hk : Kn k) (h : RefH lo k l e w') : Told k l e w' := by
  rcases h with ⟨a, rfl⟩ | ⟨b, rfl, hb, rfl⟩ | ⟨t, way, rfl, ht, rfl, h1, h2⟩
  · exact ⟨noT, none, 0, 0, rfl, rfl, .inl rfl, Nat.le_refl _, by simp [maxLen], .inr ⟨hk, .inl ⟨a, rfl⟩⟩⟩
  · exact ⟨⟨(b.toNat : Int), false, 0, 0, 0, []⟩, none, 0, 0, rfl, rfl, .inl rfl, Nat.le_refl _, by simp [maxLen], .inr ⟨hk, .inr (.inl ⟨b, rfl, hb, rfl⟩)⟩⟩
  · by_cases hk2 : k = 2
    · obtain ⟨A, c, rfl, hw, hc, hcm⟩ := way_of_row (h2 hk2)
      refine ⟨⟨0, if k = 3 then false else t.head? == some 1, if k = 1 then num t 1 8 else 0, if k = 3 then (t.headD 0).toNat else 0, 0, if k = 2 then parse (t.drop 5) (num t 1 4) else []⟩, A, num t 1 4, c, rfl, ?_, ?_, hc, hcm, .inr ⟨hk, .inr (.inr ⟨t, rfl, ht, rfl⟩)⟩⟩
      · simp only [hk2, if_true]; exact parse_length _ _
      · simp only [hk2, if_true]; exact hw
    · obtain rfl := h1 hk2
      refine ⟨⟨0, if k = 3 then false else t.head? == some 1, if k = 1 then num t 1 8 else 0, if k = 3 then (t.headD 0).toNat else 0, 0, if k = 2 then parse (t.drop 5) (num t 1 4) else []⟩, none, 0, 0, rfl, ?_, .inl ?_, Nat.le_refl _, by simp [maxLen], .inr ⟨hk, .inr (.inr ⟨t, rfl, ht, rfl⟩)⟩⟩
      · simp only [hk2, if_false]; rfl
      · simp only [hk2, if_false]
theorem readans_told (k n c : Nat) (A : Option Addr) (l : List UInt8) (w : World) (hl : l.length = n) (hb : Bytes w w.heap.size A l) (hn : n ≤ 1048576) (hnc : n ≤ c) (hcm : c ≤ maxLen) :
    Calls Try.prog 23 #[.int .u8 k, .slice A n c] w fun e w' => Told k l e w' ∧ Below w.heap.size w w' := by
  by_cases hk : Kn k
  · exact (readans_refh k n c A l w hk hl hb hn hnc hcm).mono fun e w' h => ⟨refh_told hk h.1, h.2⟩
  · refine (read_none k n c A w (fun h => hk (.inl h)) (fun h => hk (.inr (.inl h))) (fun h => hk (.inr (.inr h)))).mono fun e w' h => ⟨?_, h.2⟩
    rw [h.1]
    exact told_none w' hk

set_option maxRecDepth 100000 in
set_option maxHeartbeats 3200000 in
theorem refread_none (k : UInt8) (n c : Nat) (A : Option Addr) (w : World) (hk : ¬ Known k) :
    Calls Try.prog 24 #[.int .u8 (k.toNat : Int), .slice A n c] w fun e w' => e = noAns ∧ Below w.heap.size w w' := by
  have HK : Hid (∀ W, Calls Try.prog 31 #[.int .u8 (k.toNat : Int)] W fun e w' => e = .returned (.bool false) ∧ W = w') := Lib.hid fun W => known_no k W hk
  clear hk
  have Z0 : Hid (Below w.heap.size w (w.alloc (.cells #[.int .i64 0, .bool false, .int .u64 0, .slice none 0 0, .int .u8 0] 37))) := by
    have h : Below w.heap.size w (w.alloc (.cells #[.int .i64 0, .bool false, .int .u64 0, .slice none 0 0, .int .u8 0] 37)) := (Below.refl _ _).alloc (Nat.le_refl _) _
    exact h
  have KA := Lib.hid ((Blk.new w 37 #[.int .i64 0, .bool false, .int .u64 0, .slice none 0 0, .int .u8 0]).alloc (.cells #[.int .i64 0, .bool false, .int .u64 0, .slice none 0 0, .int .u8 0] 37))
  have KN : Hid (Blk ((w.alloc (.cells #[.int .i64 0, .bool false, .int .u64 0, .slice none 0 0, .int .u8 0] 37)).alloc (.cells #[.int .i64 0, .bool false, .int .u64 0, .slice none 0 0, .int .u8 0] 37)) (w.heap.size + 1) 37 #[.int .i64 0, .bool false, .int .u64 0, .slice none 0 0, .int .u8 0]) := by
    have h := Blk.new (w.alloc (.cells #[.int .i64 0, .bool false, .int .u64 0, .slice none 0 0, .int .u8 0] 37)) 37 #[.int .i64 0, .bool false, .int .u64 0, .slice none 0 0, .int .u8 0]
    rw [World.size_alloc] at h
    exact h
  have Z1 := Lib.hid (Z0.out.alloc Z0.out.size (.cells #[.int .i64 0, .bool false, .int .u64 0, .slice none 0 0, .int .u8 0] 37))
  go_enter Try.func24, Try.ntmps24
  go_upto_region 2 with (fail)
  generalize hgw : (w.alloc (.cells #[.int .i64 0, .bool false, .int .u64 0, .slice none 0 0, .int .u8 0] 37)).alloc (.cells #[.int .i64 0, .bool false, .int .u64 0, .slice none 0 0, .int .u8 0] 37) = w1 at *
  clear hgw
  go_wp2_with fail
  refine (HK.out _).mono ?_
  rintro e w1' ⟨rfl, rfl⟩
  have s0 : w1.cell? ⟨w.heap.size + 1, 0, none⟩ = some (.int .i64 0) := (KN.out.cell 0).trans rfl
  have s1 : w1.cell? ⟨w.heap.size + 1, 1, none⟩ = some (.bool false) := (KN.out.cell 1).trans rfl
  have s2 : w1.cell? ⟨w.heap.size + 1, 2, none⟩ = some (.int .u64 0) := (KN.out.cell 2).trans rfl
  have s3 : w1.cell? ⟨w.heap.size + 1, 3, none⟩ = some (.slice none 0 0) := (KN.out.cell 3).trans rfl
  have s4 : w1.cell? ⟨w.heap.size + 1, 4, none⟩ = some (.int .u8 0) := (KN.out.cell 4).trans rfl
  have a0 : w1.cell? ⟨w.heap.size, 0, none⟩ = some (.int .i64 0) := (KA.out.cell 0).trans rfl
  have a1 : w1.cell? ⟨w.heap.size, 1, none⟩ = some (.bool false) := (KA.out.cell 1).trans rfl
  have a2 : w1.cell? ⟨w.heap.size, 2, none⟩ = some (.int .u64 0) := (KA.out.cell 2).trans rfl
  have a3 : w1.cell? ⟨w.heap.size, 3, none⟩ = some (.slice none 0 0) := (KA.out.cell 3).trans rfl
  have a4 : w1.cell? ⟨w.heap.size, 4, none⟩ = some (.int .u8 0) := (KA.out.cell 4).trans rfl
  have f0 := KA.out.frozen 0
  have f1 := KA.out.frozen 1
  have f2 := KA.out.frozen 2
  have f3 := KA.out.frozen 3
  have f4 := KA.out.frozen 4
  go_wp2_with fail
  refine bodyPost_ret (resCT rfl _ _ w.heap.size 37 (repC 0 false 0 nil_ 0) _ rfl ?_ Try.underlying37 rfl (by kernel_rfl)) rfl ⟨rfl, fine5 Z1.out _ _ _ _ _⟩
  exact set5 KA.out _ _ _ _ _
theorem refreads_told (k : UInt8) (n c : Nat) (A : Option Addr) (l : List UInt8) (w : World) (hl : l.length = n) (hb : Bytes w w.heap.size A l) (hn : n ≤ 1048576) (hnc : n ≤ c) (hcm : c ≤ maxLen) :
    Calls Try.prog 24 #[.int .u8 (k.toNat : Int), .slice A n c] w fun e w' => Told k.toNat l e w' ∧ Below w.heap.size w w' := by
  by_cases hk : Kn k.toNat
  · exact (refreadans_any k.toNat n c A l w hk hl hb hn hnc hcm).mono fun e w' h => ⟨refh_told hk h.1, h.2⟩
  · refine (refread_none k n c A w (fun h => hk ?_)).mono fun e w' h => ⟨?_, h.2⟩
    · rcases h with rfl | rfl | rfl
      · exact .inl rfl
      · exact .inr (.inl rfl)
      · exact .inr (.inr rfl)
    rw [h.1]
    exact told_none w' hk

theorem le_num' (l : List UInt8) (a s : Nat) (h : a + s ≤ l.length) : le s (num l a s) = (l.drop a).take s := by
  have hlen : ((l.drop a).take s).length = s := by rw [List.length_take, List.length_drop]; omega
  have h2 := le_bval ((l.drop a).take s)
  rw [hlen] at h2
  exact h2
theorem num64 (l : List UInt8) (a : Nat) : num l a 8 ≤ 18446744073709551615 := by
  have := num_lt l a 8
  simp only [Nat.reduceMul, Nat.reducePow] at this
  omega
theorem edAt_ok (l : List UInt8) : (edAt l).ok := ⟨num32 _ _, num32 _ _, num64 _ _, Nat.le_refl _⟩
theorem parse_ok (l : List UInt8) (n : Nat) : ∀ x ∈ parse l n, x.ok := by
  intro x hx
  obtain ⟨i, _, rfl⟩ := List.mem_map.1 hx
  exact edAt_ok _
/-- the bounds of what is told. -/
theorem rt_bounds {k : Nat} {l : List UInt8} {T : RepT} (h : RT k l T) : (0 ≤ T.err ∧ T.err ≤ 255) ∧ T.ds ≤ 18446744073709551615 ∧ T.st ≤ 255 ∧ (∀ x ∈ T.ws, x.ok) ∧ 16 * T.ws.length ≤ l.length ∧ (0 ≤ T.er ∧ T.er ≤ 8) := by
  have hno : (0 ≤ noT.err ∧ noT.err ≤ 255) ∧ noT.ds ≤ 18446744073709551615 ∧ noT.st ≤ 255 ∧ (∀ x ∈ noT.ws, x.ok) ∧ 16 * noT.ws.length ≤ l.length ∧ (0 ≤ noT.er ∧ noT.er ≤ 8) := ⟨by decide, by decide, by decide, fun x h => (by cases h), by simp [noT], by decide⟩
  rcases h with ⟨_, rfl⟩ | ⟨_, ⟨_, rfl⟩ | ⟨b, rfl, hb, rfl⟩ | ⟨t, rfl, ht, rfl⟩⟩
  · exact hno
  · exact hno
  · have := b.toNat_lt
    exact ⟨⟨by simp, by simp; omega⟩, by simp, by simp, fun x h => (by cases h), by simp, by simp⟩
  · refine ⟨by simp, ?_, ?_, ?_, ?_, by simp⟩
    · show (if k = 1 then num t 1 8 else 0) ≤ _
      split
      · exact num64 _ _
      · omega
    · show (if k = 3 then (t.headD 0).toNat else 0) ≤ _
      split
      · have := (t.headD 0).toNat_lt; omega
      · omega
    · show ∀ x ∈ (if k = 2 then parse (t.drop 5) (num t 1 4) else []), x.ok
      split
      · exact parse_ok _ _
      · intro x h; cases h
    · show 16 * (if k = 2 then parse (t.drop 5) (num t 1 4) else []).length ≤ _
      split
      · rename_i hk
        rw [parse_length]
        rcases ht with ⟨h1, _⟩ | ⟨_, h1, _, h2⟩ | ⟨h1, _⟩
        · omega
        · simp; omega
        · omega
      · simp
end Go.Proofs.Ytjiiabekjiilbaa
