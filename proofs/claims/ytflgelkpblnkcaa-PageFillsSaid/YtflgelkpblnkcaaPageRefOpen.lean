/- What the document's Open answers; Make's and Open's answers in one form. -/
import Derived.Test.YtflgelkpblnkcaaPageWorks
import Derived.Test.YtflgelkpblnkcaaApart3
set_option linter.unusedSimpArgs false
set_option linter.unusedVariables false
namespace Go.Proofs.Ytflgelkpblnkcaa
open Go.RowKit Mp

/-- what Open answers: bytes and an error's number. -/
def OpenAns (p : List UInt8) (tag nb : Nat) (R : List UInt8) (E : Int) : Prop := (Says p tag nb R ∧ E = 0) ∨ (¬ Opens p tag nb ∧ R = [] ∧ E = 7)
theorem openAns (p : List UInt8) (tag nb : Nat) : ∃ R E, OpenAns p tag nb R E ∧ R.length ≤ 240 := by
  by_cases h : Opens p tag nb
  · obtain ⟨l, h⟩ := h
    exact ⟨l, 0, .inl ⟨h, rfl⟩, h.1⟩
  · exact ⟨[], 7, .inr ⟨h, rfl, rfl⟩, by simp⟩
theorem open_ans (A : Option Addr) (n c tag nb : Nat) (p R : List UInt8) (E : Int) (w : World) (hs : OpenAns p tag nb R E) (hl : p.length = n) (hb : Bytes w w.heap.size A p) (hn : n ≤ 1099511627776) (hnc : n ≤ c) (hcm : c ≤ maxLen) (htag : tag ≤ 4294967295) (hnb : nb ≤ 4294967295) :
    Calls Try.prog 19 #[.slice A n c, .int .u32 tag, .int .u32 nb] w fun e w' => ∃ A' c', e = .returned (.tuple #[.slice A' R.length c', .int .i64 E]) ∧ OwnB w' w.heap.size 5 A' R.length c' R ∧ Below w.heap.size w w' := by
  rcases hs with ⟨h, rfl⟩ | ⟨h, rfl, rfl⟩
  · exact open_says A n c tag nb p R w h hl hb hnc hcm htag hnb
  · exact (open_shut A n c tag nb p w h hl hb hn hnc hcm htag hnb).mono fun e w' h => ⟨none, 0, h.1, OwnB.nil _ _ _ _, h.2⟩

theorem page_size4 (tag nb : Nat) (l : List UInt8) (h : l.length ≤ 240) : num (pageL tag nb l) 8 4 = l.length := by
  have := num_app (le 4 tag ++ le 4 nb) (le 4 l.length) (l ++ (List.replicate (240 - l.length) 0 ++ le 4 (ext 0 (bodyL tag nb l)))) 8 4 (by simp [le_length]) (le_length _ _)
  rw [page_split]
  rw [le4_small _ h, List.append_assoc, List.append_assoc] at this
  rw [this, ← le4_small _ h]
  exact bval_le4 (by omega)

set_option maxRecDepth 100000 in
set_option maxHeartbeats 1600000 in
theorem refopen_any (A : Option Addr) (n c tag nb : Nat) (p : List UInt8) (w : World) (hl : p.length = n) (hb : Bytes w w.heap.size A p) (hn : n ≤ 1099511627776) (hnc : n ≤ c) (hcm : c ≤ maxLen) (htag : tag ≤ 4294967295) (hnb : nb ≤ 4294967295) :
    Calls Try.prog 20 #[.slice A n c, .int .u32 tag, .int .u32 nb] w (OpenPost p tag nb w) := by
  have HL := Lib.hid hl
  have HB := Lib.hid hb
  unfold maxLen at hcm
  clear hl hb
  by_cases h256 : n = 256
  · subst h256
    obtain ⟨x8, hx8⟩ : ∃ x, x = num p 8 4 := ⟨_, rfl⟩
    have b8 : x8 ≤ 4294967295 := by have := num_lt p 8 4; rw [← hx8] at this; simp only [Nat.reduceMul, Nat.reducePow] at this; omega
    have HX8 := Lib.hid hx8
    clear hx8
    go_enter Try.func20, Try.ntmps20
    go_wp2_with fail
    refine (refget_ok A 256 c 8 4 p _ HL.out HB.out (by omega) sz4 (by omega)).mono ?_
    rintro e w1 ⟨rfl, rfl⟩
    rw [← HX8.out]
    by_cases h240 : 240 < x8
    · go_wp2_with fail
      go_ret2
      refine OpenPost.no ?_ rfl (Below.refl _ _)
      rintro ⟨l, h1, h2⟩
      have h3 := page_size4 tag nb l h1
      rw [← h2, ← HX8.out] at h3
      omega
    · have HCL2 : Hid (((p.drop 12).take x8).length = x8) := by
        have h : ((p.drop 12).take x8).length = x8 := by rw [List.length_take, List.length_drop, HL.out]; omega
        exact h
      have HCUT2 : Hid (Bytes w w.heap.size (A.map (fun x => (⟨x.block, x.off + 12, none⟩ : Addr))) ((p.drop 12).take x8)) := by
        have h := HB.out.cut 12 (12 + x8) c (by omega) (by rw [HL.out]; omega) (by rw [HL.out]; omega)
        rw [if_neg (by omega), show 12 + x8 - 12 = x8 by omega] at h
        cases A with
        | none => exact h
        | some a => exact h
      go_wp2_with fail
      refine (copy_any _ x8 (c - 12) ((p.drop 12).take x8) _ HCL2.out HCUT2.out (by omega)).mono ?_
      rintro e w2 ⟨A2, c2, rfl, hO2, hb2⟩
      have HO2 := Lib.hid hO2
      have Hb2 := Lib.hid hb2
      clear hO2 hb2
      go_wp2_with fail
      refine (refmake_ok tag nb A2 x8 c2 ((p.drop 12).take x8) _ htag hnb HO2.out.1 HO2.out.bytes (by omega)).mono ?_
      rintro e w3 ⟨A3, c3, rfl, hO3, hb3⟩
      have HO3 := Lib.hid hO3
      have Hb3 := Lib.hid (Hb2.out.trans (hb3.mono Hb2.out.size))
      have HO23 := Lib.hid (HO2.out.below hb3)
      clear hO3 hb3
      go_wp2_with fail
      refine (eq_any A 256 c A3 256 c3 p (pageL tag nb ((p.drop 12).take x8)) _ HL.out ((HB.out.below Hb3.out).more Hb3.out.size) HO3.out.1 HO3.out.bytes).mono ?_
      rintro e w4 ⟨rfl, rfl⟩
      by_cases hpq : p = pageL tag nb ((p.drop 12).take x8)
      · have hd : (p == pageL tag nb ((p.drop 12).take x8)) = true := by rw [beq_iff_eq]; exact hpq
        rw [hd]
        have HPQ := Lib.hid hpq
        clear hpq hd
        go_wp2_with fail
        go_ret2
        refine ⟨.inl ⟨(p.drop 12).take x8, ⟨by rw [HCL2.out]; omega, HPQ.out⟩, A2, c2, by rw [HCL2.out]; rfl, ?_⟩, Hb3.out⟩
        rw [HCL2.out]
        exact HO23.out
      · have hd : (p == pageL tag nb ((p.drop 12).take x8)) = false := by rw [beq_eq_false_iff_ne]; exact hpq
        rw [hd]
        have HPQ := Lib.hid hpq
        clear hpq hd
        go_wp2_with fail
        go_ret2
        refine OpenPost.no ?_ rfl Hb3.out
        rintro ⟨l, h1, h2⟩
        have h3 := page_size4 tag nb l h1
        rw [← h2, ← HX8.out] at h3
        have h4 := page_bytes tag nb l
        rw [← h2, ← h3] at h4
        apply HPQ.out
        rw [h4]
        exact h2
  · have hd : ((n : Int) != 256) = true := by simp; omega
    have HD := Lib.hid h256
    clear h256
    go_enter Try.func20, Try.ntmps20
    go_wp2_with fail
    go_ret2
    exact OpenPost.no (fun ⟨l, h⟩ => HD.out (HL.out.symm.trans h.size)) rfl (Below.refl _ _)
theorem refopen_ans (A : Option Addr) (n c tag nb : Nat) (p R : List UInt8) (E : Int) (w : World) (hs : OpenAns p tag nb R E) (hl : p.length = n) (hb : Bytes w w.heap.size A p) (hn : n ≤ 1099511627776) (hnc : n ≤ c) (hcm : c ≤ maxLen) (htag : tag ≤ 4294967295) (hnb : nb ≤ 4294967295) :
    Calls Try.prog 20 #[.slice A n c, .int .u32 tag, .int .u32 nb] w fun e w' => ∃ A' c', e = .returned (.tuple #[.slice A' R.length c', .int .i64 E]) ∧ OwnB w' w.heap.size 5 A' R.length c' R ∧ Below w.heap.size w w' :=
  (refopen_any A n c tag nb p w hl hb hn hnc hcm htag hnb).mono fun e w' ⟨h, hb⟩ => by
    rcases hs with ⟨hs, rfl⟩ | ⟨hs, rfl, rfl⟩ <;> rcases h with ⟨l', h1, A', c', h2, h3⟩ | ⟨h1, h2⟩
    · obtain ⟨_, _, rfl⟩ := hs.eq h1 htag hnb htag hnb
      exact ⟨A', c', h2, h3, hb⟩
    · exact absurd ⟨R, hs⟩ h1
    · exact absurd ⟨l', h1⟩ hs
    · exact ⟨none, 0, h2, OwnB.nil _ _ _ _, hb⟩

/-- what Make answers. -/
def MakeAns (tag nb : Nat) (l R : List UInt8) (E : Int) : Prop := (l.length ≤ 240 ∧ R = pageL tag nb l ∧ E = 0) ∨ (240 < l.length ∧ R = [] ∧ E = 9)
theorem makeAns (tag nb : Nat) (l : List UInt8) : ∃ R E, MakeAns tag nb l R E ∧ R.length ≤ 256 := by
  by_cases h : l.length ≤ 240
  · exact ⟨_, 0, .inl ⟨h, rfl, rfl⟩, by rw [pageL_length _ _ _ h]; omega⟩
  · exact ⟨[], 9, .inr ⟨by omega, rfl, rfl⟩, by simp⟩
theorem make_ans (tag nb : Nat) (A : Option Addr) (n c : Nat) (l R : List UInt8) (E : Int) (w : World) (hs : MakeAns tag nb l R E) (ht : tag ≤ 4294967295) (hnb : nb ≤ 4294967295) (hl : l.length = n) (hb : Bytes w w.heap.size A l) (hn : n ≤ 1099511627776) :
    Calls Try.prog 12 #[.int .u32 tag, .int .u32 nb, .slice A n c] w fun e w' => ∃ A' c', e = .returned (.tuple #[.slice A' R.length c', .int .i64 E]) ∧ OwnB w' w.heap.size 5 A' R.length c' R ∧ Below w.heap.size w w' := by
  rcases hs with ⟨h, rfl, rfl⟩ | ⟨h, rfl, rfl⟩
  · rw [pageL_length _ _ _ h]
    exact make_ok tag nb A n c l w ht hnb hl hb (by omega)
  · exact (make_no tag nb A n c w (by omega) hn).mono fun e w' h => ⟨none, 0, h.1, OwnB.nil _ _ _ _, by obtain ⟨_, rfl⟩ := h; exact Below.refl _ _⟩
theorem refmake_ans (tag nb : Nat) (A : Option Addr) (n c : Nat) (l R : List UInt8) (E : Int) (w : World) (hs : MakeAns tag nb l R E) (ht : tag ≤ 4294967295) (hnb : nb ≤ 4294967295) (hl : l.length = n) (hb : Bytes w w.heap.size A l) (hn : n ≤ 1099511627776) :
    Calls Try.prog 13 #[.int .u32 tag, .int .u32 nb, .slice A n c] w fun e w' => ∃ A' c', e = .returned (.tuple #[.slice A' R.length c', .int .i64 E]) ∧ OwnB w' w.heap.size 5 A' R.length c' R ∧ Below w.heap.size w w' := by
  rcases hs with ⟨h, rfl, rfl⟩ | ⟨h, rfl, rfl⟩
  · rw [pageL_length _ _ _ h]
    exact refmake_ok tag nb A n c l w ht hnb hl hb (by omega)
  · exact (refmake_no tag nb A n c w (by omega) hn).mono fun e w' h => ⟨none, 0, h.1, OwnB.nil _ _ _ _, by obtain ⟨_, rfl⟩ := h; exact Below.refl _ _⟩
end Go.Proofs.Ytflgelkpblnkcaa
