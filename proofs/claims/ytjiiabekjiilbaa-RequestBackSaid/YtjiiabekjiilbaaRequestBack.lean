/- RequestBack: what is written is read, and what is read is written as it was; an answer tells its reply; one that is cut, or has more behind it, is refused. -/
import Derived.Test.YtjiiabekjiilbaaReqBackPlain
import Derived.Deep.RegionHeld3
import Derived.Deep.Cut
set_option linter.unusedSimpArgs false
set_option linter.unusedVariables false
namespace Go.Proofs.Ytjiiabekjiilbaa
open Go.RowKit Mp

theorem ask_case {kb : UInt8} {s t : Nat} (hs : s ≤ 4294967295) (ht : t ≤ 4294967295) (h : Kn kb.toNat) : AskAns (askL kb s t) kb.toNat s t 0 := by
  refine ask_ans kb s t ?_ hs ht
  rcases h with h | h | h
  · exact .inl (UInt8.toNat_inj.1 h)
  · exact .inr (.inl (UInt8.toNat_inj.1 h))
  · exact .inr (.inr (UInt8.toNat_inj.1 h))
theorem ask_casenot {kb : UInt8} {s t : Nat} (h : ¬ Kn kb.toNat) : AskAns (askL kb s t) 0 0 0 8 := by
  refine ask_not kb s t fun h' => h ?_
  rcases h' with rfl | rfl | rfl
  · exact .inl rfl
  · exact .inr (.inl rfl)
  · exact .inr (.inr rfl)
/-- what stands all along: the question, the reply, all that was there. -/
structure BK (w W : World) (kb : UInt8) (s t : Nat) (V : Array Value) : Prop where
  a : Blk W w.heap.size 25 #[.int .u8 (kb.toNat : Int), .int .u32 s, .int .u32 t]
  r : Blk W (w.heap.size + 1) 37 V
  z : Below w.heap.size w W
theorem BK.since {w W W' : World} {kb : UInt8} {s t : Nat} {V : Array Value} (h : BK w W kb s t V) (hb : Below W.heap.size W W') : BK w W' kb s t V :=
  ⟨h.a.below hb h.a.lt, h.r.below hb h.r.lt, h.z.trans (hb.mono h.z.size)⟩
theorem BK.alloc {w W : World} {kb : UInt8} {s t : Nat} {V : Array Value} (h : BK w W kb s t V) (o : Obj) : BK w (W.alloc o) kb s t V :=
  ⟨h.a.alloc o, h.r.alloc o, h.z.alloc h.z.size o⟩
theorem rt_er {k : Nat} {l : List UInt8} {T : RepT} (h : RT k l T) : T.er = 0 ∨ T.er = 8 := by
  rcases h with ⟨_, rfl⟩ | ⟨a, ⟨_, rfl⟩ | ⟨b, rfl, hb, rfl⟩ | ⟨t, rfl, ht, rfl⟩⟩
  · exact .inr rfl
  · exact .inr rfl
  · exact .inl rfl
  · exact .inl rfl
theorem toldT_form (k : Nat) (eb : UInt8) (fd : Bool) (ds st : Nat) (ws : List Ed) : ∃ err' fd' ds' st' ws', toldT k eb fd ds st ws = ⟨err', fd', ds', st', 0, ws'⟩ := by
  unfold toldT
  split <;> exact ⟨_, _, _, _, _, rfl⟩
theorem eq_own (A A2 : Option Addr) (n c m c2 : Nat) (l l2 : List UInt8) (W : World) (hl : l.length = n) (hb : Bytes W W.heap.size A l) (hl2 : l2.length = m) (hb2 : Bytes W W.heap.size A2 l2) (he : l = l2) :
    Calls Try.prog 15 #[.slice A n c, .slice A2 m c2] W fun e w' => e = .returned (.bool true) ∧ W = w' :=
  (eq_any A n c A2 m c2 l l2 W hl hb hl2 hb2).mono fun e w' h => ⟨by have := h.1; subst he; simpa using this, h.2⟩

set_option maxRecDepth 100000 in
set_option maxHeartbeats 12800000 in
theorem law_back (k s t : Nat) (err : Int) (fd : Bool) (ds : Nat) (A : Option Addr) (n c : Nat) (ws : List Ed) (st : Nat) (Ab : Option Addr) (nb cb : Nat) (l : List UInt8) (w : World) (hk : k ≤ 255) (hs : s ≤ 4294967295) (ht : t ≤ 4294967295)
    (herr : -9223372036854775808 ≤ err ∧ err ≤ 9223372036854775807) (hds : ds ≤ 18446744073709551615) (hst : st ≤ 255)
    (hway : ws.length = n ∧ WayAt w w.heap.size A ws ∧ n ≤ c ∧ c ≤ maxLen ∧ ∀ x ∈ ws, x.ok) (hl : l.length = nb) (hb : Bytes w w.heap.size Ab l) (hcap : nb ≤ cb ∧ cb ≤ maxLen) :
    Calls Try.prog 6 #[.agg #[.int .u8 k, .int .u32 s, .int .u32 t], .agg (repC err fd ds (.slice A n c) st), .slice Ab nb cb] w fun e w' => e = .returned (.bool true) ∧ Below w.heap.size w w' := by
  obtain ⟨i0, hi0, hz0, hz1, hz2⟩ := info_parts info_u8
  obtain ⟨hws, hW, hnc, hcm, hok⟩ := hway
  obtain ⟨eb, heb⟩ := low_byte err
  obtain ⟨hcap1, hcap2⟩ := hcap
  obtain ⟨kb, rfl⟩ : ∃ kb : UInt8, k = kb.toNat := ⟨UInt8.ofNat k, by simp; omega⟩
  have HWS := Lib.hid hws
  have HOK := Lib.hid hok
  have HEB := Lib.hid heb
  have HW := Lib.hid hW
  have HL := Lib.hid hl
  have HB := Lib.hid hb
  have B0 : Hid (BK w ((w.alloc (.cells #[.int .u8 (kb.toNat : Int), .int .u32 s, .int .u32 t] 25)).alloc (.cells #[.int .i64 err, .bool fd, .int .u64 ds, .slice A n c, .int .u8 st] 37)) kb s t #[.int .i64 err, .bool fd, .int .u64 ds, .slice A n c, .int .u8 st]) := by
    have h1 := (Blk.new w 25 #[.int .u8 (kb.toNat : Int), .int .u32 s, .int .u32 t]).alloc (.cells #[.int .i64 err, .bool fd, .int .u64 ds, .slice A n c, .int .u8 st] 37)
    have h2 := Blk.new (w.alloc (.cells #[.int .u8 (kb.toNat : Int), .int .u32 s, .int .u32 t] 25)) 37 #[.int .i64 err, .bool fd, .int .u64 ds, .slice A n c, .int .u8 st]
    rw [World.size_alloc] at h2
    have h3 := (Below.refl w.heap.size w).alloc (Nat.le_refl _) (.cells #[.int .u8 (kb.toNat : Int), .int .u32 s, .int .u32 t] 25)
    have h4 := h3.alloc h3.size (.cells #[.int .i64 err, .bool fd, .int .u64 ds, .slice A n c, .int .u8 st] 37)
    exact ⟨h1, h2, h4⟩
  clear hws hW hok heb hl hb hcm
  go_enter Try.func6, Try.ntmps6
  unfold repC at *
  go_upto_region 1 with (fail)
  generalize (w.alloc (.cells #[.int .u8 (kb.toNat : Int), .int .u32 s, .int .u32 t] 25)).alloc (.cells #[.int .i64 err, .bool fd, .int .u64 ds, .slice A n c, .int .u8 st] 37) = w0 at *
  have p3 : w0.cell? ⟨w.heap.size + 1, 3, none⟩ = some (.slice A n c) := (B0.out.r.cell 3).trans rfl
  by_cases hbig : 200 < n
  · go_wp2_with fail
    refine (works_any _).mono ?_
    rintro e w1 ⟨rfl, hb1⟩
    go_wp2_with fail
    go_ret
    exact ⟨rfl, B0.out.z.trans (hb1.mono B0.out.z.size)⟩
  by_cases hbig2 : 4096 < nb
  · go_wp2_with fail
    refine (works_any _).mono ?_
    rintro e w1 ⟨rfl, hb1⟩
    go_wp2_with fail
    go_ret
    exact ⟨rfl, B0.out.z.trans (hb1.mono B0.out.z.size)⟩
  have hn : n ≤ 200 := by omega
  have hnb : nb ≤ 4096 := by omega
  go_upto_region 3 with (fail)
  clear hbig hbig2 p3
  have a0 : w0.cell? ⟨w.heap.size, 0, none⟩ = some (.int .u8 (kb.toNat : Int)) := (B0.out.a.cell 0).trans rfl
  have a1 : w0.cell? ⟨w.heap.size, 1, none⟩ = some (.int .u32 s) := (B0.out.a.cell 1).trans rfl
  have a2 : w0.cell? ⟨w.heap.size, 2, none⟩ = some (.int .u32 t) := (B0.out.a.cell 2).trans rfl
  go_wp2_with fail
  refine (write_any kb s t _ hs ht).mono ?_
  rintro e w1 ⟨A1, c1, rfl, hO1, hb1⟩
  have HO1 := Lib.hid hO1
  have B1 := Lib.hid (B0.out.since hb1)
  clear hO1 hb1 a0 a1 a2
  by_cases hkn : Kn kb.toNat
  · have HK : Hid (Kn kb.toNat) := Lib.hid hkn
    have hkI : (1 : Int) ≤ (kb.toNat : Int) ∧ (kb.toNat : Int) ≤ 3 := by unfold Kn at hkn; omega
    obtain ⟨hk1, hk3⟩ := hkI
    clear hkn
    go_wp2_with fail
    refine (read_ans A1 9 c1 (askL kb s t) kb.toNat s t 0 _ (ask_case hs ht HK.out) HO1.out.1 HO1.out.bytes (by omega) HO1.out.2.1).mono ?_
    rintro e w2 ⟨rfl, hb2⟩
    have X2 := Lib.hid (Blk.new w2 25 #[.int .u8 (kb.toNat : Int), .int .u32 s, .int .u32 t])
    have B2 := Lib.hid ((B1.out.since hb2).alloc (.cells #[.int .u8 (kb.toNat : Int), .int .u32 s, .int .u32 t] 25))
    clear hb2 HO1
    go_upto_region 4 with (fail)
    generalize w2.alloc (.cells #[.int .u8 (kb.toNat : Int), .int .u32 s, .int .u32 t] 25) = w3 at *
    have a0 : w3.cell? ⟨w.heap.size, 0, none⟩ = some (.int .u8 (kb.toNat : Int)) := (B2.out.a.cell 0).trans rfl
    have a1 : w3.cell? ⟨w.heap.size, 1, none⟩ = some (.int .u32 s) := (B2.out.a.cell 1).trans rfl
    have a2 : w3.cell? ⟨w.heap.size, 2, none⟩ = some (.int .u32 t) := (B2.out.a.cell 2).trans rfl
    have x0 : w3.cell? ⟨w2.heap.size, 0, none⟩ = some (.int .u8 (kb.toNat : Int)) := (X2.out.cell 0).trans rfl
    have x1 : w3.cell? ⟨w2.heap.size, 1, none⟩ = some (.int .u32 s) := (X2.out.cell 1).trans rfl
    have x2 : w3.cell? ⟨w2.heap.size, 2, none⟩ = some (.int .u32 t) := (X2.out.cell 2).trans rfl
    go_cut [9] from 19 (fun v wx => v = .bool true ∧ wx = w3)
    case first =>
      go_wp2_with fail
      go_meet
      case rel => exact ⟨rfl, rfl⟩
    case rest =>
      obtain ⟨rfl, rfl⟩ := hcut
      clear X2
      go_upto_region 7 with (fail)
      clear a0 a1 a2 x0 x1 x2
      obtain ⟨K', S', T', E', hA'⟩ := askAns l
      have HA' := Lib.hid hA'
      clear hA'
      go_wp2_with fail
      refine (read_ans Ab nb cb l K' S' T' E' _ HA'.out HL.out ((HB.out.below B2.out.z).more B2.out.z.size) (by omega) hcap1).mono ?_
      rintro e w4 ⟨rfl, hb4⟩
      have Y4 := Lib.hid (Blk.new w4 25 #[.int .u8 K', .int .u32 S', .int .u32 T'])
      have B4 := Lib.hid ((B2.out.since hb4).alloc (.cells #[.int .u8 K', .int .u32 S', .int .u32 T'] 25))
      clear hb4 B2
      go_upto_region 8 with (fail)
      generalize w4.alloc (.cells #[.int .u8 K', .int .u32 S', .int .u32 T'] 25) = w5 at *
      go_cut [68] from 19 (fun v wx => v = .bool false ∧ Below w5.heap.size w5 wx)
      case first =>
        rcases HA'.out with ⟨k2, hAs, rfl, rfl, rfl, rfl⟩ | ⟨_, rfl, rfl, rfl, rfl⟩
        · have HAS := Lib.hid hAs
          clear hAs
          have y0 : w5.cell? ⟨w4.heap.size, 0, none⟩ = some (.int .u8 (k2.toNat : Int)) := (Y4.out.cell 0).trans rfl
          have y1 : w5.cell? ⟨w4.heap.size, 1, none⟩ = some (.int .u32 (num l 1 4)) := (Y4.out.cell 1).trans rfl
          have y2 : w5.cell? ⟨w4.heap.size, 2, none⟩ = some (.int .u32 (num l 5 4)) := (Y4.out.cell 2).trans rfl
          go_wp2_with fail
          refine (write_any k2 (num l 1 4) (num l 5 4) _ (num32 _ _) (num32 _ _)).mono ?_
          rintro e w6 ⟨A6, c6, rfl, hO6, hb6⟩
          have HO6 := Lib.hid hO6
          have HB6 := Lib.hid hb6
          clear hO6 hb6
          go_wp2_with fail
          refine (eq_own A6 Ab 9 c6 nb cb (askL k2 (num l 1 4) (num l 5 4)) l _ HO6.out.1 HO6.out.bytes HL.out ((HB.out.below (B4.out.since HB6.out).z).more (B4.out.since HB6.out).z.size) (ask_back HAS.out)).mono ?_
          rintro e w6' ⟨rfl, rfl⟩
          go_wp2_with fail
          go_meet
          case rel => exact ⟨rfl, HB6.out⟩
        · go_wp2_with fail
          go_meet
          case rel => exact ⟨rfl, Below.refl _ _⟩
      case rest =>
        obtain ⟨rfl, hcb⟩ := hcut
        have B6 := Lib.hid (B4.out.since hcb)
        clear hcb B4 Y4 HA'
        go_upto_region 10 with (fail)
        generalize wc = w6 at *
        have a0 : w6.cell? ⟨w.heap.size, 0, none⟩ = some (.int .u8 (kb.toNat : Int)) := (B6.out.a.cell 0).trans rfl
        have p0 : w6.cell? ⟨w.heap.size + 1, 0, none⟩ = some (.int .i64 err) := (B6.out.r.cell 0).trans rfl
        have p1 : w6.cell? ⟨w.heap.size + 1, 1, none⟩ = some (.bool fd) := (B6.out.r.cell 1).trans rfl
        have p2 : w6.cell? ⟨w.heap.size + 1, 2, none⟩ = some (.int .u64 ds) := (B6.out.r.cell 2).trans rfl
        have p3 : w6.cell? ⟨w.heap.size + 1, 3, none⟩ = some (.slice A n c) := (B6.out.r.cell 3).trans rfl
        have p4 : w6.cell? ⟨w.heap.size + 1, 4, none⟩ = some (.int .u8 st) := (B6.out.r.cell 4).trans rfl
        go_wp2_with fail
        refine (answer_any kb.toNat err fd ds n c st A ws eb _ HEB.out herr hds hst HWS.out ((HW.out.below B6.out.z (Nat.le_refl _)).more' B6.out.z.size) HOK.out (by omega)).mono ?_
        rintro e w7 ⟨A7, m, c7, rfl, hO7, hb7⟩
        have HO7 := Lib.hid (hO7.mono B6.out.z.size)
        have B7 := Lib.hid (B6.out.since hb7)
        have hm : m ≤ 4200 := by
          have := ans_length_le kb.toNat eb fd ds st n ws HWS.out
          have := hO7.1
          omega
        have hmc : m ≤ c7 := hO7.2.1
        have hcm7 : c7 ≤ maxLen := hO7.2.2.1
        obtain ⟨g7, rfl, _⟩ := ans_head hO7
        clear hO7 hb7 a0 p0 p1 p2 p3 p4 B6
        have HLN : Hid ((ansL eb (bodyL kb.toNat fd ds st n ws)).length = m) := Lib.hid HO7.out.1
        have HCUT : Hid (∀ q T, q < m → RT kb.toNat ((ansL eb (bodyL kb.toNat fd ds st n ws)).take q) T → T.er = 8) := Lib.hid fun q T hq h => rt_cut HWS.out (by omega) (by rw [HLN.out]; exact hq) h
        have HMORE : Hid (∀ T, RT kb.toNat (ansL eb (bodyL kb.toNat fd ds st n ws) ++ [0]) T → T.er = 8) := Lib.hid fun T h => rt_more HWS.out (by omega) 0 h
        have HRT : Hid (RT kb.toNat (ansL eb (bodyL kb.toNat fd ds st n ws)) (toldT kb.toNat eb fd ds st ws)) := Lib.hid (rt_told HK.out hds hst HWS.out (by omega) HOK.out)
        obtain ⟨err', fd', ds', st', ws', hform⟩ := toldT_form kb.toNat eb fd ds st ws
        have HFORM := Lib.hid hform
        rw [hform] at HRT
        clear hform
        generalize ansL eb (bodyL kb.toNat fd ds st n ws) = L at *
        have a0 : w7.cell? ⟨w.heap.size, 0, none⟩ = some (.int .u8 (kb.toNat : Int)) := (B7.out.a.cell 0).trans rfl
        go_wp2_with fail
        refine (readans_told kb.toNat m c7 _ L _ HO7.out.1 HO7.out.bytes (by omega) hmc hcm7).mono ?_
        rintro e w8 ⟨⟨T8, A8, n8, c8, he, hws8, hW8, hc8, hcm8, hT8⟩, hb8⟩
        obtain rfl := rt_one HRT.out hT8
        have HN8 : Hid (n8 ≤ 1099511627776) := Lib.hid (by
          have h2 := (rt_bounds hT8).2.2.2.2.1
          have h3 := HLN.out
          dsimp only at h2 hws8
          omega)
        dsimp only [repE] at he hws8 hW8
        subst he
        have Hws' := Lib.hid hws8
        have X8 := Lib.hid (Blk.new w8 37 #[.int .i64 err', .bool fd', .int .u64 ds', .slice A8 n8 c8, .int .u8 st'])
        have HW8 : Hid (WayAt (w8.alloc (.cells #[.int .i64 err', .bool fd', .int .u64 ds', .slice A8 n8 c8, .int .u8 st'] 37)) w8.heap.size A8 ws') := Lib.hid (hW8.below ((Below.refl w8.heap.size w8).alloc (Nat.le_refl _) _) (Nat.le_refl _))
        have B8 := Lib.hid ((B7.out.since hb8).alloc (.cells #[.int .i64 err', .bool fd', .int .u64 ds', .slice A8 n8 c8, .int .u8 st'] 37))
        have HO8 := Lib.hid ((HO7.out.below hb8).alloc (.cells #[.int .i64 err', .bool fd', .int .u64 ds', .slice A8 n8 c8, .int .u8 st'] 37))
        clear hb8 hT8 hws8 hW8 B7 HO7 a0
        go_upto_region 12 with (fail)
        generalize hg9 : w8.alloc (.cells #[.int .i64 err', .bool fd', .int .u64 ds', .slice A8 n8 c8, .int .u8 st'] 37) = w9 at *
        have hsz9 : w8.heap.size ≤ w9.heap.size := by rw [← hg9]; simp
        clear hg9
        go_cut [95] from 19 (fun v wx => v = .bool false ∧ Below w9.heap.size w9 wx)
        case first =>
          have hst9 := Since.refl w9
          have hst91 := Since.drew hst9
          have x0 : w9.cell? ⟨w8.heap.size, 0, none⟩ = some (.int .i64 err') := (X8.out.cell 0).trans rfl
          have x1 : w9.cell? ⟨w8.heap.size, 1, none⟩ = some (.bool fd') := (X8.out.cell 1).trans rfl
          have x2 : w9.cell? ⟨w8.heap.size, 2, none⟩ = some (.int .u64 ds') := (X8.out.cell 2).trans rfl
          have x3 : w9.cell? ⟨w8.heap.size, 3, none⟩ = some (.slice A8 n8 c8) := (X8.out.cell 3).trans rfl
          have x4 : w9.cell? ⟨w8.heap.size, 4, none⟩ = some (.int .u8 st') := (X8.out.cell 4).trans rfl
          have a0 : w9.cell? ⟨w.heap.size, 0, none⟩ = some (.int .u8 (kb.toNat : Int)) := (B8.out.a.cell 0).trans rfl
          have p0 : w9.cell? ⟨w.heap.size + 1, 0, none⟩ = some (.int .i64 err) := (B8.out.r.cell 0).trans rfl
          have p1 : w9.cell? ⟨w.heap.size + 1, 1, none⟩ = some (.bool fd) := (B8.out.r.cell 1).trans rfl
          have p2 : w9.cell? ⟨w.heap.size + 1, 2, none⟩ = some (.int .u64 ds) := (B8.out.r.cell 2).trans rfl
          have p3 : w9.cell? ⟨w.heap.size + 1, 3, none⟩ = some (.slice A n c) := (B8.out.r.cell 3).trans rfl
          have p4 : w9.cell? ⟨w.heap.size + 1, 4, none⟩ = some (.int .u8 st) := (B8.out.r.cell 4).trans rfl
          have PT : Hid (Calls Try.prog 26 #[.int .u8 (kb.toNat : Int), .agg #[.int .i64 err, .bool fd, .int .u64 ds, .slice A n c, .int .u8 st]] w9.drew fun e w' => ∃ A' c', e = .returned (.agg #[.int .i64 err', .bool fd', .int .u64 ds', .slice A' n8 c', .int .u8 st']) ∧ WayAt w' w'.heap.size A' ws' ∧ Since w9 w') := Lib.hid (
            (told_any kb.toNat err fd ds n c st A ws eb w9.drew HK.out HEB.out herr HWS.out ((HW.out.below (B8.out.since hst91).z (Nat.le_refl _)).more' (B8.out.since hst91).z.size) (by omega)).mono fun e w' h => by
              obtain ⟨⟨T, A', n', c', rfl, rfl, h2, h3⟩, h4⟩ := h
              rw [HFORM.out] at h2 h3 ⊢
              dsimp only at h2 h3
              obtain rfl : n8 = n' := by have := Hws'.out; omega
              exact ⟨A', c', rfl, h3, hst91.step h4⟩)
          have PS : Hid (∀ W A' c', WayAt W W.heap.size A' ws' → Since w9 W → Calls Try.prog 25 #[.agg #[.int .i64 err', .bool fd', .int .u64 ds', .slice A8 n8 c8, .int .u8 st'], .agg #[.int .i64 err', .bool fd', .int .u64 ds', .slice A' n8 c', .int .u8 st']] W fun e w' => e = .returned (.bool true) ∧ Since w9 w') := Lib.hid fun W A' c' hWA hS =>
            (same_yes err' fd' ds' st' n8 c8 c' A8 A' ws' W Hws'.out ((HW8.out.below hS hsz9).more' (Nat.le_trans hsz9 (Below.size hS))) hWA HN8.out).mono fun e w' h => ⟨h.1, hS.step h.2⟩
          have PX : Hid (∀ W, Since w9 W → W.cell? ⟨w8.heap.size, 0, none⟩ = some (.int .i64 err') ∧ W.cell? ⟨w8.heap.size, 1, none⟩ = some (.bool fd') ∧ W.cell? ⟨w8.heap.size, 2, none⟩ = some (.int .u64 ds') ∧ W.cell? ⟨w8.heap.size, 3, none⟩ = some (.slice A8 n8 c8) ∧ W.cell? ⟨w8.heap.size, 4, none⟩ = some (.int .u8 st')) := Lib.hid fun W hS => by
            have x := X8.out.below hS X8.out.lt
            exact ⟨(x.cell 0).trans rfl, (x.cell 1).trans rfl, (x.cell 2).trans rfl, (x.cell 3).trans rfl, (x.cell 4).trans rfl⟩
          clear hk1 hk3 hst9 hst91
          go_region_law (first
            | ((go_simp); (go_at_call 26); (with_reducible refine Calls.mono PT.out ?_); (rintro e wt ⟨At, ct, rfl, hWt, hst⟩); (obtain ⟨z0, z1, z2, z3, z4⟩ := PX.out wt hst); (have HWT := Lib.hid hWt); (have HST := Lib.hid hst); (clear hWt hst))
            | ((go_simp); (go_at_call 25); (with_reducible refine Calls.mono (PS.out _ _ _ HWT.out HST.out) ?_); (rintro e ws ⟨rfl, hss⟩); (have HSS := Lib.hid hss); (clear hss)))
          all_goals
            go_wp2_with fail
            go_meet
            case rel => exact ⟨rfl, HSS.out⟩
        case rest =>
          obtain ⟨rfl, hcb⟩ := hcut
          have B10 := Lib.hid (B8.out.since hcb)
          have HO10 := Lib.hid (HO8.out.below hcb)
          clear hcb B8 HO8 X8 HW8
          generalize wc = w10 at *
          go_upto_region 14 with (fail)
          have a0 : w10.cell? ⟨w.heap.size, 0, none⟩ = some (.int .u8 (kb.toNat : Int)) := (B10.out.a.cell 0).trans rfl
          go_wp2_with fail
          refine (readans_told kb.toNat nb cb Ab l _ HL.out ((HB.out.below B10.out.z).more B10.out.z.size) (by omega) hcap1 hcap2).mono ?_
          rintro e w11 ⟨⟨T11, A11, n11, c11, he, hws11, hW11, hc11, hcm11, hT11⟩, hb11⟩
          have HER := Lib.hid (rt_er hT11)
          have HBN := Lib.hid (rt_bounds hT11)
          have HBK := Lib.hid (rt_back hT11)
          obtain ⟨err11, fd11, ds11, st11, er11, ws11⟩ := T11
          dsimp only [repE] at he hws11 hW11 HER HBN HBK
          subst he
          have HWS11 := Lib.hid hws11
          have X11 := Lib.hid (Blk.new w11 37 #[.int .i64 err11, .bool fd11, .int .u64 ds11, .slice A11 n11 c11, .int .u8 st11])
          have HW11 : Hid (WayAt (w11.alloc (.cells #[.int .i64 err11, .bool fd11, .int .u64 ds11, .slice A11 n11 c11, .int .u8 st11] 37)) w11.heap.size A11 ws11) := Lib.hid (hW11.below ((Below.refl w11.heap.size w11).alloc (Nat.le_refl _) _) (Nat.le_refl _))
          have B12 := Lib.hid ((B10.out.since hb11).alloc (.cells #[.int .i64 err11, .bool fd11, .int .u64 ds11, .slice A11 n11 c11, .int .u8 st11] 37))
          have HO12 := Lib.hid ((HO10.out.below hb11).alloc (.cells #[.int .i64 err11, .bool fd11, .int .u64 ds11, .slice A11 n11 c11, .int .u8 st11] 37))
          clear hb11 hT11 hws11 hW11 B10 HO10 a0
          go_upto_region 15 with (fail)
          generalize hg12 : w11.alloc (.cells #[.int .i64 err11, .bool fd11, .int .u64 ds11, .slice A11 n11 c11, .int .u8 st11] 37) = w12 at *
          have hsz12 : w11.heap.size ≤ w12.heap.size := by rw [← hg12]; simp
          clear hg12
          go_cut [113] from 19 (fun v wx => v = .bool false ∧ Below w12.heap.size w12 wx)
          case first =>
            rcases HER.out with rfl | rfl
            · obtain ⟨eb11, heb11, hback⟩ := HBK.out rfl
              have HEB11 := Lib.hid heb11
              have HBACK := Lib.hid hback
              clear heb11 hback
              rw [HWS11.out] at HBACK
              obtain ⟨⟨be1, be2⟩, be3, be4, be5, be6, _⟩ := HBN.out
              have HBE5 := Lib.hid be5
              have hn11 : n11 ≤ 4096 := by
                have h1 := HWS11.out
                have h2 := HL.out
                omega
              clear be5 be6
              have a0 : w12.cell? ⟨w.heap.size, 0, none⟩ = some (.int .u8 (kb.toNat : Int)) := (B12.out.a.cell 0).trans rfl
              have y0 : w12.cell? ⟨w11.heap.size, 0, none⟩ = some (.int .i64 err11) := (X11.out.cell 0).trans rfl
              have y1 : w12.cell? ⟨w11.heap.size, 1, none⟩ = some (.bool fd11) := (X11.out.cell 1).trans rfl
              have y2 : w12.cell? ⟨w11.heap.size, 2, none⟩ = some (.int .u64 ds11) := (X11.out.cell 2).trans rfl
              have y3 : w12.cell? ⟨w11.heap.size, 3, none⟩ = some (.slice A11 n11 c11) := (X11.out.cell 3).trans rfl
              have y4 : w12.cell? ⟨w11.heap.size, 4, none⟩ = some (.int .u8 st11) := (X11.out.cell 4).trans rfl
              go_wp2_with fail
              refine (answer_any kb.toNat err11 fd11 ds11 n11 c11 st11 A11 ws11 eb11 _ HEB11.out ⟨by omega, by omega⟩ be3 be4 HWS11.out (HW11.out.more' hsz12) HBE5.out (by omega)).mono ?_
              rintro e w13 ⟨A13, m13, c13, rfl, hO13, hb13⟩
              rw [HBACK.out] at hO13
              have HO13 := Lib.hid hO13
              have HB13 := Lib.hid hb13
              clear hO13 hb13
              go_wp2_with fail
              refine (eq_own A13 Ab m13 c13 nb cb l l _ HO13.out.1 HO13.out.bytes HL.out ((HB.out.below (B12.out.since HB13.out).z).more (B12.out.since HB13.out).z.size) rfl).mono ?_
              rintro e w13' ⟨rfl, rfl⟩
              go_wp2_with fail
              go_meet
              case rel => exact ⟨rfl, HB13.out⟩
            · go_wp2_with fail
              go_meet
              case rel => exact ⟨rfl, Below.refl _ _⟩
          case rest =>
            obtain ⟨rfl, hcb⟩ := hcut
            have B14 := Lib.hid (B12.out.since hcb)
            have HO14 := Lib.hid (HO12.out.below hcb)
            clear hcb B12 HO12 X11 HW11 HBK HBN HER
            generalize wc = w14 at *
            go_upto_region 17 with (fail)
            go_wp2_with fail
            go_loopw [8, 17] (fun _ i wr => ∃ q : Nat, q ≤ m ∧ i = .int .i64 q ∧ Below w14.heap.size w14 wr) (fun _ i _ => m - (intOf i).toNat)
            case atStart => exact ⟨0, by omega, rfl, Below.refl _ _⟩
            case round =>
              obtain ⟨q, hq, rfl, hbq⟩ := hrel
              have BQ := Lib.hid (B14.out.since hbq)
              have HOQ := Lib.hid (HO14.out.below hbq)
              have HBQ := Lib.hid hbq
              clear hbq
              by_cases hqm : q < m
              · have hqi : (q : Int) < (m : Int) := by omega
                by_cases hq60 : q < 60
                · have hqc : (q : Int) ≤ (c7 : Int) := by omega
                  have hq0 : (0 : Int) ≤ (q : Int) := by omega
                  have hq60i : (q : Int) < 60 := by omega
                  have a0 : wr.cell? ⟨w.heap.size, 0, none⟩ = some (.int .u8 (kb.toNat : Int)) := (BQ.out.a.cell 0).trans rfl
                  have PQ : Hid (Calls Try.prog 23 #[.int .u8 (kb.toNat : Int), .slice (some ⟨g7, 0, none⟩) q c7] wr.drew fun e w' => (∃ (er2 : Int) (fd2 : Bool) (ds2 : Nat) (Aw2 : Option Addr) (nw2 cw2 st2 : Nat), e = .returned (.tuple #[.agg #[.int .i64 er2, .bool fd2, .int .u64 ds2, .slice Aw2 nw2 cw2, .int .u8 st2], .int .i64 8])) ∧ Below wr.heap.size wr w') := Lib.hid (
                    (readans_told kb.toNat q c7 _ (L.take q) wr.drew (by rw [List.length_take, HOQ.out.1]; omega) (HOQ.out.bytes.take q) (by omega) (by omega) hcm7).mono fun e w' h => by
                      obtain ⟨⟨T, A', n', c', rfl, _, _, _, _, hT⟩, hb⟩ := h
                      have := HCUT.out q T hqm hT
                      obtain ⟨er2, fd2, ds2, st2, er, ws2⟩ := T
                      dsimp only at this
                      subst this
                      exact ⟨⟨_, _, _, _, _, _, _, rfl⟩, ((Below.refl wr.heap.size wr).drew).trans hb⟩)
                  clear hqm hq60
                  go_upto_region 20 with (fail)
                  go_region_law (first
                    | ((go_simp); (go_at_call 23); (with_reducible refine Calls.mono PQ.out ?_); (rintro e w16 ⟨⟨er2, fd2, ds2, Aw2, nw2, cw2, st2, rfl⟩, hb16⟩)))
                  all_goals
                    have HB16 := Lib.hid hb16
                    clear hb16
                    go_wp2_with fail
                    go_roundw
                    case rel => exact ⟨q + 1, by omega, by go_num, HBQ.out.trans (HB16.out.mono HBQ.out.size)⟩
                    case measure => simp [intOf]; omega
                · have hq60i : ¬ (q : Int) < 60 := by omega
                  clear hqm hq60
                  go_upto_region 24 with (refine (copy_any _ m c7 L _ HOQ.out.1 HOQ.out.bytes (by omega)).mono ?_; rintro e w17 ⟨A17, c17, rfl, hO17, hb17⟩; have HO17 := Lib.hid hO17; have HB17 := Lib.hid hb17; have hsz17 := hb17.size; clear hO17 hb17)
                  go_wp2_with (at_builtin; refine wpList_append_b rfl (.tmp 137) (.tmp 138) _ rfl 5 i0 Try.underlying22 hi0 hz0 hz1 hz2 rfl (HO17.out.alloc _) rfl (bytes_one _ _ _ 0 rfl) rfl (by omega) (by simp; omega) ?_; intro A18 c18 w18 hO18 hg18 hd18; have HO18 := Lib.hid hO18; have B18 := Lib.hid (BQ.out.since (HB17.out.trans (below_grown ((Below.refl wr.heap.size w17).alloc hsz17 _) (HO17.out.alloc _) hg18 (by simp; omega)))); clear hO18 hg18 hd18; have a0 : w18.cell? ⟨w.heap.size, 0, none⟩ = some (.int .u8 (kb.toNat : Int)) := (B18.out.a.cell 0).trans rfl)
                  refine (readans_told kb.toNat (m + 1) c18 _ (L ++ [0]) _ HO18.out.1 HO18.out.bytes (by omega) HO18.out.2.1 HO18.out.2.2.1).mono ?_
                  rintro e w19 ⟨⟨T19, A19, n19, c19, rfl, _, _, _, _, hT19⟩, hb19⟩
                  have her19 := HMORE.out T19 hT19
                  obtain ⟨err19, fd19, ds19, st19, er19, ws19⟩ := T19
                  dsimp only at her19
                  subst her19
                  have Z19 := Lib.hid (B18.out.since hb19).z
                  clear hb19 hT19
                  dsimp only [repE]
                  go_wp2_with fail
                  refine (works_any _).mono ?_
                  rintro e w20 ⟨rfl, hb20⟩
                  go_wp2_with fail
                  go_ret
                  exact ⟨rfl, Z19.out.trans (hb20.mono Z19.out.size)⟩
              · have hqi : ¬ (q : Int) < (m : Int) := by omega
                clear hqm
                go_upto_region 24 with (refine (copy_any _ m c7 L _ HOQ.out.1 HOQ.out.bytes (by omega)).mono ?_; rintro e w17 ⟨A17, c17, rfl, hO17, hb17⟩; have HO17 := Lib.hid hO17; have HB17 := Lib.hid hb17; have hsz17 := hb17.size; clear hO17 hb17)
                go_wp2_with (at_builtin; refine wpList_append_b rfl (.tmp 137) (.tmp 138) _ rfl 5 i0 Try.underlying22 hi0 hz0 hz1 hz2 rfl (HO17.out.alloc _) rfl (bytes_one _ _ _ 0 rfl) rfl (by omega) (by simp; omega) ?_; intro A18 c18 w18 hO18 hg18 hd18; have HO18 := Lib.hid hO18; have B18 := Lib.hid (BQ.out.since (HB17.out.trans (below_grown ((Below.refl wr.heap.size w17).alloc hsz17 _) (HO17.out.alloc _) hg18 (by simp; omega)))); clear hO18 hg18 hd18; have a0 : w18.cell? ⟨w.heap.size, 0, none⟩ = some (.int .u8 (kb.toNat : Int)) := (B18.out.a.cell 0).trans rfl)
                refine (readans_told kb.toNat (m + 1) c18 _ (L ++ [0]) _ HO18.out.1 HO18.out.bytes (by omega) HO18.out.2.1 HO18.out.2.2.1).mono ?_
                rintro e w19 ⟨⟨T19, A19, n19, c19, rfl, _, _, _, _, hT19⟩, hb19⟩
                have her19 := HMORE.out T19 hT19
                obtain ⟨err19, fd19, ds19, st19, er19, ws19⟩ := T19
                dsimp only at her19
                subst her19
                have Z19 := Lib.hid (B18.out.since hb19).z
                clear hb19 hT19
                dsimp only [repE]
                go_wp2_with fail
                refine (works_any _).mono ?_
                rintro e w20 ⟨rfl, hb20⟩
                go_wp2_with fail
                go_ret
                exact ⟨rfl, Z19.out.trans (hb20.mono Z19.out.size)⟩
  · have HK : Hid (¬ Kn kb.toNat) := Lib.hid hkn
    have hkI : (kb.toNat : Int) < 1 ∨ ((1 : Int) ≤ (kb.toNat : Int) ∧ 3 < (kb.toNat : Int)) := by unfold Kn at hkn; omega
    clear hkn
    go_wp2_with fail
    refine (read_ans A1 9 c1 (askL kb s t) 0 0 0 8 _ (ask_casenot HK.out) HO1.out.1 HO1.out.bytes (by omega) HO1.out.2.1).mono ?_
    rintro e w2 ⟨rfl, hb2⟩
    have X2 := Lib.hid (Blk.new w2 25 #[.int .u8 0, .int .u32 0, .int .u32 0])
    have B2 := Lib.hid ((B1.out.since hb2).alloc (.cells #[.int .u8 0, .int .u32 0, .int .u32 0] 25))
    clear hb2 HO1
    go_upto_region 4 with (fail)
    generalize w2.alloc (.cells #[.int .u8 0, .int .u32 0, .int .u32 0] 25) = w3 at *
    have a0 : w3.cell? ⟨w.heap.size, 0, none⟩ = some (.int .u8 (kb.toNat : Int)) := (B2.out.a.cell 0).trans rfl
    have a1 : w3.cell? ⟨w.heap.size, 1, none⟩ = some (.int .u32 s) := (B2.out.a.cell 1).trans rfl
    have a2 : w3.cell? ⟨w.heap.size, 2, none⟩ = some (.int .u32 t) := (B2.out.a.cell 2).trans rfl
    have x0 : w3.cell? ⟨w2.heap.size, 0, none⟩ = some (.int .u8 0) := (X2.out.cell 0).trans rfl
    have x1 : w3.cell? ⟨w2.heap.size, 1, none⟩ = some (.int .u32 0) := (X2.out.cell 1).trans rfl
    have x2 : w3.cell? ⟨w2.heap.size, 2, none⟩ = some (.int .u32 0) := (X2.out.cell 2).trans rfl
    go_cut [9] from 19 (fun v wx => v = .bool false ∧ wx = w3)
    case first =>
      rcases hkI with hkI | ⟨hkI, hkJ⟩
      all_goals
        go_wp2_with fail
        go_meet
        case rel => exact ⟨by first | rfl | (simp; omega), rfl⟩
    case rest =>
      obtain ⟨rfl, rfl⟩ := hcut
      clear X2
      go_upto_region 7 with (fail)
      clear a0 a1 a2 x0 x1 x2
      obtain ⟨K', S', T', E', hA'⟩ := askAns l
      have HA' := Lib.hid hA'
      clear hA'
      go_wp2_with fail
      refine (read_ans Ab nb cb l K' S' T' E' _ HA'.out HL.out ((HB.out.below B2.out.z).more B2.out.z.size) (by omega) hcap1).mono ?_
      rintro e w4 ⟨rfl, hb4⟩
      have Y4 := Lib.hid (Blk.new w4 25 #[.int .u8 K', .int .u32 S', .int .u32 T'])
      have B4 := Lib.hid ((B2.out.since hb4).alloc (.cells #[.int .u8 K', .int .u32 S', .int .u32 T'] 25))
      clear hb4 B2
      go_upto_region 8 with (fail)
      generalize w4.alloc (.cells #[.int .u8 K', .int .u32 S', .int .u32 T'] 25) = w5 at *
      go_cut [68] from 19 (fun v wx => v = .bool false ∧ Below w5.heap.size w5 wx)
      case first =>
        rcases HA'.out with ⟨k2, hAs, rfl, rfl, rfl, rfl⟩ | ⟨_, rfl, rfl, rfl, rfl⟩
        · have HAS := Lib.hid hAs
          clear hAs
          have y0 : w5.cell? ⟨w4.heap.size, 0, none⟩ = some (.int .u8 (k2.toNat : Int)) := (Y4.out.cell 0).trans rfl
          have y1 : w5.cell? ⟨w4.heap.size, 1, none⟩ = some (.int .u32 (num l 1 4)) := (Y4.out.cell 1).trans rfl
          have y2 : w5.cell? ⟨w4.heap.size, 2, none⟩ = some (.int .u32 (num l 5 4)) := (Y4.out.cell 2).trans rfl
          go_wp2_with fail
          refine (write_any k2 (num l 1 4) (num l 5 4) _ (num32 _ _) (num32 _ _)).mono ?_
          rintro e w6 ⟨A6, c6, rfl, hO6, hb6⟩
          have HO6 := Lib.hid hO6
          have HB6 := Lib.hid hb6
          clear hO6 hb6
          go_wp2_with fail
          refine (eq_own A6 Ab 9 c6 nb cb (askL k2 (num l 1 4) (num l 5 4)) l _ HO6.out.1 HO6.out.bytes HL.out ((HB.out.below (B4.out.since HB6.out).z).more (B4.out.since HB6.out).z.size) (ask_back HAS.out)).mono ?_
          rintro e w6' ⟨rfl, rfl⟩
          go_wp2_with fail
          go_meet
          case rel => exact ⟨rfl, HB6.out⟩
        · go_wp2_with fail
          go_meet
          case rel => exact ⟨rfl, Below.refl _ _⟩
      case rest =>
        obtain ⟨rfl, hcb⟩ := hcut
        have B6 := Lib.hid (B4.out.since hcb)
        clear hcb B4 Y4 HA'
        go_upto_region 10 with (fail)
        generalize wc = w6 at *
        have a0 : w6.cell? ⟨w.heap.size, 0, none⟩ = some (.int .u8 (kb.toNat : Int)) := (B6.out.a.cell 0).trans rfl
        have p0 : w6.cell? ⟨w.heap.size + 1, 0, none⟩ = some (.int .i64 err) := (B6.out.r.cell 0).trans rfl
        have p1 : w6.cell? ⟨w.heap.size + 1, 1, none⟩ = some (.bool fd) := (B6.out.r.cell 1).trans rfl
        have p2 : w6.cell? ⟨w.heap.size + 1, 2, none⟩ = some (.int .u64 ds) := (B6.out.r.cell 2).trans rfl
        have p3 : w6.cell? ⟨w.heap.size + 1, 3, none⟩ = some (.slice A n c) := (B6.out.r.cell 3).trans rfl
        have p4 : w6.cell? ⟨w.heap.size + 1, 4, none⟩ = some (.int .u8 st) := (B6.out.r.cell 4).trans rfl
        go_wp2_with fail
        refine (answer_any kb.toNat err fd ds n c st A ws eb _ HEB.out herr hds hst HWS.out ((HW.out.below B6.out.z (Nat.le_refl _)).more' B6.out.z.size) HOK.out (by omega)).mono ?_
        rintro e w7 ⟨A7, m, c7, rfl, hO7, hb7⟩
        have HO7 := Lib.hid (hO7.mono B6.out.z.size)
        have B7 := Lib.hid (B6.out.since hb7)
        have hm : m ≤ 4200 := by
          have := ans_length_le kb.toNat eb fd ds st n ws HWS.out
          have := hO7.1
          omega
        have hmc : m ≤ c7 := hO7.2.1
        have hcm7 : c7 ≤ maxLen := hO7.2.2.1
        obtain ⟨g7, rfl, _⟩ := ans_head hO7
        clear hO7 hb7 a0 p0 p1 p2 p3 p4 B6
        have HLN : Hid ((ansL eb (bodyL kb.toNat fd ds st n ws)).length = m) := Lib.hid HO7.out.1
        have HCUT : Hid (∀ q T, q < m → RT kb.toNat ((ansL eb (bodyL kb.toNat fd ds st n ws)).take q) T → T.er = 8) := Lib.hid fun q T hq h => rt_cut HWS.out (by omega) (by rw [HLN.out]; exact hq) h
        have HMORE : Hid (∀ T, RT kb.toNat (ansL eb (bodyL kb.toNat fd ds st n ws) ++ [0]) T → T.er = 8) := Lib.hid fun T h => rt_more HWS.out (by omega) 0 h
        generalize ansL eb (bodyL kb.toNat fd ds st n ws) = L at *
        have a0 : w7.cell? ⟨w.heap.size, 0, none⟩ = some (.int .u8 (kb.toNat : Int)) := (B7.out.a.cell 0).trans rfl
        go_wp2_with fail
        refine (readans_told kb.toNat m c7 _ L _ HO7.out.1 HO7.out.bytes (by omega) hmc hcm7).mono ?_
        rintro e w8 ⟨⟨T8, A8, n8, c8, he, hws8, hW8, hc8, hcm8, hT8⟩, hb8⟩
        have her8 := rt_not hT8 (.inl HK.out)
        obtain ⟨err8, fd8, ds8, st8, er8, ws8⟩ := T8
        dsimp only at her8
        subst her8
        dsimp only [repE] at he hws8 hW8
        subst he
        have Hws8 := Lib.hid hws8
        have X8 := Lib.hid (Blk.new w8 37 #[.int .i64 err8, .bool fd8, .int .u64 ds8, .slice A8 n8 c8, .int .u8 st8])
        have HW8 : Hid (WayAt (w8.alloc (.cells #[.int .i64 err8, .bool fd8, .int .u64 ds8, .slice A8 n8 c8, .int .u8 st8] 37)) w8.heap.size A8 ws8) := Lib.hid (hW8.below ((Below.refl w8.heap.size w8).alloc (Nat.le_refl _) _) (Nat.le_refl _))
        have B8 := Lib.hid ((B7.out.since hb8).alloc (.cells #[.int .i64 err8, .bool fd8, .int .u64 ds8, .slice A8 n8 c8, .int .u8 st8] 37))
        have HO8 := Lib.hid ((HO7.out.below hb8).alloc (.cells #[.int .i64 err8, .bool fd8, .int .u64 ds8, .slice A8 n8 c8, .int .u8 st8] 37))
        clear hb8 hT8 hws8 hW8 B7 HO7 a0
        go_upto_region 12 with (fail)
        generalize hg9 : w8.alloc (.cells #[.int .i64 err8, .bool fd8, .int .u64 ds8, .slice A8 n8 c8, .int .u8 st8] 37) = w9 at *
        have hsz9 : w8.heap.size ≤ w9.heap.size := by rw [← hg9]; simp
        clear hg9
        go_cut [95] from 19 (fun v wx => v = .bool false ∧ Below w9.heap.size w9 wx)
        case first =>
          go_region
          go_wp2_with fail
          go_meet
          case rel => exact ⟨rfl, (Below.refl _ _).drew⟩
        case rest =>
          obtain ⟨rfl, hcb⟩ := hcut
          have B10 := Lib.hid (B8.out.since hcb)
          have HO10 := Lib.hid (HO8.out.below hcb)
          clear hcb B8 HO8 X8 HW8
          generalize wc = w10 at *
          go_upto_region 14 with (fail)
          have a0 : w10.cell? ⟨w.heap.size, 0, none⟩ = some (.int .u8 (kb.toNat : Int)) := (B10.out.a.cell 0).trans rfl
          go_wp2_with fail
          refine (readans_told kb.toNat nb cb Ab l _ HL.out ((HB.out.below B10.out.z).more B10.out.z.size) (by omega) hcap1 hcap2).mono ?_
          rintro e w11 ⟨⟨T11, A11, n11, c11, he, hws11, hW11, hc11, hcm11, hT11⟩, hb11⟩
          have HER := Lib.hid (rt_er hT11)
          have HBN := Lib.hid (rt_bounds hT11)
          have HBK := Lib.hid (rt_back hT11)
          obtain ⟨err11, fd11, ds11, st11, er11, ws11⟩ := T11
          dsimp only [repE] at he hws11 hW11 HER HBN HBK
          subst he
          have HWS11 := Lib.hid hws11
          have X11 := Lib.hid (Blk.new w11 37 #[.int .i64 err11, .bool fd11, .int .u64 ds11, .slice A11 n11 c11, .int .u8 st11])
          have HW11 : Hid (WayAt (w11.alloc (.cells #[.int .i64 err11, .bool fd11, .int .u64 ds11, .slice A11 n11 c11, .int .u8 st11] 37)) w11.heap.size A11 ws11) := Lib.hid (hW11.below ((Below.refl w11.heap.size w11).alloc (Nat.le_refl _) _) (Nat.le_refl _))
          have B12 := Lib.hid ((B10.out.since hb11).alloc (.cells #[.int .i64 err11, .bool fd11, .int .u64 ds11, .slice A11 n11 c11, .int .u8 st11] 37))
          have HO12 := Lib.hid ((HO10.out.below hb11).alloc (.cells #[.int .i64 err11, .bool fd11, .int .u64 ds11, .slice A11 n11 c11, .int .u8 st11] 37))
          clear hb11 hT11 hws11 hW11 B10 HO10 a0
          go_upto_region 15 with (fail)
          generalize hg12 : w11.alloc (.cells #[.int .i64 err11, .bool fd11, .int .u64 ds11, .slice A11 n11 c11, .int .u8 st11] 37) = w12 at *
          have hsz12 : w11.heap.size ≤ w12.heap.size := by rw [← hg12]; simp
          clear hg12
          go_cut [113] from 19 (fun v wx => v = .bool false ∧ Below w12.heap.size w12 wx)
          case first =>
            rcases HER.out with rfl | rfl
            · obtain ⟨eb11, heb11, hback⟩ := HBK.out rfl
              have HEB11 := Lib.hid heb11
              have HBACK := Lib.hid hback
              clear heb11 hback
              rw [HWS11.out] at HBACK
              obtain ⟨⟨be1, be2⟩, be3, be4, be5, be6, _⟩ := HBN.out
              have HBE5 := Lib.hid be5
              have hn11 : n11 ≤ 4096 := by
                have h1 := HWS11.out
                have h2 := HL.out
                omega
              clear be5 be6
              have a0 : w12.cell? ⟨w.heap.size, 0, none⟩ = some (.int .u8 (kb.toNat : Int)) := (B12.out.a.cell 0).trans rfl
              have y0 : w12.cell? ⟨w11.heap.size, 0, none⟩ = some (.int .i64 err11) := (X11.out.cell 0).trans rfl
              have y1 : w12.cell? ⟨w11.heap.size, 1, none⟩ = some (.bool fd11) := (X11.out.cell 1).trans rfl
              have y2 : w12.cell? ⟨w11.heap.size, 2, none⟩ = some (.int .u64 ds11) := (X11.out.cell 2).trans rfl
              have y3 : w12.cell? ⟨w11.heap.size, 3, none⟩ = some (.slice A11 n11 c11) := (X11.out.cell 3).trans rfl
              have y4 : w12.cell? ⟨w11.heap.size, 4, none⟩ = some (.int .u8 st11) := (X11.out.cell 4).trans rfl
              go_wp2_with fail
              refine (answer_any kb.toNat err11 fd11 ds11 n11 c11 st11 A11 ws11 eb11 _ HEB11.out ⟨by omega, by omega⟩ be3 be4 HWS11.out (HW11.out.more' hsz12) HBE5.out (by omega)).mono ?_
              rintro e w13 ⟨A13, m13, c13, rfl, hO13, hb13⟩
              rw [HBACK.out] at hO13
              have HO13 := Lib.hid hO13
              have HB13 := Lib.hid hb13
              clear hO13 hb13
              go_wp2_with fail
              refine (eq_own A13 Ab m13 c13 nb cb l l _ HO13.out.1 HO13.out.bytes HL.out ((HB.out.below (B12.out.since HB13.out).z).more (B12.out.since HB13.out).z.size) rfl).mono ?_
              rintro e w13' ⟨rfl, rfl⟩
              go_wp2_with fail
              go_meet
              case rel => exact ⟨rfl, HB13.out⟩
            · go_wp2_with fail
              go_meet
              case rel => exact ⟨rfl, Below.refl _ _⟩
          case rest =>
            obtain ⟨rfl, hcb⟩ := hcut
            have B14 := Lib.hid (B12.out.since hcb)
            have HO14 := Lib.hid (HO12.out.below hcb)
            clear hcb B12 HO12 X11 HW11 HBK HBN HER
            generalize wc = w14 at *
            go_upto_region 17 with (fail)
            go_wp2_with fail
            go_loopw [8, 17] (fun _ i wr => ∃ q : Nat, q ≤ m ∧ i = .int .i64 q ∧ Below w14.heap.size w14 wr) (fun _ i _ => m - (intOf i).toNat)
            case atStart => exact ⟨0, by omega, rfl, Below.refl _ _⟩
            case round =>
              obtain ⟨q, hq, rfl, hbq⟩ := hrel
              have BQ := Lib.hid (B14.out.since hbq)
              have HOQ := Lib.hid (HO14.out.below hbq)
              have HBQ := Lib.hid hbq
              clear hbq
              by_cases hqm : q < m
              · have hqi : (q : Int) < (m : Int) := by omega
                by_cases hq60 : q < 60
                · have hqc : (q : Int) ≤ (c7 : Int) := by omega
                  have hq0 : (0 : Int) ≤ (q : Int) := by omega
                  have hq60i : (q : Int) < 60 := by omega
                  have a0 : wr.cell? ⟨w.heap.size, 0, none⟩ = some (.int .u8 (kb.toNat : Int)) := (BQ.out.a.cell 0).trans rfl
                  have PQ : Hid (Calls Try.prog 23 #[.int .u8 (kb.toNat : Int), .slice (some ⟨g7, 0, none⟩) q c7] wr.drew fun e w' => (∃ (er2 : Int) (fd2 : Bool) (ds2 : Nat) (Aw2 : Option Addr) (nw2 cw2 st2 : Nat), e = .returned (.tuple #[.agg #[.int .i64 er2, .bool fd2, .int .u64 ds2, .slice Aw2 nw2 cw2, .int .u8 st2], .int .i64 8])) ∧ Below wr.heap.size wr w') := Lib.hid (
                    (readans_told kb.toNat q c7 _ (L.take q) wr.drew (by rw [List.length_take, HOQ.out.1]; omega) (HOQ.out.bytes.take q) (by omega) (by omega) hcm7).mono fun e w' h => by
                      obtain ⟨⟨T, A', n', c', rfl, _, _, _, _, hT⟩, hb⟩ := h
                      have := HCUT.out q T hqm hT
                      obtain ⟨er2, fd2, ds2, st2, er, ws2⟩ := T
                      dsimp only at this
                      subst this
                      exact ⟨⟨_, _, _, _, _, _, _, rfl⟩, ((Below.refl wr.heap.size wr).drew).trans hb⟩)
                  clear hqm hq60
                  go_upto_region 20 with (fail)
                  go_region_law (first
                    | ((go_simp); (go_at_call 23); (with_reducible refine Calls.mono PQ.out ?_); (rintro e w16 ⟨⟨er2, fd2, ds2, Aw2, nw2, cw2, st2, rfl⟩, hb16⟩)))
                  all_goals
                    have HB16 := Lib.hid hb16
                    clear hb16
                    go_wp2_with fail
                    go_roundw
                    case rel => exact ⟨q + 1, by omega, by go_num, HBQ.out.trans (HB16.out.mono HBQ.out.size)⟩
                    case measure => simp [intOf]; omega
                · have hq60i : ¬ (q : Int) < 60 := by omega
                  clear hqm hq60
                  go_upto_region 24 with (refine (copy_any _ m c7 L _ HOQ.out.1 HOQ.out.bytes (by omega)).mono ?_; rintro e w17 ⟨A17, c17, rfl, hO17, hb17⟩; have HO17 := Lib.hid hO17; have HB17 := Lib.hid hb17; have hsz17 := hb17.size; clear hO17 hb17)
                  go_wp2_with (at_builtin; refine wpList_append_b rfl (.tmp 137) (.tmp 138) _ rfl 5 i0 Try.underlying22 hi0 hz0 hz1 hz2 rfl (HO17.out.alloc _) rfl (bytes_one _ _ _ 0 rfl) rfl (by omega) (by simp; omega) ?_; intro A18 c18 w18 hO18 hg18 hd18; have HO18 := Lib.hid hO18; have B18 := Lib.hid (BQ.out.since (HB17.out.trans (below_grown ((Below.refl wr.heap.size w17).alloc hsz17 _) (HO17.out.alloc _) hg18 (by simp; omega)))); clear hO18 hg18 hd18; have a0 : w18.cell? ⟨w.heap.size, 0, none⟩ = some (.int .u8 (kb.toNat : Int)) := (B18.out.a.cell 0).trans rfl)
                  refine (readans_told kb.toNat (m + 1) c18 _ (L ++ [0]) _ HO18.out.1 HO18.out.bytes (by omega) HO18.out.2.1 HO18.out.2.2.1).mono ?_
                  rintro e w19 ⟨⟨T19, A19, n19, c19, rfl, _, _, _, _, hT19⟩, hb19⟩
                  have her19 := HMORE.out T19 hT19
                  obtain ⟨err19, fd19, ds19, st19, er19, ws19⟩ := T19
                  dsimp only at her19
                  subst her19
                  have Z19 := Lib.hid (B18.out.since hb19).z
                  clear hb19 hT19
                  dsimp only [repE]
                  go_wp2_with fail
                  refine (works_any _).mono ?_
                  rintro e w20 ⟨rfl, hb20⟩
                  go_wp2_with fail
                  go_ret
                  exact ⟨rfl, Z19.out.trans (hb20.mono Z19.out.size)⟩
              · have hqi : ¬ (q : Int) < (m : Int) := by omega
                clear hqm
                go_upto_region 24 with (refine (copy_any _ m c7 L _ HOQ.out.1 HOQ.out.bytes (by omega)).mono ?_; rintro e w17 ⟨A17, c17, rfl, hO17, hb17⟩; have HO17 := Lib.hid hO17; have HB17 := Lib.hid hb17; have hsz17 := hb17.size; clear hO17 hb17)
                go_wp2_with (at_builtin; refine wpList_append_b rfl (.tmp 137) (.tmp 138) _ rfl 5 i0 Try.underlying22 hi0 hz0 hz1 hz2 rfl (HO17.out.alloc _) rfl (bytes_one _ _ _ 0 rfl) rfl (by omega) (by simp; omega) ?_; intro A18 c18 w18 hO18 hg18 hd18; have HO18 := Lib.hid hO18; have B18 := Lib.hid (BQ.out.since (HB17.out.trans (below_grown ((Below.refl wr.heap.size w17).alloc hsz17 _) (HO17.out.alloc _) hg18 (by simp; omega)))); clear hO18 hg18 hd18; have a0 : w18.cell? ⟨w.heap.size, 0, none⟩ = some (.int .u8 (kb.toNat : Int)) := (B18.out.a.cell 0).trans rfl)
                refine (readans_told kb.toNat (m + 1) c18 _ (L ++ [0]) _ HO18.out.1 HO18.out.bytes (by omega) HO18.out.2.1 HO18.out.2.2.1).mono ?_
                rintro e w19 ⟨⟨T19, A19, n19, c19, rfl, _, _, _, _, hT19⟩, hb19⟩
                have her19 := HMORE.out T19 hT19
                obtain ⟨err19, fd19, ds19, st19, er19, ws19⟩ := T19
                dsimp only at her19
                subst her19
                have Z19 := Lib.hid (B18.out.since hb19).z
                clear hb19 hT19
                dsimp only [repE]
                go_wp2_with fail
                refine (works_any _).mono ?_
                rintro e w20 ⟨rfl, hb20⟩
                go_wp2_with fail
                go_ret
                exact ⟨rfl, Z19.out.trans (hb20.mono Z19.out.size)⟩
end Go.Proofs.Ytjiiabekjiilbaa
