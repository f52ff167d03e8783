/-
  The chapter's example of package frame; the law FramePuts, walked.
-/
import Derived.Test.YtfgkbghagklacaaDoorWFrameH
import Derived.Test.YtfgkbghagklacaaDoorOpen
import Derived.Deep.RegionWith
namespace Go.Proofs.YtfgkbghagklacaaDoor
open Go.RowKit
open Byts Fram
set_option linter.unusedVariables false
theorem fget_any (A : Option Addr) (n c : Nat) (zs : List Int) (w : World) (ht : Tab w) (hr : Reads w w.heap.size 1 A n (nums .u8 zs)) (hz : ∀ z ∈ zs, 0 ≤ z ∧ z < 256) (hnc : n ≤ c) (hc0 : c ≤ 9223372036854775807) :
    Calls Tryd.prog 28 #[.slice A n c] w (FGet zs w) := by
  by_cases h1 : n ≠ 0 ∧ zs.getD 0 0 ≠ 181
  · exact fget_form A n c zs w hr hz (by omega) (.inl h1)
  · have h1' : n = 0 ∨ zs.getD 0 0 = 181 := by
      by_cases h : n = 0
      · exact .inl h
      · right
        by_cases h2 : zs.getD 0 0 = 181
        · exact h2
        · exact absurd ⟨h, h2⟩ h1
    by_cases h2 : nZ zs ≤ 60000
    · by_cases h3 : (n : Int) < 8 + nZ zs
      · exact fget_short A n c zs w hr hz (by omega) h1' h2 h3
      · exact fget_main A n c zs w ht hr hz hnc hc0 h1' h2 (by omega)
    · exact fget_form A n c zs w hr hz (by omega) (.inr ⟨h1', by omega⟩)
def szZ (q : Int) : Int := if 0 ≤ q ∧ q ≤ 60000 then q + 8 else 0
theorem size_any (q : Int) (w : World) : Calls Tryd.prog 25 #[.int .i64 q] w fun e w' => e = .returned (.int .i64 (szZ q)) ∧ w = w' := by
  unfold szZ
  by_cases h : 0 ≤ q ∧ q ≤ 60000
  · rw [if_pos h]
    have := size_in q w h.1 h.2
    rw [show 4 + q + 4 = q + 8 by omega] at this
    exact this
  · rw [if_neg h]
    exact size_out q w (by omega)
theorem awake09 (w : World) (ht : Tab w) : Calls Tryd.prog 24 #[] w fun e w' => e = .returned (.bool true) ∧ Below w.heap.size w w' := by
  have c1 := fput_ok none 0 0 [] w ht (by omega) Reads.none_ (by intro z h; cases h)
  have c2 := fun w' => size_in 0 w' (by omega) (by omega)
  have hpre : ∃ l, frm smZ [] = [181, 0, 0, 0] ++ l := ⟨smZ (fhd []), rfl⟩
  obtain ⟨l, hl⟩ := hpre
  have HL := Lib.hid hl
  have C2 := Lib.hid c2
  clear hl c2
  go_enter Tryd.func24, Tryd.ntmps24
  go_wp2_with fail
  refine c1.mono ?_
  rintro e w1 ⟨A, c, rfl, hr, hb, hcap, _⟩
  simp only [List.length_nil, Nat.add_zero] at hcap
  have hf := hr.first (k := 4) (by simp)
  rw [HL.out] at hf
  have ef : (nums .u8 ([181, 0, 0, 0] ++ l)).take (4 * 1) = nums .u8 [181, 0, 0, 0] := rfl
  rw [ef] at hf
  have kc := hf.conv (P := Tryd.prog) (c := c) (src := 22) (dst := 9) Tryd.underlying22 Tryd.underlying5 Tryd.underlying9
  have HB := Lib.hid hb
  have hstr : (strOfNums [181, 0, 0, 0]).toList = [181, 0, 0, 0] := by rw [Lib.toList_data]; rfl
  clear hb hf hr ef
  go_wp2_with fail
  refine (C2.out _).mono ?_
  rintro e w' ⟨rfl, rfl⟩
  go_wp2
  go_ret
  exact ⟨rfl, HB.out⟩
set_option maxRecDepth 100000 in
set_option maxHeartbeats 1000000 in
theorem law_FramePuts (w : World) (ht : Tab w) (A0 : Option Addr) (n0 c0 : Nat) (xs0 : List (Nm .u8)) (hn0 : n0 ≤ c0) (hc0 : c0 ≤ maxLen) (hA0 : A0 = none → c0 = 0) (hl0 : LiesSlice w w.heap.size A0 n0 xs0) (A1 : Option Addr) (n1 c1 : Nat) (xs1 : List (Nm .u8)) (hn1 : n1 ≤ c1) (hc1 : c1 ≤ maxLen) (hA1 : A1 = none → c1 = 0) (hl1 : LiesSlice w w.heap.size A1 n1 xs1) (x2 : Nm .i64) :
    Calls Tryd.prog 8 #[.slice A0 n0 c0, .slice A1 n1 c1, .int .i64 x2.z] w fun e w' => e = .returned (.bool true) ∧ Below w.heap.size w w' := by
  unfold maxLen at hc0 hc1
  have hr0 := hl0.reads
  have hz0 := zsOf_u8 xs0
  have hr1 := hl1.reads
  have hz1 := zsOf_u8 xs1
  have hx2 := x2.i64
  generalize x2.z = q at hx2
  generalize zsOf xs0 = zs at hr0 hz0
  generalize zsOf xs1 = ms at hr1 hz1
  have c5 := awake09 w ht
  have HR0 := Lib.hid hr0
  have HZ0 := Lib.hid hz0
  have HR1 := Lib.hid hr1
  have HZ1 := Lib.hid hz1
  have HL0 : Hid (zs.length = n0) := Lib.hid (by simpa [nums_length] using hr0.1)
  have HL1 : Hid (ms.length = n1) := Lib.hid (by simpa [nums_length] using hr1.1)
  have HT := Lib.hid ht
  clear hr0 hz0 hr1 hz1 hl0 hl1 ht
  by_cases hm : 300 < n1
  · go_enter Tryd.func8, Tryd.ntmps8
    go_wp2_with fail
    refine c5.mono ?_
    rintro e w' ⟨rfl, hb⟩
    go_wp2
    go_ret
    exact ⟨rfl, hb⟩
  by_cases hb3 : 3000 < n0 ∧ n0 ≤ 60000
  · obtain ⟨h3, h6⟩ := hb3
    go_enter Tryd.func8, Tryd.ntmps8
    go_wp2_with fail
    refine c5.mono ?_
    rintro e w' ⟨rfl, hb⟩
    go_wp2
    go_ret
    exact ⟨rfl, hb⟩
  have C5 := Lib.hid c5
  clear c5
  have hs2 := Lib.hid (size_any q w)
  obtain ⟨bq, hbq⟩ : ∃ bq : Bool, decide (0 ≤ q ∧ q ≤ 60000) = bq := ⟨_, rfl⟩
  have HBQ := Lib.hid hbq
  have hsz : Hid (szZ q = if bq then q + 8 else 0) := Lib.hid (by rw [← hbq]; unfold szZ; simp)
  clear hbq
  by_cases h3 : 3000 < n0
  · have h6 : 60000 < n0 := by omega
    clear hb3
    go_enter Tryd.func8, Tryd.ntmps8
    go_upto_region 4 with fail
    go_cut [32] (fun t wx => t = .bool bq ∧ w = wx)
    case first =>
      by_cases q0 : 0 ≤ q
      · go_wp2_with fail
        go_meet
        have hb := HBQ.out
        exact ⟨by rw [← hb]; simp [q0], rfl⟩
      · go_wp2_with fail
        go_meet
        have hb := HBQ.out
        exact ⟨by rw [← hb, decide_eq_false (by omega)], rfl⟩
    case rest =>
      obtain ⟨rfl, rfl⟩ := hcut
      go_upto_if 32 with fail
      go_cut [7] (fun v wx => v = .int .i64 (szZ q) ∧ w = wx)
      case first =>
        cases bq
        · go_wp2_with fail
          go_meet
          exact ⟨by rw [hsz.out]; rfl, rfl⟩
        · have hb := HBQ.out
          simp only [decide_eq_true_eq] at hb
          obtain ⟨q0, q1⟩ := hb
          go_wp2_with fail
          go_meet
          exact ⟨by rw [hsz.out]; rfl, rfl⟩
      case rest =>
        obtain ⟨rfl, rfl⟩ := hcut
        have hs3 := hs2.out
        generalize szZ q = sq at hs3
        go_wp2_with fail
        refine hs3.mono ?_
        rintro e w' ⟨rfl, rfl⟩
        go_wp2_with fail
        refine (fput_long A0 n0 c0 _ h6 (by omega)).mono ?_
        rintro e w' ⟨rfl, rfl⟩
        go_wp2_with fail
        refine C5.out.mono ?_
        rintro e w' ⟨rfl, hb⟩
        go_wp2
        go_ret
        exact ⟨rfl, hb⟩
  · clear hb3
    go_enter Tryd.func8, Tryd.ntmps8
    go_upto_region 4 with fail
    go_cut [32] (fun t wx => t = .bool bq ∧ w = wx)
    case first =>
      by_cases q0 : 0 ≤ q
      · go_wp2_with fail
        go_meet
        have hb := HBQ.out
        exact ⟨by rw [← hb]; simp [q0], rfl⟩
      · go_wp2_with fail
        go_meet
        have hb := HBQ.out
        exact ⟨by rw [← hb, decide_eq_false (by omega)], rfl⟩
    case rest =>
      obtain ⟨rfl, rfl⟩ := hcut
      go_upto_if 32 with fail
      go_cut [7] (fun v wx => v = .int .i64 (szZ q) ∧ w = wx)
      case first =>
        cases bq
        · go_wp2_with fail
          go_meet
          exact ⟨by rw [hsz.out]; rfl, rfl⟩
        · have hb := HBQ.out
          simp only [decide_eq_true_eq] at hb
          obtain ⟨q0, q1⟩ := hb
          go_wp2_with fail
          go_meet
          exact ⟨by rw [hsz.out]; rfl, rfl⟩
      case rest =>
        obtain ⟨rfl, rfl⟩ := hcut
        have hs3 := hs2.out
        generalize szZ q = sq at hs3
        clear hx2 hsz HBQ
        go_wp2_with fail
        refine hs3.mono ?_
        rintro e w' ⟨rfl, rfl⟩
        clear hs3 hs2
        go_wp2_with fail
        refine (fput_ok A0 n0 c0 zs _ HT.out (by omega) HR0.out HZ0.out).mono ?_
        rintro e w1 ⟨A2, c2, rfl, hr2, hb2, hcap, hcm⟩
        unfold maxLen at hcm
        have hw1 := hb2.size
        have HB2 := Lib.hid hb2
        have HR2 := Lib.hid hr2
        clear hb2 hr2
        go_upto_region 11 with fail
        go_cut [66] (fun t wx => t = .bool false ∧ Below w1.heap.size w1 wx)
        case first =>
          have hd2 : Reads w1.drew w1.drew.heap.size 1 A2 (8 + zs.length) (nums .u8 (frm smZ zs)) := HR2.out.drew
          have k2 := hd2.conv (P := Tryd.prog) (c := c2) (src := 22) (dst := 9) Tryd.underlying22 Tryd.underlying5 Tryd.underlying9
          clear hd2 C5 HR1 HZ1 HL1 hcm hcap hn1 hc1 hA1
          go_region_with (go_at_call 27; refine (frefput_any A0 n0 c0 zs _ (by omega) (((HR0.out.below HB2.out).more hw1).drew) HZ0.out).mono ?_; rintro e w2 ⟨A3, c3, rfl, ho3, hb3⟩; have k3 := (own_reads ho3).conv (P := Tryd.prog) (c := c3) (src := 22) (dst := 9) Tryd.underlying22 Tryd.underlying5 Tryd.underlying9; have k4 := (HR2.out.drew.below hb3).conv (P := Tryd.prog) (c := c2) (src := 22) (dst := 9) Tryd.underlying22 Tryd.underlying5 Tryd.underlying9; have hb4 := Lib.hid (((Below.refl _ _).drew : Below w1.heap.size w1 w1.drew).trans hb3); clear ho3 hb3)
          all_goals
            go_wp2_with fail
            go_meet
            exact ⟨rfl, (by assumption : Hid (Below w1.heap.size w1 _)).out⟩
        case rest =>
          obtain ⟨rfl, hbr⟩ := hcut
          have hbw := HB2.out.trans (hbr.mono hw1)
          have hsr := hbw.size
          have hrA := (HR2.out.below hbr).more hbr.size
          have HT2 := HT.out.below hbw (Nat.le_refl _)
          have hrm := (HR1.out.below hbw).more hsr
          have hrb := (HR0.out.below hbw).more hsr
          have HBW := Lib.hid hbw
          have HRB := Lib.hid hrb
          have HRM := Lib.hid hrm
          have HTC := Lib.hid HT2
          clear hbr hbw hrb hrm HT2 HT HR2 HR1 HR0 HB2 hw1 hcap
          go_wp2_with (at_builtin; refine wpl_bytes rfl (.tmp 68) (.tmp 69) rfl wc.heap.size _ 0 [] rfl ?o1 wc.heap.size A2 (8 + zs.length) c2 (frm smZ zs) rfl ?r1 ?c1 ?c2 ?_)
          case o1 => exact own_empty _ _ _ _ rfl (Nat.le_refl _)
          case r1 => exact hrA.alloc (Nat.le_refl _) _
          case c1 => rw [HL0.out]; omega
          case c2 => simp
          intro A3 c3 w3 hown3 hgr3 hb3 hor3
          try simp only [Nat.zero_add, List.nil_append] at hown3
          have hbA : Below wc.heap.size wc w3 := ((Below.refl _ _).alloc (Nat.le_refl _) _).trans hb3
          have hs3 := hbA.size
          have HBA := Lib.hid hbA
          have hrm3 := HRM.out.below hbA
          clear hgr3 hor3 hb3 hbA hrA
          go_wp2_with (at_builtin; refine wpl_bytes rfl (.tmp 70) (.tmp 71) rfl wc.heap.size _ (8 + zs.length) (frm smZ zs) rfl hown3 wc.heap.size A1 n1 c1 ms rfl hrm3 ?c3 ?c4 ?_)
          case c3 => rw [HL0.out]; omega
          case c4 => exact hs3
          intro A4 c4 w4 hown4 hgr4 hb4 hor4
          have hbB := HBA.out.trans hb4
          have hs4 := hbB.size
          have hfb : ∀ z ∈ frm smZ zs, 0 ≤ z ∧ z < 256 := frm_bytes zs HZ0.out
          have hgb := gB_frm smZ smZ_length zs ms (by rw [HL0.out]; omega)
          have hge := (gE_frm smZ smZ_length zs ms (by rw [HL0.out]; omega)).2
          have cg := fget_any A4 (8 + zs.length + n1) c4 (frm smZ zs ++ ms) w4 (HTC.out.below hbB (Nat.le_refl _)) (own_reads hown4) (fun z h => (List.mem_append.mp h).elim (hfb z) (HZ1.out z)) (own_bd hown4).1 (by have := (own_bd hown4).2; unfold maxLen at this; omega)
          unfold FGet at cg
          rw [hgb.1, hgb.2, hge] at cg
          have HBB := Lib.hid hbB
          clear hown4 hgr4 hb4 hor4 hown3 hbB hfb hgb hge hrm3
          go_wp2_with fail
          refine cg.mono ?_
          rintro e w5 ⟨A5, c5, rfl, hr5, hb5⟩
          have hb6 := HBB.out.trans (hb5.mono hs4)
          have hb7 := HBW.out.trans (hb6.mono hsr)
          have k5 := hr5.conv (P := Tryd.prog) (c := c5) (src := 22) (dst := 9) Tryd.underlying22 Tryd.underlying5 Tryd.underlying9
          have k6 := (HRB.out.below hb6).conv (P := Tryd.prog) (c := c0) (src := 22) (dst := 9) Tryd.underlying22 Tryd.underlying5 Tryd.underlying9
          have ca := awake09 w5 (HTC.out.below hb6 (Nat.le_refl _))
          have hs7 := hb7.size
          have HB7 := Lib.hid hb7
          clear hr5 hb5 hb6 hb7
          go_wp2_with fail
          refine ca.mono ?_
          rintro e w' ⟨rfl, hb⟩
          go_wp2
          go_ret
          exact ⟨rfl, HB7.out.trans (hb.mono hs7)⟩
end Go.Proofs.YtfgkbghagklacaaDoor
