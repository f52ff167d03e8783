/-
  The law FilterNorms, walked.
-/
import Derived.Test.YtmnlaekcojblkaaWNrmG
import Derived.Test.YtmnlaekcojblkaaWLight
import Derived.Test.YtmnlaekcojblkaaWQryD
namespace Go.Proofs.Ytmnlaekcojblkaa
set_option maxRecDepth 100000
open Go.RowKit H
open Nrm (nrm)
set_option linter.unusedVariables false
/-- what is in plain form may be -/
theorem nrm_ok {s : Sch} {f r : Fis} (K : FOk s f) (hl : r.l.length = r.n) (hn : ∀ x, x ∈ r.l → x.l.length = x.n) (hsl : s.ds.length = s.nd) (hk : r.l.map Fi.key = nrm (f.l.map Fi.key) 0 (szs s s.nd)) : fcode s r = 0 := by
  have G := Sch.good K.c
  have hnd := G.1
  refine fcode_ok K.c ?_ fun x hx => ?_
  · have h1 := congrArg List.length hk
    rw [List.length_map] at h1
    have h2 := Nrm.nrm_len (f.l.map Fi.key) (szs s s.nd) 0
    rw [szs_len] at h2
    omega
  · have hm : x.key ∈ nrm (f.l.map Fi.key) 0 (szs s s.nd) := by rw [← hk]; exact List.mem_map_of_mem hx
    obtain ⟨k, hk1, e, hlt⟩ := (Nrm.nrm_mem _ _ _ _).1 hm
    rw [szs_len] at hk1
    rw [Nat.zero_add, szs_at s hk1] at e hlt
    have e1 : x.d = (k : Int) := congrArg Prod.fst e
    have e2 : x.l = Nrm.sel (szN s k) (Nrm.kp (f.l.map Fi.key) k) := congrArg Prod.snd e
    have hbd := szB_at (mono_b (szB_s s.ds) (by omega : k + 1 ≤ s.nd) G.2)
    have hzn : ((szN s k : Nat) : Int) = (s.ds.getD k d0).2 := by unfold szN; omega
    have hxn := hn x hx
    rw [← e2] at hlt
    refine fE_0 (by omega) (by omega) fun i hi => ?_
    unfold cOk
    rw [e1, Int.toNat_natCast, ← hzn]
    have hmem : x.l.getD i 0 ∈ x.l := by
      rw [List.getD, List.getElem?_eq_getElem (by omega)]
      exact List.getElem_mem _
    have := Nrm.mem_sel.1 (e2 ▸ hmem : x.l.getD i 0 ∈ Nrm.sel (szN s k) (Nrm.kp (f.l.map Fi.key) k))
    exact this.1
theorem law_FilterNorms (w : World) (vs0 : List Value) (a0 : (List ((Str) × (Nm .i64))) × (List (Str)) × (List (Str)) × (List (Nm .u32))) (hl0 : Lay.lies w w.heap.size vs0 a0) (A1 : Option Addr) (n1 c1 : Nat) (xs1 : List ((Nm .i64) × (List (Nm .i64)))) (hn1 : n1 ≤ c1) (hc1 : c1 ≤ maxLen) (hA1 : A1 = none → c1 = 0) (hl1 : LiesSlice w w.heap.size A1 n1 xs1) :
    Calls Try.prog 11 #[.agg vs0.toArray, .slice A1 n1 c1] w fun e w' => e = .returned (.bool true) ∧ Below w.heap.size w w' := by
  obtain ⟨s, rfl, hH⟩ := sch_of hl0
  obtain ⟨l, hf⟩ := fis_of (c := c1) hl1 (Nat.le_trans hn1 hc1)
  obtain ⟨f, hfe⟩ : ∃ f, f = Fis.mk A1 n1 c1 l := ⟨_, rfl⟩
  rw [← hfe] at hf
  rw [show Value.slice A1 n1 c1 = f.val by rw [hfe]]
  clear hfe
  refine enter Try.func11 rfl (by kernel_rfl) ?_
  refine J.seq ?_
  refine J.region ?_
  -- box
  refine L.boxA (l := [_, _, _, _]) rfl rfl ?_
  intro b1 w1 hb1 hs1 hk1 he1
  refine L.va rfl (X.assign (by conv => lhs; whnf)) ?_
  refine L.nil ?_
  refine J.seq ?_
  refine J.seq ?_
  refine J.region ?_
  refine L.va rfl ((by first | exact X.loadAgg rfl (range_l hk1) Try.underlying70 rfl (by kernel_rfl) | exact X.loadAgg rfl (range_blk hk1) Try.underlying70 rfl (by kernel_rfl))) ?_
  -- callfn bushel/bushelref11.Light
  refine L.call rfl en_50 rfl ((hH.ext he1).light) ?_
  rintro e w3 ⟨l1, rfl, hl1', he3⟩
  refine ⟨_, rfl, ?_⟩
  have he3 : Ext w1 w3 := he3
  have he03 := he1.trans he3
  replace hk1 := hk1.ext he3
  refine L.va rfl (X.not rfl) ?_
  refine L.va rfl (X.move (by conv => lhs; whnf)) ?_
  -- case t13
  cases l1
  · refine L.caseBT (k := 13) rfl (by rfl) ?_
    refine L.no rfl ?_
    refine L.no rfl ?_
    refine L.no rfl ?_
    refine L.va rfl (X.pickT rfl (by conv => lhs; whnf)) ?_
    refine L.nil ?_
    -- cond
    refine J.iteT rfl ?_
    refine J.seq ?_
    refine J.region ?_
    -- callfn bushel/bushellaw28.awake
    refine L.call rfl en_52 rfl (awake28 _) ?_
    rintro e w4 ⟨rfl, he4⟩
    refine ⟨_, rfl, ?_⟩
    refine L.va rfl (X.assign (by conv => lhs; whnf)) ?_
    refine L.nil ?_
    -- ret
    refine J.ret ?_
    refine thn_ret <| ?_
    refine fin1 ?_
    exact ⟨rfl, he03.trans he4⟩
  · refine L.caseBF (k := 13) rfl (by rfl) ?_
    refine L.va rfl (X.move (by conv => lhs; whnf)) ?_
    -- callfn bushel/bushelref28.Light
    refine L.call rfl en_51 rfl (light28 f w3 ((hf.ext he03).more he03.le)) ?_
    rintro e _ ⟨⟨l2, rfl⟩, rfl⟩
    refine ⟨_, rfl, ?_⟩
    refine L.va rfl (X.not rfl) ?_
    refine L.va rfl (X.pickF rfl (by conv => lhs; whnf)) ?_
    refine L.nil ?_
    -- cond
    cases l2
    · refine J.iteT rfl ?_
      refine J.seq ?_
      refine J.region ?_
      -- callfn bushel/bushellaw28.awake
      refine L.call rfl en_52 rfl (awake28 _) ?_
      rintro e w5 ⟨rfl, he5⟩
      refine ⟨_, rfl, ?_⟩
      refine L.va rfl (X.assign (by conv => lhs; whnf)) ?_
      refine L.nil ?_
      -- ret
      refine J.ret ?_
      refine thn_ret <| ?_
      refine fin1 ?_
      exact ⟨rfl, he03.trans he5⟩
    · have H3 := (hH.ext he03).here (hl1' rfl)
      have f3 := (hf.ext he03).more he03.le
      have hsl := H3.len
      refine J.iteF rfl ?_
      refine J.skip ?_
      refine J.seq ?_
      refine J.region ?_
      refine L.va rfl ((by first | exact X.loadAgg rfl (range_l hk1) Try.underlying70 rfl (by kernel_rfl) | exact X.loadAgg rfl (range_blk hk1) Try.underlying70 rfl (by kernel_rfl))) ?_
      refine L.va rfl (X.move (by conv => lhs; whnf)) ?_
      -- callfn bushel/filter.Norm
      by_cases hc : fcode s f = 0
      · have K := fok hf.l hc
        refine L.call rfl en_53 rfl (fnorm_ok H3 f3 hc) ?_
        rintro e w4 ⟨r, rfl, hr, hrk, he4⟩
        refine ⟨_, rfl, ?_⟩
        have he34 := he4
        have he04 := he03.trans he4
        have f4 := (f3.ext he4).more he4.le
        have H4 := H3.ext he4
        have hrc : fcode s r = 0 := nrm_ok K hr.l (fun x hx => (hr.at.h x hx).len) hsl hrk
        replace hk1 := hk1.ext he4
        refine L.va rfl (X.move (by conv => lhs; whnf)) ?_
        refine L.va rfl (X.extract rfl rfl) ?_
        refine L.va rfl (X.extract rfl rfl) ?_
        refine L.va rfl (X.assign (by conv => lhs; whnf)) ?_
        refine L.va rfl (X.assign (by conv => lhs; whnf)) ?_
        refine L.nil ?_
        refine J.seq ?_
        refine J.seq ?_
        refine J.region ?_
        refine L.va rfl ((by first | exact X.loadAgg rfl (range_l hk1) Try.underlying70 rfl (by kernel_rfl) | exact X.loadAgg rfl (range_blk hk1) Try.underlying70 rfl (by kernel_rfl))) ?_
        refine L.va rfl (X.move (by conv => lhs; whnf)) ?_
        -- callfn bushel/filter.Check
        refine L.call rfl en_54 rfl (fcheck H4 f4) ?_
        rintro e w5 ⟨rfl, he5⟩
        refine ⟨_, rfl, ?_⟩
        rw [hc]
        have he05 := he04.trans he5
        have f5 := (f4.ext he5).more he5.le
        have H5 := H4.ext he5
        have r5 := (hr.at.ext he5).more he5.le
        replace hk1 := hk1.ext he5
        refine L.va rfl (X.move (by conv => lhs; whnf)) ?_
        refine L.va rfl (X.neq rfl rfl) ?_
        refine L.va rfl (X.move (by conv => lhs; whnf)) ?_
        -- case t30
        refine L.caseNdecF (k := 30) rfl (by rfl) ?_
        refine L.va rfl (X.move (by conv => lhs; whnf)) ?_
        -- callfn bushel/filter.Need
        refine L.call rfl en_55 rfl (fneed_ f w5 f5) ?_
        rintro e w6 ⟨rfl, he6⟩
        refine ⟨_, rfl, ?_⟩
        have f6 := (f5.ext he6).more he6.le
        have H6 := H5.ext he6
        have r6 := (r5.ext he6).more he6.le
        have he06 := he05.trans he6
        replace hk1 := hk1.ext he6
        refine L.va rfl (X.move (by conv => lhs; whnf)) ?_
        -- callfn bushel/bushelref28.Need
        refine L.call rfl en_56 rfl (rfneed_ f w6 f6) ?_
        rintro e _ ⟨rfl, rfl⟩
        refine ⟨_, rfl, ?_⟩
        refine L.va rfl (X.neq rfl rfl) ?_
        refine L.va rfl (X.pickF rfl (by conv => lhs; whnf)) ?_
        refine L.nil ?_
        -- cond
        refine J.ndecF rfl (by omega) ?_
        refine J.skip ?_
        refine J.seq ?_
        refine J.seq ?_
        refine J.region ?_
        refine L.va rfl ((by first | exact X.loadAgg rfl (range_l hk1) Try.underlying70 rfl (by kernel_rfl) | exact X.loadAgg rfl (range_blk hk1) Try.underlying70 rfl (by kernel_rfl))) ?_
        refine L.va rfl (X.move (by conv => lhs; whnf)) ?_
        -- callfn bushel/bushelref28.Check
        refine L.call rfl en_57 rfl (rfcheck H6 f6) ?_
        rintro e w7 ⟨rfl, he7⟩
        refine ⟨_, rfl, ?_⟩
        rw [hc]
        have f7 := (f6.ext he7).more he7.le
        have H7 := H6.ext he7
        have r7 := (r6.ext he7).more he7.le
        have he07 := he06.trans he7
        replace hk1 := hk1.ext he7
        refine L.va rfl (X.assign (by conv => lhs; whnf)) ?_
        refine L.nil ?_
        refine J.seq ?_
        refine J.region ?_
        refine L.va rfl (X.move (by conv => lhs; whnf)) ?_
        refine L.va rfl (X.neq rfl rfl) ?_
        refine L.nil ?_
        -- cond
        refine J.iteF rfl ?_
        refine J.skip ?_
        refine J.seq ?_
        refine J.region ?_
        refine L.va rfl ((by first | exact X.loadAgg rfl (range_l hk1) Try.underlying70 rfl (by kernel_rfl) | exact X.loadAgg rfl (range_blk hk1) Try.underlying70 rfl (by kernel_rfl))) ?_
        refine L.va rfl (X.move (by conv => lhs; whnf)) ?_
        -- callfn bushel/filter.Norm
        refine L.call rfl en_53 rfl (fnorm_ok H7 r7 hrc) ?_
        rintro e w8 ⟨r2, rfl, hr2, hrk2, he8⟩
        refine ⟨_, rfl, ?_⟩
        have f8 := (f7.ext he8).more he8.le
        have H8 := H7.ext he8
        have r8 := (r7.ext he8).more he8.le
        have he08 := he07.trans he8
        have hrr : r2.l.map Fi.key = r.l.map Fi.key := by rw [hrk2, hrk, Nrm.nrm_nrm]
        replace hk1 := hk1.ext he8
        refine L.va rfl (X.move (by conv => lhs; whnf)) ?_
        refine L.va rfl (X.extract rfl rfl) ?_
        refine L.va rfl (X.extract rfl rfl) ?_
        refine L.va rfl (X.assign (by conv => lhs; whnf)) ?_
        refine L.va rfl (X.assign (by conv => lhs; whnf)) ?_
        refine L.nil ?_
        refine J.seq ?_
        refine J.region ?_
        refine L.va rfl (X.move (by conv => lhs; whnf)) ?_
        refine L.va rfl (X.eql rfl rfl) ?_
        refine L.va rfl (X.move (by conv => lhs; whnf)) ?_
        -- case t61
        refine L.caseDecT (k := 61) rfl (by rfl) ?_
        refine L.va rfl (X.move (by conv => lhs; whnf)) ?_
        refine L.va rfl ((by first | exact X.loadAgg rfl (range_l hk1) Try.underlying70 rfl (by kernel_rfl) | exact X.loadAgg rfl (range_blk hk1) Try.underlying70 rfl (by kernel_rfl))) ?_
        refine L.va rfl (X.move (by conv => lhs; whnf)) ?_
        -- callfn bushel/bushelref28.Norm
        refine L.call rfl en_59 rfl (rnorm28 H8 f8 K.c) ?_
        rintro e w9 ⟨r3, rfl, hr3, hrk3, he9⟩
        refine ⟨_, rfl, ?_⟩
        have r9 := (r8.ext he9).more he9.le
        have he09 := he08.trans he9
        have hr29 := (hr2.at.ext he9).more he9.le
        -- callfn bushel/bushelref28.Same
        refine L.call rfl en_58 rfl (rsame28 r9 hr3.at) ?_
        rintro e wa ⟨rfl, hea⟩
        refine ⟨_, rfl, ?_⟩
        rw [hrk3, hrk]
        have ra := (r9.ext hea).more hea.le
        have hr2a := (hr29.ext hea).more hea.le
        have he0a := he09.trans hea
        refine L.va rfl (X.pickT rfl (by conv => lhs; whnf)) ?_
        refine L.va rfl (X.move (by conv => lhs; whnf)) ?_
        -- case t68
        refine L.caseBT (k := 68) rfl (by exact decide_eq_true rfl) ?_
        refine L.va rfl (X.move (by conv => lhs; whnf)) ?_
        refine L.va rfl (X.eql rfl rfl) ?_
        refine L.va rfl (X.pickT rfl (by conv => lhs; whnf)) ?_
        refine L.va rfl (X.move (by conv => lhs; whnf)) ?_
        -- case t72
        refine L.caseDecT (k := 72) rfl (by rfl) ?_
        refine L.va rfl (X.move (by conv => lhs; whnf)) ?_
        refine L.va rfl (X.move (by conv => lhs; whnf)) ?_
        -- callfn bushel/bushelref28.Same
        refine L.call rfl en_58 rfl (rsame28 ra hr2a) ?_
        rintro e wb ⟨rfl, heb⟩
        refine ⟨_, rfl, ?_⟩
        rw [hrr]
        refine L.va rfl (X.pickT rfl (by conv => lhs; whnf)) ?_
        refine L.va rfl (X.move (by conv => lhs; whnf)) ?_
        -- case t77
        refine L.caseBT (k := 77) rfl (by exact decide_eq_true rfl) ?_
        -- callfn bushel/bushellaw28.awake
        refine L.call rfl en_52 rfl (awake28 _) ?_
        rintro e wc ⟨rfl, hec⟩
        refine ⟨_, rfl, ?_⟩
        refine L.va rfl (X.pickT rfl (by conv => lhs; whnf)) ?_
        refine L.va rfl (X.assign (by conv => lhs; whnf)) ?_
        refine L.nil ?_
        -- ret
        refine J.ret ?_
        refine fin1 ?_
        exact ⟨rfl, (he0a.trans heb).trans hec⟩
      · refine L.call rfl en_53 rfl (fnorm_no H3 f3 hc) ?_
        rintro e w4 ⟨rfl, he4⟩
        refine ⟨_, rfl, ?_⟩
        have he04 := he03.trans he4
        have f4 := (f3.ext he4).more he4.le
        have H4 := H3.ext he4
        replace hk1 := hk1.ext he4
        refine L.va rfl (X.move (by conv => lhs; whnf)) ?_
        refine L.va rfl (X.extract rfl rfl) ?_
        refine L.va rfl (X.extract rfl rfl) ?_
        refine L.va rfl (X.assign (by conv => lhs; whnf)) ?_
        refine L.va rfl (X.assign (by conv => lhs; whnf)) ?_
        refine L.nil ?_
        refine J.seq ?_
        refine J.seq ?_
        refine J.region ?_
        refine L.va rfl ((by first | exact X.loadAgg rfl (range_l hk1) Try.underlying70 rfl (by kernel_rfl) | exact X.loadAgg rfl (range_blk hk1) Try.underlying70 rfl (by kernel_rfl))) ?_
        refine L.va rfl (X.move (by conv => lhs; whnf)) ?_
        -- callfn bushel/filter.Check
        refine L.call rfl en_54 rfl (fcheck H4 f4) ?_
        rintro e w5 ⟨rfl, he5⟩
        refine ⟨_, rfl, ?_⟩
        have he05 := he04.trans he5
        have f5 := (f4.ext he5).more he5.le
        have H5 := H4.ext he5
        replace hk1 := hk1.ext he5
        refine L.va rfl (X.move (by conv => lhs; whnf)) ?_
        refine L.va rfl (X.neq rfl rfl) ?_
        refine L.va rfl (X.move (by conv => lhs; whnf)) ?_
        -- case t30
        refine L.caseNdecF (k := 30) rfl (by rfl) ?_
        refine L.va rfl (X.move (by conv => lhs; whnf)) ?_
        -- callfn bushel/filter.Need
        refine L.call rfl en_55 rfl (fneed_ f w5 f5) ?_
        rintro e w6 ⟨rfl, he6⟩
        refine ⟨_, rfl, ?_⟩
        have f6 := (f5.ext he6).more he6.le
        have H6 := H5.ext he6
        have he06 := he05.trans he6
        replace hk1 := hk1.ext he6
        refine L.va rfl (X.move (by conv => lhs; whnf)) ?_
        -- callfn bushel/bushelref28.Need
        refine L.call rfl en_56 rfl (rfneed_ f w6 f6) ?_
        rintro e _ ⟨rfl, rfl⟩
        refine ⟨_, rfl, ?_⟩
        refine L.va rfl (X.neq rfl rfl) ?_
        refine L.va rfl (X.pickF rfl (by conv => lhs; whnf)) ?_
        refine L.nil ?_
        -- cond
        refine J.ndecF rfl (by omega) ?_
        refine J.skip ?_
        refine J.seq ?_
        refine J.seq ?_
        refine J.region ?_
        refine L.va rfl ((by first | exact X.loadAgg rfl (range_l hk1) Try.underlying70 rfl (by kernel_rfl) | exact X.loadAgg rfl (range_blk hk1) Try.underlying70 rfl (by kernel_rfl))) ?_
        refine L.va rfl (X.move (by conv => lhs; whnf)) ?_
        -- callfn bushel/bushelref28.Check
        refine L.call rfl en_57 rfl (rfcheck H6 f6) ?_
        rintro e w7 ⟨rfl, he7⟩
        refine ⟨_, rfl, ?_⟩
        have he07 := he06.trans he7
        refine L.va rfl (X.assign (by conv => lhs; whnf)) ?_
        refine L.nil ?_
        refine J.seq ?_
        refine J.region ?_
        refine L.va rfl (X.move (by conv => lhs; whnf)) ?_
        refine L.va rfl (X.neq rfl rfl) ?_
        refine L.nil ?_
        -- cond
        refine J.ndecT rfl (by exact hc) ?_
        refine J.seq ?_
        refine J.region ?_
        refine L.va rfl (X.move (by conv => lhs; whnf)) ?_
        refine L.va rfl (X.len rfl Try.underlying71) ?_
        refine L.va rfl (X.eql rfl rfl) ?_
        refine L.va rfl (X.move (by conv => lhs; whnf)) ?_
        -- case t45
        refine L.caseDecT (k := 45) rfl (by rfl) ?_
        refine L.va rfl (X.move (by conv => lhs; whnf)) ?_
        refine L.va rfl (X.move (by conv => lhs; whnf)) ?_
        refine L.va rfl (X.eql rfl rfl) ?_
        refine L.va rfl (X.pickT rfl (by conv => lhs; whnf)) ?_
        refine L.va rfl (X.move (by conv => lhs; whnf)) ?_
        -- case t50
        refine L.caseDecT (k := 50) rfl (by rfl) ?_
        -- callfn bushel/bushellaw28.awake
        refine L.call rfl en_52 rfl (awake28 _) ?_
        rintro e wc ⟨rfl, hec⟩
        refine ⟨_, rfl, ?_⟩
        refine L.va rfl (X.pickT rfl (by conv => lhs; whnf)) ?_
        refine L.va rfl (X.assign (by conv => lhs; whnf)) ?_
        refine L.nil ?_
        -- ret
        refine J.ret ?_
        refine thn_ret <| ?_
        refine fin1 ?_
        exact ⟨rfl, he07.trans hec⟩
end Go.Proofs.Ytmnlaekcojblkaa
