/-
  The law ManifestGets, walked.
-/
import Derived.Test.YtlohbkcedpkjaaaDoorWManH
namespace Go.Proofs.YtlohbkcedpkjaaaDoor
set_option maxRecDepth 100000
open Go.RowKit H
open Byts Cod Seal
open Man
set_option linter.unusedVariables false
theorem sheet4m {w : World} {B : Nat} {vs : List Value} {x : Nm .i64 × Nm .u64 × Nm .u64 × List (Nm .u8)} (h : Lay.lies w B vs x) :
    ∃ A n c, vs = [.int .i64 x.1.z, .int .u64 x.2.1.z, .int .u64 x.2.2.1.z, .slice A n c] ∧ n ≤ c ∧ c ≤ maxLen ∧ Reads w B 1 A n (nums .u8 (zsOf x.2.2.2)) := by
  obtain ⟨us, ws, rfl, h1, us2, ws2, rfl, h2, us3, ws3, rfl, h3, A, n, c, rfl, hn, hc, _, hl⟩ := h
  obtain rfl : us = [.int .i64 x.1.z] := h1
  obtain rfl : us2 = [.int .u64 x.2.1.z] := h2
  obtain rfl : us3 = [.int .u64 x.2.2.1.z] := h3
  exact ⟨A, n, c, rfl, hn, hc, hl.reads⟩
theorem secm_bytes (k a b : Int) (zs : List Int) (hk : 0 ≤ k ∧ k < 256) (hz : ∀ z ∈ zs, 0 ≤ z ∧ z < 256) : ∀ z ∈ sec k a b zs (smZ (hd k a b zs)), 0 ≤ z ∧ z < 256 := by
  intro z hzm
  unfold sec at hzm
  rw [List.mem_append] at hzm
  rcases hzm with h | h
  · exact hd_bytes _ _ _ _ hk hz z h
  · exact smZ_bytes _ z h
theorem law_ManifestGets (w : World) (ht : Tab w) (vs0 : List Value) (a0 : (Nm .i64) × (Nm .u64) × (Nm .u64) × (List (Nm .u8))) (hl0 : Lay.lies w w.heap.size vs0 a0) (A1 : Option Addr) (n1 c1 : Nat) (xs1 : List (Nm .u8)) (hn1 : n1 ≤ c1) (hc1 : c1 ≤ maxLen) (hA1 : A1 = none → c1 = 0) (hl1 : LiesSlice w w.heap.size A1 n1 xs1) :
    Calls Tryd.prog 3 #[.agg vs0.toArray, .slice A1 n1 c1] w fun e w' => e = .returned (.bool true) ∧ Below w.heap.size w w' := by
  obtain ⟨A, n, c, rfl, hn, hc, hr⟩ := sheet4m hl0
  have hz := zsOf_u8 a0.2.2.2
  have hr1 := hl1.reads
  have hz1 := zsOf_u8 xs1
  generalize zsOf a0.2.2.2 = zs at hr hz
  generalize zsOf xs1 = ys at hr1 hz1
  obtain ⟨x0, x1⟩ := a0.2.1.u64
  obtain ⟨y0, y1⟩ := a0.2.2.1.u64
  generalize a0.1.z = k
  generalize a0.2.1.z = a at x0 x1
  generalize a0.2.2.1.z = b at y0 y1
  unfold maxLen at hc hc1
  have hl : zs.length = n := by have := hr.1; simpa [nums] using this
  refine enter Tryd.func3 rfl (by kernel_rfl) ?_
  refine J.seq ?_
  refine J.region ?_
  -- box
  refine L.boxA (l := [_, _, _, _]) rfl rfl ?_
  intro b1 w1 hb1 hs1 hk1 he1
  have r1 := hr.ext he1
  have r2 := hr1.ext he1
  refine L.va rfl (X.assign (by conv => lhs; whnf)) ?_
  refine L.nil ?_
  refine J.seq ?_
  refine J.seq ?_
  refine J.region ?_
  refine L.va rfl (X.fieldAddr rfl Tryd.underlying25 rfl sz_3 (by decide)) ?_
  refine L.va rfl (X.load rfl sc_3 (by first | exact Ld.blk hk1 rfl)) ?_
  refine L.va rfl (X.lss rfl rfl) ?_
  refine L.va rfl (X.move (by conv => lhs; whnf)) ?_
  -- case t17
  refine L.caseDec (k := 17) rfl (fun h1 => ?_) (fun h1 => ?_)
  · refine L.no rfl ?_
    refine L.no rfl ?_
    refine L.no rfl ?_
    refine L.va rfl (X.pickT rfl (by conv => lhs; whnf)) ?_
    refine L.va rfl (X.move (by conv => lhs; whnf)) ?_
    refine L.no rfl ?_
    refine L.no rfl ?_
    refine L.no rfl ?_
    refine L.no rfl ?_
    refine L.va rfl (X.pickT rfl (by conv => lhs; whnf)) ?_
    refine L.va rfl (X.move (by conv => lhs; whnf)) ?_
    refine L.no rfl ?_
    refine L.no rfl ?_
    refine L.no rfl ?_
    refine L.va rfl (X.pickT rfl (by conv => lhs; whnf)) ?_
    refine L.nil ?_
    -- cond
    refine J.iteT rfl ?_
    refine J.seq ?_
    refine J.region ?_
    -- callfn bushel/bushellaw23.awake
    refine L.call rfl en_8 rfl (awake23 w1 (tab_ext ht he1)) ?_
    rintro e w3 ⟨rfl, he3⟩
    refine ⟨_, rfl, ?_⟩
    refine L.va rfl (X.assign (by conv => lhs; whnf)) ?_
    refine L.nil ?_
    -- ret
    refine J.ret ?_
    refine thn_ret <| ?_
    refine fin1 ?_
    exact ⟨rfl, he1.trans he3⟩
  refine L.va rfl (X.fieldAddr rfl Tryd.underlying25 rfl sz_3 (by decide)) ?_
  refine L.va rfl (X.load rfl sc_3 (by first | exact Ld.blk hk1 rfl)) ?_
  refine L.va rfl (X.gtr rfl rfl) ?_
  refine L.va rfl (X.pickF rfl (by conv => lhs; whnf)) ?_
  refine L.va rfl (X.move (by conv => lhs; whnf)) ?_
  -- case t22
  refine L.caseDec (k := 22) rfl (fun h2 => ?_) (fun h2 => ?_)
  · refine L.no rfl ?_
    refine L.no rfl ?_
    refine L.no rfl ?_
    refine L.no rfl ?_
    refine L.va rfl (X.pickT rfl (by conv => lhs; whnf)) ?_
    refine L.va rfl (X.move (by conv => lhs; whnf)) ?_
    refine L.no rfl ?_
    refine L.no rfl ?_
    refine L.no rfl ?_
    refine L.va rfl (X.pickT rfl (by conv => lhs; whnf)) ?_
    refine L.nil ?_
    -- cond
    refine J.iteT rfl ?_
    refine J.seq ?_
    refine J.region ?_
    -- callfn bushel/bushellaw23.awake
    refine L.call rfl en_8 rfl (awake23 w1 (tab_ext ht he1)) ?_
    rintro e w3 ⟨rfl, he3⟩
    refine ⟨_, rfl, ?_⟩
    refine L.va rfl (X.assign (by conv => lhs; whnf)) ?_
    refine L.nil ?_
    -- ret
    refine J.ret ?_
    refine thn_ret <| ?_
    refine fin1 ?_
    exact ⟨rfl, he1.trans he3⟩
  refine L.va rfl (X.fieldAddr rfl Tryd.underlying25 rfl sz_23 (by decide)) ?_
  refine L.va rfl (X.load rfl sc_23 (by first | exact Ld.blk hk1 rfl)) ?_
  refine L.va rfl (X.len rfl Tryd.underlying23) ?_
  refine L.va rfl (X.gtr rfl rfl) ?_
  refine L.va rfl (X.pickF rfl (by conv => lhs; whnf)) ?_
  refine L.va rfl (X.move (by conv => lhs; whnf)) ?_
  -- case t28
  refine L.caseDec (k := 28) rfl (fun h3 => ?_) (fun h3 => ?_)
  · refine L.no rfl ?_
    refine L.no rfl ?_
    refine L.no rfl ?_
    refine L.va rfl (X.pickT rfl (by conv => lhs; whnf)) ?_
    refine L.nil ?_
    -- cond
    refine J.iteT rfl ?_
    refine J.seq ?_
    refine J.region ?_
    -- callfn bushel/bushellaw23.awake
    refine L.call rfl en_8 rfl (awake23 w1 (tab_ext ht he1)) ?_
    rintro e w3 ⟨rfl, he3⟩
    refine ⟨_, rfl, ?_⟩
    refine L.va rfl (X.assign (by conv => lhs; whnf)) ?_
    refine L.nil ?_
    -- ret
    refine J.ret ?_
    refine thn_ret <| ?_
    refine fin1 ?_
    exact ⟨rfl, he1.trans he3⟩
  refine L.va rfl (X.move (by conv => lhs; whnf)) ?_
  refine L.va rfl (X.len rfl Tryd.underlying23) ?_
  refine L.va rfl (X.gtr rfl rfl) ?_
  refine L.va rfl (X.pickF rfl (by conv => lhs; whnf)) ?_
  refine L.nil ?_
  -- cond
  refine J.dec rfl (fun h4 => ?_) (fun h4 => ?_)
  · refine J.seq ?_
    refine J.region ?_
    -- callfn bushel/bushellaw23.awake
    refine L.call rfl en_8 rfl (awake23 w1 (tab_ext ht he1)) ?_
    rintro e w3 ⟨rfl, he3⟩
    refine ⟨_, rfl, ?_⟩
    refine L.va rfl (X.assign (by conv => lhs; whnf)) ?_
    refine L.nil ?_
    -- ret
    refine J.ret ?_
    refine thn_ret <| ?_
    refine fin1 ?_
    exact ⟨rfl, he1.trans he3⟩
  refine J.skip ?_
  refine J.seq ?_
  refine J.region ?_
  refine L.va rfl ((by first | exact X.loadAgg rfl (range_l hk1) Tryd.underlying25 rfl (by kernel_rfl) | exact X.loadAgg rfl (range_blk hk1) Tryd.underlying25 rfl (by kernel_rfl))) ?_
  -- callfn bushel/bushelref20.Put
  refine L.call rfl en_9 rfl (frefput20 k a b A n c zs w1 (by omega) (by omega) x0 x1 y0 y1 (by omega) (r1.here (by decide)) hz) ?_
  rintro e w2 ⟨A2, c2, rfl, ho2, he2⟩
  refine ⟨_, rfl, ?_⟩
  have he2 : Ext w1 w2 := he2
  have hk2 := hk1.ext he2
  have hsz := secm_bytes k a b zs (by omega) hz
  generalize sec k a b zs (smZ (hd k a b zs)) = ss at ho2 hsz
  have hcc := own_bd ho2
  unfold maxLen at hcc
  have ho := he1.trans he2
  have z2 := ho.le
  refine L.va rfl (X.assign (by conv => lhs; whnf)) ?_
  refine L.nil ?_
  refine J.seq ?_
  refine J.region ?_
  refine L.va rfl (X.move (by conv => lhs; whnf)) ?_
  -- callfn bushel/manifest.Get
  refine L.call rfl en_10 rfl (get_ A2 1024 c2 ss w2 (tab_ext ht ho) (Reads.of_own ho2) hsz hcc.1 (by omega)) ?_
  rintro e w3 ⟨A3, c3, rfl, ho3, he3⟩
  refine ⟨_, rfl, ?_⟩
  have z3 := he3.le
  refine L.va rfl (X.move (by conv => lhs; whnf)) ?_
  refine L.va rfl (X.extract rfl rfl) ?_
  refine L.va rfl (X.extract rfl rfl) ?_
  -- alloc
  refine L.alloc rfl zr_30 ?_
  intro b4 w4 hb4 hs4 hk4 he4
  -- store
  refine L.storeAgg (vs := [_, _, _, _, _]) rfl rfl rfl rfl sz_30 (hk4) rfl ?_
  intro w5 hk5 hg5 hs5
  have he35 : Ext w3 w5 := he4.grw hg5 (by intro g hg; injection hg with hg; omega)
  have he25 := he3.trans he35
  have hk5 : Blk w5 b4 30 (vs (mg smZ ss).1 A3 c3).toArray := hk5
  have z5 := he35.le
  refine L.va rfl (X.assign (by conv => lhs; whnf)) ?_
  refine L.nil ?_
  refine J.seq ?_
  refine J.region ?_
  refine L.va rfl (X.move (by conv => lhs; whnf)) ?_
  -- callfn bushel/bushelref23.Get
  refine L.call rfl en_11 rfl (rget_ A2 1024 c2 ss w5 (Reads.of_own (ho2.ext he25)) hsz hcc.1 (by omega)) ?_
  rintro e w6 ⟨A6, c6, rfl, ho6, he6⟩
  refine ⟨_, rfl, ?_⟩
  have z6 := he6.le
  have hk56 := hk5.ext he6
  have ho36 := (ho3.ext he35).ext he6
  refine L.va rfl (X.move (by conv => lhs; whnf)) ?_
  refine L.va rfl (X.extract rfl rfl) ?_
  refine L.va rfl (X.extract rfl rfl) ?_
  -- alloc
  refine L.alloc rfl zr_30 ?_
  intro b7 w7 hb7 hs7 hk7 he7
  -- store
  refine L.storeAgg (vs := [_, _, _, _, _]) rfl rfl rfl rfl sz_30 (hk7) rfl ?_
  intro w8 hk8 hg8 hs8
  have he68 : Ext w6 w8 := he7.grw hg8 (by intro g hg; injection hg with hg; omega)
  have hk8 : Blk w8 b7 30 (vs (mg smZ ss).1 A6 c6).toArray := hk8
  have hk58 := hk56.ext he68
  have ho38 := ho36.ext he68
  have ho68 := ho6.ext he68
  have he08 : Ext w w8 := (ho.trans he25).trans (he6.trans he68)
  have z8 := he68.le
  refine L.va rfl (X.assign (by conv => lhs; whnf)) ?_
  refine L.nil ?_
  refine J.seq ?_
  refine J.region ?_
  refine L.va rfl (X.move (by conv => lhs; whnf)) ?_
  -- callfn bushel/manifest.Get
  refine L.call rfl en_10 rfl (get_ A1 n1 c1 ys w8 (tab_ext ht he08) ((hr1.ext he08).here (by decide)) hz1 hn1 (by omega)) ?_
  rintro e w9 ⟨A9, c9, rfl, ho9, he9⟩
  refine ⟨_, rfl, ?_⟩
  have z9 := he9.le
  have hk59 := hk58.ext he9
  have hk89 := hk8.ext he9
  have ho39 := ho38.ext he9
  have ho69 := ho68.ext he9
  refine L.va rfl (X.move (by conv => lhs; whnf)) ?_
  refine L.va rfl (X.extract rfl rfl) ?_
  refine L.va rfl (X.extract rfl rfl) ?_
  -- alloc
  refine L.alloc rfl zr_30 ?_
  intro ba wa hba hsa hka hea
  -- store
  refine L.storeAgg (vs := [_, _, _, _, _]) rfl rfl rfl rfl sz_30 (hka) rfl ?_
  intro wb hkb hgb hsb
  have he9b : Ext w9 wb := hea.grw hgb (by intro g hg; injection hg with hg; omega)
  have hkb : Blk wb ba 30 (vs (mg smZ ys).1 A9 c9).toArray := hkb
  have he0b : Ext w wb := he08.trans (he9.trans he9b)
  have zb := he9b.le
  have hk5b := hk59.ext he9b
  have hk8b := hk89.ext he9b
  refine L.va rfl (X.assign (by conv => lhs; whnf)) ?_
  refine L.nil ?_
  refine J.seq ?_
  refine J.region ?_
  refine L.va rfl (X.move (by conv => lhs; whnf)) ?_
  -- callfn bushel/bushelref23.Get
  refine L.call rfl en_11 rfl (rget_ A1 n1 c1 ys wb ((hr1.ext he0b).here (by decide)) hz1 hn1 (by omega)) ?_
  rintro e wc ⟨Ac, cc, rfl, hoc, hec⟩
  refine ⟨_, rfl, ?_⟩
  have zc := hec.le
  refine L.va rfl (X.move (by conv => lhs; whnf)) ?_
  refine L.va rfl (X.extract rfl rfl) ?_
  refine L.va rfl (X.extract rfl rfl) ?_
  -- alloc
  refine L.alloc rfl zr_30 ?_
  intro bd wd hbd hsd hkd hed
  -- store
  refine L.storeAgg (vs := [_, _, _, _, _]) rfl rfl rfl rfl sz_30 (hkd) rfl ?_
  intro we hke hge hse
  have hece : Ext wc we := hed.grw hge (by intro g hg; injection hg with hg; omega)
  have hke : Blk we bd 30 (vs (mg smZ ys).1 Ac cc).toArray := hke
  have hebe : Ext wb we := hec.trans hece
  have he0e : Ext w we := he0b.trans hebe
  have hk5e := hk5b.ext hebe
  have hk8e := hk8b.ext hebe
  have hkbe := hkb.ext hebe
  have o3 := (ho39.ext he9b).ext hebe
  have o6 := (ho69.ext he9b).ext hebe
  have o9 := (ho9.ext he9b).ext hebe
  have oc := hoc.ext hece
  have l1 : (mg smZ ss).1.r.length ≤ 1000000 := mg_len hsz
  have l2 : (mg smZ ys).1.r.length ≤ 1000000 := mg_len hz1
  refine L.va rfl (X.assign (by conv => lhs; whnf)) ?_
  refine L.nil ?_
  refine J.seq ?_
  refine J.region ?_
  refine L.va rfl (X.move (by conv => lhs; whnf)) ?_
  refine L.va rfl (X.move (by conv => lhs; whnf)) ?_
  refine L.va rfl (X.eql rfl rfl) ?_
  refine L.va rfl (X.move (by conv => lhs; whnf)) ?_
  -- case t59
  refine L.caseDecT (k := 59) rfl (by rfl) ?_
  refine L.va rfl ((by first | exact X.loadAgg rfl (range_l hk5e) Tryd.underlying30 rfl (by kernel_rfl) | exact X.loadAgg rfl (range_blk hk5e) Tryd.underlying30 rfl (by kernel_rfl) | exact X.loadAgg rfl (range_l hk8e) Tryd.underlying30 rfl (by kernel_rfl) | exact X.loadAgg rfl (range_blk hk8e) Tryd.underlying30 rfl (by kernel_rfl) | exact X.loadAgg rfl (range_l hkbe) Tryd.underlying30 rfl (by kernel_rfl) | exact X.loadAgg rfl (range_blk hkbe) Tryd.underlying30 rfl (by kernel_rfl) | exact X.loadAgg rfl (range_l hke) Tryd.underlying30 rfl (by kernel_rfl) | exact X.loadAgg rfl (range_blk hke) Tryd.underlying30 rfl (by kernel_rfl))) ?_
  refine L.va rfl ((by first | exact X.loadAgg rfl (range_l hk5e) Tryd.underlying30 rfl (by kernel_rfl) | exact X.loadAgg rfl (range_blk hk5e) Tryd.underlying30 rfl (by kernel_rfl) | exact X.loadAgg rfl (range_l hk8e) Tryd.underlying30 rfl (by kernel_rfl) | exact X.loadAgg rfl (range_blk hk8e) Tryd.underlying30 rfl (by kernel_rfl) | exact X.loadAgg rfl (range_l hkbe) Tryd.underlying30 rfl (by kernel_rfl) | exact X.loadAgg rfl (range_blk hkbe) Tryd.underlying30 rfl (by kernel_rfl) | exact X.loadAgg rfl (range_l hke) Tryd.underlying30 rfl (by kernel_rfl) | exact X.loadAgg rfl (range_blk hke) Tryd.underlying30 rfl (by kernel_rfl))) ?_
  -- callfn bushel/bushelref23.Same
  refine L.call rfl en_12 rfl (rsame_ (Nat.le_refl _) (mg smZ ss).1 (mg smZ ss).1 A3 c3 A6 c6 (Reads.of_own o3) (Reads.of_own o6) l1 l1) ?_
  rintro e wf ⟨rfl, hef⟩
  refine ⟨_, rfl, ?_⟩
  replace hk5e := hk5e.ext hef
  replace hk8e := hk8e.ext hef
  replace hkbe := hkbe.ext hef
  replace hke := hke.ext hef
  refine L.va rfl (X.pickT rfl (by conv => lhs; whnf)) ?_
  refine L.va rfl (X.move (by conv => lhs; whnf)) ?_
  -- case t64
  refine L.caseBT (k := 64) rfl (by exact eqm_self _) ?_
  refine L.va rfl (X.move (by conv => lhs; whnf)) ?_
  refine L.va rfl (X.move (by conv => lhs; whnf)) ?_
  refine L.va rfl (X.eql rfl rfl) ?_
  refine L.va rfl (X.pickT rfl (by conv => lhs; whnf)) ?_
  refine L.va rfl (X.move (by conv => lhs; whnf)) ?_
  -- case t69
  refine L.caseDecT (k := 69) rfl (by rfl) ?_
  refine L.va rfl ((by first | exact X.loadAgg rfl (range_l hk5e) Tryd.underlying30 rfl (by kernel_rfl) | exact X.loadAgg rfl (range_blk hk5e) Tryd.underlying30 rfl (by kernel_rfl) | exact X.loadAgg rfl (range_l hk8e) Tryd.underlying30 rfl (by kernel_rfl) | exact X.loadAgg rfl (range_blk hk8e) Tryd.underlying30 rfl (by kernel_rfl) | exact X.loadAgg rfl (range_l hkbe) Tryd.underlying30 rfl (by kernel_rfl) | exact X.loadAgg rfl (range_blk hkbe) Tryd.underlying30 rfl (by kernel_rfl) | exact X.loadAgg rfl (range_l hke) Tryd.underlying30 rfl (by kernel_rfl) | exact X.loadAgg rfl (range_blk hke) Tryd.underlying30 rfl (by kernel_rfl))) ?_
  refine L.va rfl ((by first | exact X.loadAgg rfl (range_l hk5e) Tryd.underlying30 rfl (by kernel_rfl) | exact X.loadAgg rfl (range_blk hk5e) Tryd.underlying30 rfl (by kernel_rfl) | exact X.loadAgg rfl (range_l hk8e) Tryd.underlying30 rfl (by kernel_rfl) | exact X.loadAgg rfl (range_blk hk8e) Tryd.underlying30 rfl (by kernel_rfl) | exact X.loadAgg rfl (range_l hkbe) Tryd.underlying30 rfl (by kernel_rfl) | exact X.loadAgg rfl (range_blk hkbe) Tryd.underlying30 rfl (by kernel_rfl) | exact X.loadAgg rfl (range_l hke) Tryd.underlying30 rfl (by kernel_rfl) | exact X.loadAgg rfl (range_blk hke) Tryd.underlying30 rfl (by kernel_rfl))) ?_
  -- callfn bushel/bushelref23.Same
  refine L.call rfl en_12 rfl (rsame_ (Nat.le_refl _) (mg smZ ys).1 (mg smZ ys).1 A9 c9 Ac cc (Reads.of_own (o9.ext hef)) (Reads.of_own (oc.ext hef)) l2 l2) ?_
  rintro e wg ⟨rfl, heg⟩
  refine ⟨_, rfl, ?_⟩
  have hq := hef.trans heg
  refine L.va rfl (X.pickT rfl (by conv => lhs; whnf)) ?_
  refine L.va rfl (X.move (by conv => lhs; whnf)) ?_
  -- case t74
  refine L.caseBT (k := 74) rfl (by exact eqm_self _) ?_
  -- callfn bushel/bushellaw23.awake
  refine L.call rfl en_8 rfl (awake23 wg (tab_ext ht (he0e.trans hq))) ?_
  rintro e wh ⟨rfl, heh⟩
  refine ⟨_, rfl, ?_⟩
  refine L.va rfl (X.pickT rfl (by conv => lhs; whnf)) ?_
  refine L.va rfl (X.assign (by conv => lhs; whnf)) ?_
  refine L.nil ?_
  -- ret
  refine J.ret ?_
  refine fin1 ?_
  exact ⟨rfl, (he0e.trans hq).trans heh⟩
end Go.Proofs.YtlohbkcedpkjaaaDoor
