/-
  The reference's Get of manifests, walked.
-/
import Derived.Test.YtlohbkcedpkjaaaDoorWManE
import Derived.Test.YtlohbkcedpkjaaaDoorWRdP
namespace Go.Proofs.YtlohbkcedpkjaaaDoor
set_option maxRecDepth 100000
open Go.RowKit H
open Byts Cod Seal
set_option linter.unusedVariables false
namespace Man
theorem rget_ (A : Option Addr) (n c : Nat) (zs : List Int) (w : World) (hr : Reads w w.heap.size 1 A n (nums .u8 zs)) (hz : ∀ z ∈ zs, 0 ≤ z ∧ z < 256) (hnc : n ≤ c) (hc0 : c ≤ 9223372036854775807) :
    Calls Tryd.prog 11 #[.slice A n c] w (MGet zs w) := by
  refine enter Tryd.func11 rfl (by kernel_rfl) ?_
  refine J.seq ?_
  refine J.region ?_
  -- alloc
  refine L.alloc rfl zr_30 ?_
  intro b2 w2 hb2 hs2 hk2 he2
  have z2 := he2.le
  refine L.va rfl (X.assign (by conv => lhs; whnf)) ?_
  refine L.nil ?_
  refine J.seq ?_
  refine J.region ?_
  refine L.va rfl (X.move (by conv => lhs; whnf)) ?_
  -- callfn bushel/bushelref20.Get
  refine L.call rfl en_31 rfl (srefget_anyC A n c zs w2 ((hr.ext he2).here (by decide)) hz hnc hc0) ?_
  rintro e w3 ⟨A3, c3, rfl, hr3, he3, hc3⟩
  refine ⟨_, rfl, ?_⟩
  have he3 : Ext w2 w3 := he3
  have he03 := he2.trans he3
  have hk3 := hk2.ext he3
  have z3 := he3.le
  refine L.va rfl (X.move (by conv => lhs; whnf)) ?_
  refine L.va rfl (X.extract rfl rfl) ?_
  refine L.va rfl (X.extract rfl rfl) ?_
  -- alloc
  refine L.alloc rfl zr_25 ?_
  intro b4 w4 hb4 hs4 hk4 he4
  -- store
  refine L.storeAgg (vs := [_, _, _, _]) rfl rfl rfl rfl sz_25 (hk4) rfl ?_
  intro w5 hk5 hg5 hs5
  have he5 : Ext w3 w5 := he4.grw hg5 (by intro g hg; injection hg with hg; omega)
  have hk5 : Blk w5 b4 25 #[.int .i64 (sK smZ zs), .int .u64 (sA smZ zs), .int .u64 (sB smZ zs), .slice A3 (sV smZ zs).length c3] := hk5
  have he05 := he03.trans he5
  have hk35 := hk3.ext he5
  have hr5 := hr3.ext he5
  refine L.va rfl (X.assign (by conv => lhs; whnf)) ?_
  refine L.nil ?_
  refine J.seq ?_
  refine J.seq ?_
  refine J.region ?_
  refine L.va rfl (X.move (by conv => lhs; whnf)) ?_
  refine L.va rfl (X.neq rfl rfl) ?_
  refine L.nil ?_
  -- cond
  refine J.ndec rfl (fun h1 => ?_) (fun h1 => ?_)
  · refine J.seq ?_
    refine J.region ?_
    refine L.va rfl (X.build (l := [_, _, _, _, _]) Evs.nil (bld_run Tryd.underlying30 (bp_30 Tryd.underlying30) zr_30 rfl)) ?_
    refine L.va rfl (X.move (by conv => lhs; whnf)) ?_
    -- store
    refine L.storeAgg (vs := [_, _, _, _, _]) rfl rfl rfl rfl sz_30 (hk35) rfl ?_
    intro w6 hk6 hg6 hs6
    refine L.va rfl (X.assign (by conv => lhs; whnf)) ?_
    refine L.nil ?_
    -- ret
    refine J.ret ?_
    refine thn_ret <| ?_
    -- results [['ResultVar.cell', 2, 30], ['ResultVar.tmp', 3]]
    refine finCT rfl (run_cell hk6 Tryd.underlying30 rfl (by kernel_rfl)) ?_
    exact MGet_bad (by unfold mg; rw [if_pos h1]) (he05.grw hg6 (by intro g hg; injection hg with hg; omega))
  refine J.skip ?_
  refine J.seq ?_
  refine J.seq ?_
  refine J.region ?_
  refine L.va rfl (X.fieldAddr rfl Tryd.underlying25 rfl sz_3 (by decide)) ?_
  refine L.va rfl (X.load rfl sc_3 (by first | exact Ld.blk hk5 rfl | exact Ld.blk hk35 rfl)) ?_
  refine L.va rfl (X.neq rfl rfl) ?_
  refine L.nil ?_
  -- cond
  refine J.ndec rfl (fun h2 => ?_) (fun h2 => ?_)
  · refine J.seq ?_
    refine J.region ?_
    refine L.va rfl (X.build (l := [_, _, _, _, _]) Evs.nil (bld_run Tryd.underlying30 (bp_30 Tryd.underlying30) zr_30 rfl)) ?_
    -- store
    refine L.storeAgg (vs := [_, _, _, _, _]) rfl rfl rfl rfl sz_30 (hk35) rfl ?_
    intro w6 hk6 hg6 hs6
    refine L.va rfl (X.assign (by conv => lhs; whnf)) ?_
    refine L.nil ?_
    -- ret
    refine J.ret ?_
    refine thn_ret <| ?_
    -- results [['ResultVar.cell', 2, 30], ['ResultVar.tmp', 3]]
    refine finCT rfl (run_cell hk6 Tryd.underlying30 rfl (by kernel_rfl)) ?_
    exact MGet_bad (by unfold mg; rw [if_neg (fun hh => hh h1), if_pos h2]) (he05.grw hg6 (by intro g hg; injection hg with hg; omega))
  refine J.skip ?_
  refine J.seq ?_
  refine J.region ?_
  refine L.va rfl (X.fieldAddr rfl Tryd.underlying25 rfl sz_23 (by decide)) ?_
  refine L.va rfl (X.load rfl sc_23 (by first | exact Ld.blk hk5 rfl | exact Ld.blk hk35 rfl)) ?_
  refine L.va rfl (X.build (l := [_, _, _]) (Evs.cons (by conv => lhs; whnf) Evs.nil) (bld_run Tryd.underlying73 (bp_73 Tryd.underlying73) zr_73 rfl)) ?_
  -- box
  have h2' : sK smZ zs = 2 := h2
  obtain ⟨v, hv⟩ : ∃ v, v = sV smZ zs := ⟨_, rfl⟩
  rw [← hv] at hr5 hk5 hc3
  have hvl : v.length ≤ 65535 := by rw [hv]; exact sV_len hz
  have hz' : ∀ z ∈ v, 0 ≤ z ∧ z < 256 := by rw [hv]; exact sV_bytes smZ zs hz
  refine L.boxA (l := [_, _, _]) rfl rfl ?_
  intro b w6 hb6 hs6 hk6 he6
  have hI6 : RdB w6 b A3 v.length c3 v (0, 0) := ⟨by rw [hv]; exact hk6, (hr5.more (by omega)).ext he6, hc3, hz', by omega, Nat.zero_le _, Int.le_refl _, by decide⟩
  have he06 := he05.trans he6
  have hk46 := hk5.ext he6
  have hk36 := hk35.ext he6
  have z5 := he05.le
  have z6 := he06.le
  have zb4 := hk5.lt
  have zb2 := hk35.lt
  have z35 := he5.le
  refine L.va rfl (X.assign (by conv => lhs; whnf)) ?_
  refine L.nil ?_
  refine J.seq ?_
  refine J.region ?_
  refine L.va rfl (X.fieldAddr rfl Tryd.underlying25 rfl sz_22 (by decide)) ?_
  refine L.va rfl (X.load rfl sc_22 (by first | exact Ld.blk hk46 rfl | exact Ld.blk hk36 rfl)) ?_
  refine L.va rfl (X.fieldAddr rfl Tryd.underlying25 rfl sz_22 (by decide)) ?_
  refine L.va rfl (X.load rfl sc_22 (by first | exact Ld.blk hk46 rfl | exact Ld.blk hk36 rfl)) ?_
  refine L.va rfl (X.build (l := [_, _, _, _, _]) (Evs.cons (by conv => lhs; whnf) (Evs.cons (by conv => lhs; whnf) Evs.nil)) (bld_run Tryd.underlying30 (bp_30 Tryd.underlying30) zr_30 rfl)) ?_
  -- alloc
  refine L.alloc rfl zr_30 ?_
  intro b7 w7 hb7 hs7 hk7 he7
  replace hk46 := hk46.ext he7
  replace hk36 := hk36.ext he7
  have hI7 := hI6.ext he7
  -- store
  refine L.storeAgg (vs := [_, _, _, _, _]) rfl rfl rfl rfl sz_30 (hk7) rfl ?_
  intro w8 hk8 hg8 hs8
  have he68 : Ext w6 w8 := he7.grw hg8 (by intro g hg; injection hg with hg; omega)
  have hk8 : Blk w8 b7 30 #[.int .u64 (sA smZ zs), .int .u64 (sB smZ zs), .int .u64 0, .int .i64 0, .slice none 0 0] := hk8
  have hI8 := hI6.ext he68
  have hk38 := hk36.grown hg8 (by intro e; injection e with e; omega)
  have bd1 := bd_fit hz'
  have bl6 := hI6.hk.lt
  refine L.nil ?_
  refine J.seq ?_
  refine J.region ?_
  refine L.va rfl (X.move (by conv => lhs; whnf)) ?_
  -- callfn (*bushel/bushelref11.Reader).U
  refine L.call rfl en_32 rfl (hI8.rU 18446744073709551615 (by decide)) ?_
  rintro e wa ⟨rfl, hIa, hca⟩
  refine ⟨_, rfl, ?_⟩
  have hka := hca.blk hk8 (by omega)
  have hka2 := hca.blk hk38 (by omega)
  have za := hca.size
  refine L.va rfl (X.fieldAddr rfl Tryd.underlying30 rfl sz_22 (by decide)) ?_
  -- store
  refine L.store rfl rfl (by conv => lhs; whnf) rfl sz_22 (hka) (by first | decide | exact Nat.le_of_ble_eq_true rfl) ?_
  intro wb hkb hgb hsb
  have hkb : Blk wb b7 30 #[.int .u64 (sA smZ zs), .int .u64 (sB smZ zs), .int .u64 (bd v).1.1, .int .i64 0, .slice none 0 0] := hkb
  have hIb := hIa.below (Below.grown (Below.refl (b + 1) _) hgb (by omega) (by intro g hg; injection hg with hg; omega))
  have hkb2 := hka2.grown hgb (by intro e; injection e with e; omega)
  refine L.nil ?_
  refine J.seq ?_
  refine J.region ?_
  refine L.va rfl (X.move (by conv => lhs; whnf)) ?_
  -- callfn (*bushel/bushelref11.Reader).U
  refine L.call rfl en_32 rfl (hIb.rU 8192 (by decide)) ?_
  rintro e wc ⟨rfl, hIc, hcc⟩
  refine ⟨_, rfl, ?_⟩
  have hkc := hcc.blk hkb (by omega)
  have hkc2 := hcc.blk hkb2 (by omega)
  have zc := hcc.size
  have hb8 : 0 ≤ (rdU v 8192 (rdU v 18446744073709551615 (0, 0)).2).1 ∧ (rdU v 8192 (rdU v 18446744073709551615 (0, 0)).2).1 ≤ 8192 := bd1.2.1.2
  refine L.va rfl ((by first | exact X.convI rfl is_22 Tryd.underlying3 (by omega) | exact X.convw rfl is_22 Tryd.underlying3)) ?_
  refine L.va rfl (X.fieldAddr rfl Tryd.underlying30 rfl sz_3 (by decide)) ?_
  -- store
  refine L.store rfl rfl (by conv => lhs; whnf) rfl sz_3 (hkc) (by first | decide | exact Nat.le_of_ble_eq_true rfl) ?_
  intro wd hkd hgd hsd
  have hkd : Blk wd b7 30 #[.int .u64 (sA smZ zs), .int .u64 (sB smZ zs), .int .u64 (bd v).1.1, .int .i64 (bd v).2.1.1, .slice none 0 0] := hkd
  have hId := hIc.below (Below.grown (Below.refl (b + 1) _) hgd (by omega) (by intro g hg; injection hg with hg; omega))
  have hkd2 := hkc2.grown hgd (by intro e; injection e with e; omega)
  refine L.nil ?_
  refine J.seq ?_
  refine J.region ?_
  refine L.va rfl (X.move (by conv => lhs; whnf)) ?_
  -- callfn (*bushel/bushelref11.Reader).U
  refine L.call rfl en_32 rfl (hId.rU 16 (by decide)) ?_
  rintro e we ⟨rfl, hIe, hce⟩
  refine ⟨_, rfl, ?_⟩
  have hke := hce.blk hkd (by omega)
  have hke2 := hce.blk hkd2 (by omega)
  have ze := hce.size
  obtain ⟨k0, hk0⟩ : ∃ k : Nat, (bd v).2.2.1 = (k : Int) := ⟨(bd v).2.2.1.toNat, by omega⟩
  have e16 : (rdU v 16 (rdU v 8192 (rdU v 18446744073709551615 (0, 0)).2).2).1 = (k0 : Int) := hk0
  have er : rs v = rdR v k0 (bd v).2.2.2 := by unfold rs; rw [hk0, Int.toNat_natCast]
  rw [e16]
  have hr0 : we.ownsRow (b + 1) 59 2 (.slice none 0 0) 0 [] := own_nil _ _ _ _
  have be : Below b w6 we := ((((Below.mono he68 (by omega)).trans (hca.below (by omega) (fun g hg => by omega))).grown hgb (by omega) (by intro g hg; injection hg with hg; omega)).trans (hcc.below (by omega) (fun g hg => by omega)) |>.grown hgd (by omega) (by intro g hg; injection hg with hg; omega)).trans (hce.below (by omega) (fun g hg => by omega))
  have hxe : Ext w we := he06.low be (by omega)
  have zxe := hxe.le
  refine L.va rfl ((by first | exact X.convI rfl is_22 Tryd.underlying3 (by omega) | exact X.convw rfl is_22 Tryd.underlying3)) ?_
  refine L.va rfl (X.assign (by conv => lhs; whnf)) ?_
  refine L.nil ?_
  refine J.seq ?_
  refine J.seq ?_
  refine J.region ?_
  refine L.va rfl (X.assign (by conv => lhs; whnf)) ?_
  refine L.nil ?_
  refine J.block ?_
  -- loop
  refine J.loop (X := Nat) [9, 10, 43, 44, 45, 46, 47, 48, 49, 50, 51, 52, 53, 54, 55, 56, 57, 58, 59, 60] (fun i => [(9, .int .i64 (i : Int))]) (fun i w' => i ≤ k0 ∧ RdB w' b A3 v.length c3 v (rdR v i (bd v).2.2.2).2 ∧ (∃ A c, Blk w' b7 30 #[.int .u64 (sA smZ zs), .int .u64 (sB smZ zs), .int .u64 (bd v).1.1, .int .i64 (bd v).2.1.1, .slice A i c] ∧ w'.ownsRow (b + 1) 59 2 (.slice A i c) i ((rdR v i (bd v).2.2.2).1.flatMap rV)) ∧ Below b we w') (fun i => k0 - i) (0) (At1 (by first | rfl | exact at_int rfl (by omega) | exact at_slice rfl (by omega) | exact at_int rfl (by simp))) ?_ ?_
  · exact ⟨Nat.zero_le _, hIe, ⟨none, 0, hke, hr0⟩, Below.refl _ _⟩
  · rintro i g w9 ⟨hi, hI9, ⟨A9, c9, hk9, ho9⟩, hc9⟩
    have hk29 := hke2.low hc9 (by omega)
    have z9 := hc9.size
    have bl9 := hI9.hk.lt
    have b79 := hk9.lt
    refine J.seq ?_
    refine J.seq ?_
    refine J.region ?_
    refine L.va rfl (X.move (by conv => lhs; whnf)) ?_
    refine L.va rfl (X.move (by conv => lhs; whnf)) ?_
    refine L.va rfl (X.lss rfl rfl) ?_
    refine L.nil ?_
    -- cond
    refine J.dec rfl (fun hlt => ?_) (fun hlt => ?_)
    · have f0 := hI9.hf
      have f1 := rdU_fit hz' 8192 (by decide) f0
      have f2 := rdU_fit hz' 2147483647 (by decide) f1.1
      refine J.skip ?_
      refine J.seq ?_
      refine J.block ?_
      refine J.seq ?_
      refine J.region ?_
      refine L.va rfl (X.move (by conv => lhs; whnf)) ?_
      -- callfn (*bushel/bushelref11.Reader).U
      refine L.call rfl en_32 rfl (hI9.rU 8192 (by decide)) ?_
      rintro e wf ⟨rfl, hIf, hcf⟩
      refine ⟨_, rfl, ?_⟩
      have hkf := hcf.blk hk9 (by omega)
      have hkf2 := hcf.blk hk29 (by omega)
      have hof := hcf.own ho9 (fun g hg e => own_blkne ho9 hI9.hk (by decide) (e ▸ hg))
      have zf := hcf.size
      refine L.va rfl ((by first | exact X.convI rfl is_22 Tryd.underlying3 (by omega) | exact X.convw rfl is_22 Tryd.underlying3)) ?_
      refine L.va rfl (X.assign (by conv => lhs; whnf)) ?_
      refine L.nil ?_
      -- draw
      refine J.draw (ℓ := 10) (S := (fun w' => Blk w' b7 30 #[.int .u64 (sA smZ zs), .int .u64 (sB smZ zs), .int .u64 (bd v).1.1, .int .i64 (bd v).2.1.1, .slice A9 i c9])) mixed (fun wg hSE hS_h => ?_)
      have hS : ((fun w' => Blk w' b7 30 #[.int .u64 (sA smZ zs), .int .u64 (sB smZ zs), .int .u64 (bd v).1.1, .int .i64 (bd v).2.1.1, .slice A9 i c9])) wg := hkf.ext hSE
      -- t52
      have hIg := hIf.ext hSE
      have hog := hof.ext hSE
      have zg := hSE.le
      refine D.va 0 rfl (by kernel_rfl) (fun _ _ _ h => h) rfl (fun w' hw => X.fieldAddr rfl Tryd.underlying30 rfl sz_28 (by decide)) hS ?_
      refine D.va 1 rfl (by kernel_rfl) (fun _ _ _ h => h) rfl (fun w' hw => X.load rfl sc_28 (Ld.blk hw rfl)) hS ?_
      refine D.va 2 rfl (by kernel_rfl) (fun _ _ _ h => h) rfl (fun w' hw => X.move (by conv => lhs; whnf)) hS ?_
      refine D.va 3 rfl (by kernel_rfl) (fun _ _ _ h => h) rfl (fun w' hw => X.move (by conv => lhs; whnf)) hS ?_
      -- callfn (*bushel/bushelref11.Reader).U
      refine D.one 4 (by kernel_rfl) rfl ?_
      refine L.call rfl en_32 rfl (hIg.rU 2147483647 (by decide)) ?_
      rintro e wh ⟨rfl, hIh, hch⟩
      refine ⟨_, rfl, ?_⟩
      have hS1 := hch.blk hS (by omega)
      refine L.nil ?_
      refine ⟨fun _ => hS1, ?_⟩
      have zh := hch.size
      have hoh := hch.own hog (fun g hg e => own_blkne hog hIg.hk (by decide) (e ▸ hg))
      refine D.va 5 rfl (by kernel_rfl) (fun _ _ _ h => h) rfl (fun w' hw => (by first | exact X.convI rfl is_22 Tryd.underlying3 (by omega) | exact X.convw rfl is_22 Tryd.underlying3)) hS1 ?_
      refine D.va 6 rfl (by kernel_rfl) (fun _ _ _ h => h) rfl (fun w' hw => X.build (l := [_, _]) (Evs.cons (by conv => lhs; whnf) (Evs.cons (by conv => lhs; whnf) Evs.nil)) (bld_run Tryd.underlying59 (bp_59 Tryd.underlying59) zr_59 rfl)) hS1 ?_
      -- buildSlice
      refine D.one 7 (by kernel_rfl) rfl ?_
      refine L.bslice1 (l := [_, _]) rfl rfl rfl Tryd.underlying28 sz_59 zr_59 rfl ?_
      intro bi wi hbi hsi hki hei
      have hS2 := hS1.ext hei
      refine L.nil ?_
      refine ⟨fun _ => hS2, ?_⟩
      have hoi := hoh.ext hei
      have zi := hei.le
      -- append
      refine D.one 8 (by kernel_rfl) rfl ?_
      refine L.appendV (q := i + 1) (ys := _) rfl rfl rfl Tryd.underlying28 el_59 (hoi) (blk_readsN (sz := 2) (q := 1) (l := rV ((rdU v 8192 (rdR v i (bd v).2.2.2).2).1, (rdU v 2147483647 (rdU v 8192 (rdR v i (bd v).2.2.2).2).2).1)) hki hki.lt rfl) (by first | rfl | exact strs_ones _ | assumption) (by omega) rfl (by unfold maxLen; omega) (by omega) ?_
      intro Aj cj wj hoj hgj hbj horj
      have hS3 := hS2.grown hgj (fun e ↦ own_blkne hoi hS2 (by decide) e.symm)
      refine L.nil ?_
      refine ⟨fun _ => hS3, ?_⟩
      have zj := hbj.size
      have ezr : (rdR v (i + 1) (bd v).2.2.2).1.flatMap rV = (rdR v i (bd v).2.2.2).1.flatMap rV ++ rV ((rdU v 8192 (rdR v i (bd v).2.2.2).2).1, (rdU v 2147483647 (rdU v 8192 (rdR v i (bd v).2.2.2).2).2).1) := by show (_ ++ [_]).flatMap rV = _; rw [List.flatMap_append, List.flatMap_singleton]
      rw [← ezr] at hoj
      refine D.va 9 rfl (by kernel_rfl) (fun _ _ _ h => h) rfl (fun w' hw => X.fieldAddr rfl Tryd.underlying30 rfl sz_28 (by decide)) hS3 ?_
      -- store
      refine D.one 10 (by kernel_rfl) rfl ?_
      refine L.store rfl rfl (by conv => lhs; whnf) rfl sz_28 (hS3) (by first | decide | exact Nat.le_of_ble_eq_true rfl) ?_
      intro wk hkk hgk hsk
      refine L.nil ?_
      refine ⟨fun h => absurd rfl h, ?_⟩
      have hkk : Blk wk b7 30 #[.int .u64 (sA smZ zs), .int .u64 (sB smZ zs), .int .u64 (bd v).1.1, .int .i64 (bd v).2.1.1, .slice Aj (i + 1) cj] := hkk
      refine D.done (by kernel_rfl) ?_
      refine J.region ?_
      refine L.va rfl (X.move (by conv => lhs; whnf)) ?_
      refine L.va rfl (X.add rfl rfl (by omega)) ?_
      refine L.va rfl (X.assign (by conv => lhs; whnf)) ?_
      refine L.nil ?_
      -- loopend
      refine ⟨i + 1, At1 (by first | rfl | exact at_int rfl (by omega) | exact at_slice rfl (by omega) | exact at_int rfl (by simp)), (by (iterate 20 refine Agr.lk rfl ?_); exact Agr.lk rfl (Agr.hav rfl Agr.rfl')), ?_⟩
      have y1 : Below (b + 1) wh wj := (Below.mono hei (by omega)).trans hbj
      have y2 : Below (b + 1) wh wk := Below.grown y1 hgk (by omega) (by intro g hg; injection hg with hg; omega)
      have y3 : Below b w9 wh := ((hcf.below (by omega) (fun g hg => by omega)).trans (Below.mono hSE (by omega))).trans (hch.below (by omega) (fun g hg => by omega))
      exact ⟨⟨by omega, hIh.below y2, ⟨Aj, cj, hkk, hoj.kept hgk (.inr (fun e => own_blkne hoj hS3 (by decide) e))⟩, (hc9.trans y3).trans (y2.mono (by omega))⟩, by omega⟩
    · obtain rfl : i = k0 := by omega
      rw [← er] at hI9 ho9
      refine J.exit ?_
      refine J.seq ?_
      refine J.seq ?_
      refine J.region ?_
      refine L.va rfl (X.move (by conv => lhs; whnf)) ?_
      -- callfn (*bushel/bushelref11.Reader).End
      refine L.call rfl en_33 rfl (hI9.End) ?_
      rintro e wf ⟨rfl, hIf, hcf⟩
      refine ⟨_, rfl, ?_⟩
      have hkf := hcf.blk hk9 (by omega)
      have hkf2 := hcf.blk hk29 (by omega)
      have hof := hcf.own ho9 (fun g hg e => own_blkne ho9 hI9.hk (by decide) (e ▸ hg))
      have hxf : Ext w wf := (hxe.low hc9 (by omega)).low (hcf.below (B := b) (by omega) (fun g hg => by omega)) (by omega)
      have hrl : i = (rs v).1.length := by rw [er, rdR_length]
      subst hrl
      have hrf := Reads.of_own hof
      have hif := hIf.hk
      refine L.va rfl (X.neq rfl rfl) ?_
      refine L.nil ?_
      -- cond
      refine J.ndec rfl (fun h3 => ?_) (fun h3 => ?_)
      · refine J.seq ?_
        -- draw
        refine J.draw (ℓ := 1000000) (S := (fun w' => Blk w' b 73 #[.slice A3 v.length c3, .int .i64 ((rs v).2.1 : Int), .int .i64 (rdE v (rs v).2)])) mixed (fun wg hSE hS_h => ?_)
        have hS : ((fun w' => Blk w' b 73 #[.slice A3 v.length c3, .int .i64 ((rs v).2.1 : Int), .int .i64 (rdE v (rs v).2)])) wg := hif.ext hSE
        -- t68
        refine D.va 0 rfl (by kernel_rfl) (fun _ _ _ h => h) rfl (fun w' hw => X.build (l := [_, _, _, _, _]) Evs.nil (bld_run Tryd.underlying30 (bp_30 Tryd.underlying30) zr_30 rfl)) hS ?_
        refine D.va 1 rfl (by kernel_rfl) (fun _ _ _ h => h) rfl (fun w' hw => X.move (by conv => lhs; whnf)) hS ?_
        refine D.va 2 rfl (by kernel_rfl) (fun _ _ _ h => h) rfl (fun w' hw => X.nilCheck rfl) hS ?_
        refine D.va 3 rfl (by kernel_rfl) (fun _ _ _ h => h) rfl (fun w' hw => X.fieldAddr rfl Tryd.underlying73 rfl sz_3 (by decide)) hS ?_
        refine D.va 4 rfl (by kernel_rfl) (fun _ _ _ h => h) rfl (fun w' hw => X.load rfl sc_3 (Ld.blk hw rfl)) hS ?_
        -- store
        refine D.one 5 (by kernel_rfl) rfl ?_
        refine L.storeAgg (vs := [_, _, _, _, _]) rfl rfl rfl rfl sz_30 (hkf2.ext hSE) rfl ?_
        intro wh hkh hgh hsh
        have hS1 := hS.grown hgh (by intro e; injection e with e; omega)
        refine L.nil ?_
        refine ⟨fun _ => hS1, ?_⟩
        refine D.va 6 rfl (by kernel_rfl) (fun _ _ _ h => h) rfl (fun w' hw => X.assign (by conv => lhs; whnf)) hS1 ?_
        refine D.done (by kernel_rfl) ?_
        -- ret
        refine J.ret ?_
        refine thn_ret <| ?_
        -- results [['ResultVar.cell', 2, 30], ['ResultVar.tmp', 3]]
        refine finCT rfl (run_cell hkh Tryd.underlying30 rfl (by kernel_rfl)) ?_
        exact MGet_bad (by unfold mg; rw [if_neg (fun hh => hh h1), if_neg (fun hh => hh h2'), ← hv, if_pos h3]) ((hxf.trans hSE).grw hgh (by intro g hg; injection hg with hg; omega))
      refine J.skip ?_
      refine J.seq ?_
      refine J.seq ?_
      refine J.region ?_
      refine L.va rfl ((by first | exact X.loadAgg rfl (range_l hkf) Tryd.underlying30 rfl (by kernel_rfl) | exact X.loadAgg rfl (range_blk hkf) Tryd.underlying30 rfl (by kernel_rfl) | exact X.loadAgg rfl (range_l hkf2) Tryd.underlying30 rfl (by kernel_rfl) | exact X.loadAgg rfl (range_blk hkf2) Tryd.underlying30 rfl (by kernel_rfl) | exact X.loadAgg rfl (range_l hif) Tryd.underlying30 rfl (by kernel_rfl) | exact X.loadAgg rfl (range_blk hif) Tryd.underlying30 rfl (by kernel_rfl))) ?_
      -- callfn bushel/bushelref23.May
      refine L.call rfl en_13 rfl (rmay_ ⟨sA smZ zs, sB smZ zs, (bd v).1.1, (bd v).2.1.1, (rs v).1⟩ A9 c9 hrf (Nat.le_refl _) (sA_bd smZ hz).1 (by show (rs v).1.length ≤ _; omega)) ?_
      rintro e wg ⟨rfl, heg⟩
      refine ⟨_, rfl, ?_⟩
      have hkg := hkf.ext heg
      have hkg2 := hkf2.ext heg
      refine L.va rfl (X.not rfl) ?_
      refine L.nil ?_
      -- cond
      by_cases h4 : may ⟨sA smZ zs, sB smZ zs, (bd v).1.1, (bd v).2.1.1, (rs v).1⟩
      · rw [decide_eq_true h4]
        refine J.iteF rfl ?_
        refine J.skip ?_
        refine J.seq ?_
        refine J.region ?_
        refine L.va rfl ((by first | exact X.loadAgg rfl (range_l hkg) Tryd.underlying30 rfl (by kernel_rfl) | exact X.loadAgg rfl (range_blk hkg) Tryd.underlying30 rfl (by kernel_rfl) | exact X.loadAgg rfl (range_l hkg2) Tryd.underlying30 rfl (by kernel_rfl) | exact X.loadAgg rfl (range_blk hkg2) Tryd.underlying30 rfl (by kernel_rfl))) ?_
        -- store
        refine L.storeAgg (vs := [_, _, _, _, _]) rfl rfl rfl rfl sz_30 (hkg2) rfl ?_
        intro wh hkh hgh hsh
        refine L.va rfl (X.assign (by conv => lhs; whnf)) ?_
        refine L.nil ?_
        -- ret
        refine J.ret ?_
        -- results [['ResultVar.cell', 2, 30], ['ResultVar.tmp', 3]]
        refine finCT rfl (run_cell hkh Tryd.underlying30 rfl (by kernel_rfl)) ?_
        have em : mg smZ zs = (⟨sA smZ zs, sB smZ zs, (bd v).1.1, (bd v).2.1.1, (rs v).1⟩, 0) := by unfold mg; rw [if_neg (fun hh => hh h1), if_neg (fun hh => hh h2'), ← hv, if_neg (fun hh => hh h3), if_neg (fun hh => hh h4)]
        refine ⟨A9, c9, by rw [em]; rfl, ?_, (hxf.trans heg).grw hgh (by intro g hg; injection hg with hg; omega)⟩
        rw [em]
        exact ((hof.ext heg).kept hgh (.inr (fun e => by have := hof.lt _ e; omega))).mono (by omega)
      · rw [decide_eq_false h4]
        refine J.iteT rfl ?_
        refine J.seq ?_
        refine J.region ?_
        refine L.va rfl (X.build (l := [_, _, _, _, _]) Evs.nil (bld_run Tryd.underlying30 (bp_30 Tryd.underlying30) zr_30 rfl)) ?_
        -- store
        refine L.storeAgg (vs := [_, _, _, _, _]) rfl rfl rfl rfl sz_30 (hkg2) rfl ?_
        intro wh hkh hgh hsh
        refine L.va rfl (X.assign (by conv => lhs; whnf)) ?_
        refine L.nil ?_
        -- ret
        refine J.ret ?_
        refine thn_ret <| ?_
        -- results [['ResultVar.cell', 2, 30], ['ResultVar.tmp', 3]]
        refine finCT rfl (run_cell hkh Tryd.underlying30 rfl (by kernel_rfl)) ?_
        exact MGet_bad (by unfold mg; rw [if_neg (fun hh => hh h1), if_neg (fun hh => hh h2'), ← hv, if_neg (fun hh => hh h3), if_pos h4]) ((hxf.trans heg).grw hgh (by intro g hg; injection hg with hg; omega))
end Man
end Go.Proofs.YtlohbkcedpkjaaaDoor
