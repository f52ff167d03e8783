/-
  manifest.Get, walked.
-/
import Derived.Test.YtlohbkcedpkjaaaDoorWManA
import Derived.Test.YtlohbkcedpkjaaaDoorWBufP
import Derived.Test.YtlohbkcedpkjaaaDoorWSealI
namespace Go.Proofs.YtlohbkcedpkjaaaDoor
set_option maxRecDepth 100000
open Go.RowKit H
open Byts Cod Seal
set_option linter.unusedVariables false
theorem Blk.chg {w w' : World} {g t b : Nat} {cs : Array Value} (h : Blk w g t cs) (hc : Chg (· = b) w w') (hne : g ≠ b) : Blk w' g t cs := hc.blk h hne
theorem Chg.new {S : Nat → Prop} {w1 w2 w3 : World} {r : Option Nat} (h : Chg S w1 w2) (hg : w2.grownBy w3 r) (hr : ∀ g, r = some g → w1.heap.size ≤ g) : Chg S w1 w3 :=
  h.trans (S' := fun g => w1.heap.size ≤ g) (.of_grown hg hr) (fun g h1 h2 => absurd h1 (by omega))
theorem own_apart {w : World} {b1 b2 e1 e2 s1 s2 n1 n2 g : Nat} {v1 v2 : Value} {x1 x2 : List Value} (h1 : w.ownsRow b1 e1 s1 v1 n1 x1) (h2 : w.ownsRow b2 e2 s2 v2 n2 x2) (hne : e1 ≠ e2) (hg : v1.ownBlock = some g) : v2.ownBlock ≠ some g := by
  intro hg2
  rcases h1.2 with ⟨rfl, _⟩ | ⟨b, cap, cur, rfl, _, hh, _⟩
  · cases hg
  · rcases h2.2 with ⟨rfl, _⟩ | ⟨b', cap', cur', rfl, _, hh', _⟩
    · cases hg2
    · have a1 : b = g := by injection hg
      have a2 : b' = g := by injection hg2
      subst a1
      subst a2
      have e := hh.symm.trans hh'
      injection e with e
      injection e with _ e _
      exact hne e
namespace Man
theorem sV_len {zs : List Int} (hz : ∀ z ∈ zs, 0 ≤ z ∧ z < 256) : (sV smZ zs).length ≤ 65535 := by
  unfold sV
  split
  · rw [List.length_take]; have := (sN_bd hz); omega
  · simp
def MGet (zs : List Int) (w : World) (e : Ending) (w' : World) : Prop :=
  ∃ A c, e = .returned (.tuple #[val (mg smZ zs).1 A c, .int .i64 (mg smZ zs).2]) ∧ w'.ownsRow w.heap.size 59 2 (.slice A (mg smZ zs).1.r.length c) (mg smZ zs).1.r.length ((mg smZ zs).1.r.flatMap rV) ∧ Ext w w'
theorem MGet_bad {zs : List Int} {w w' : World} {c : Int} (h : mg smZ zs = (zm, c)) (he : Ext w w') : MGet zs w (.returned (.tuple #[.agg #[.int .u64 0, .int .u64 0, .int .u64 0, .int .i64 0, .slice none 0 0], .int .i64 c])) w' := by
  refine ⟨none, 0, by rw [h]; rfl, ?_, he⟩
  rw [h]
  exact own_nil _ _ _ _
theorem get_ (A : Option Addr) (n c : Nat) (zs : List Int) (w : World) (ht : Tab w) (hr : Reads w w.heap.size 1 A n (nums .u8 zs)) (hz : ∀ z ∈ zs, 0 ≤ z ∧ z < 256) (hnc : n ≤ c) (hc0 : c ≤ 9223372036854775807) :
    Calls Tryd.prog 10 #[.slice A n c] w (MGet zs w) := by
  refine enter Tryd.func10 rfl (by kernel_rfl) ?_
  refine J.seq ?_
  refine J.region ?_
  -- alloc
  refine L.alloc rfl zr_30 ?_
  intro b2 w2 hb2 hs2 hk2 he2
  have z2 := he2.le
  refine L.va rfl (X.assign (by conv => lhs; whnf)) ?_
  refine L.nil ?_
  refine J.seq ?_
  refine J.region ?_
  refine L.va rfl (X.move (by conv => lhs; whnf)) ?_
  -- callfn bushel/seal.Get
  refine L.call rfl en_26 rfl (sget_anyC A n c zs w2 (ht.below he2 (Nat.le_refl _)) ((hr.ext he2).here (by decide)) hz hnc hc0) ?_
  rintro e w3 ⟨A3, c3, rfl, hr3, he3, hc3⟩
  refine ⟨_, rfl, ?_⟩
  have he3 : Ext w2 w3 := he3
  have he03 := he2.trans he3
  have hk3 := hk2.ext he3
  have z3 := he3.le
  refine L.va rfl (X.move (by conv => lhs; whnf)) ?_
  refine L.va rfl (X.extract rfl rfl) ?_
  refine L.va rfl (X.extract rfl rfl) ?_
  -- alloc
  refine L.alloc rfl zr_25 ?_
  intro b4 w4 hb4 hs4 hk4 he4
  -- store
  refine L.storeAgg (vs := [_, _, _, _]) rfl rfl rfl rfl sz_25 (hk4) rfl ?_
  intro w5 hk5 hg5 hs5
  have he5 : Ext w3 w5 := he4.grw hg5 (by intro g hg; injection hg with hg; omega)
  have hk5 : Blk w5 b4 25 #[.int .i64 (sK smZ zs), .int .u64 (sA smZ zs), .int .u64 (sB smZ zs), .slice A3 (sV smZ zs).length c3] := hk5
  have he05 := he03.trans he5
  have hk35 := hk3.ext he5
  have hr5 := hr3.ext he5
  refine L.va rfl (X.assign (by conv => lhs; whnf)) ?_
  refine L.nil ?_
  refine J.seq ?_
  refine J.seq ?_
  refine J.region ?_
  refine L.va rfl (X.move (by conv => lhs; whnf)) ?_
  refine L.va rfl (X.neq rfl rfl) ?_
  refine L.nil ?_
  -- cond
  refine J.ndec rfl (fun h1 => ?_) (fun h1 => ?_)
  · refine J.seq ?_
    refine J.region ?_
    refine L.va rfl (X.build (l := [_, _, _, _, _]) Evs.nil (bld_run Tryd.underlying30 (bp_30 Tryd.underlying30) zr_30 rfl)) ?_
    refine L.va rfl (X.move (by conv => lhs; whnf)) ?_
    -- store
    refine L.storeAgg (vs := [_, _, _, _, _]) rfl rfl rfl rfl sz_30 (hk35) rfl ?_
    intro w6 hk6 hg6 hs6
    refine L.va rfl (X.assign (by conv => lhs; whnf)) ?_
    refine L.nil ?_
    -- ret
    refine J.ret ?_
    refine thn_ret <| ?_
    -- results [['ResultVar.cell', 2, 30], ['ResultVar.tmp', 3]]
    refine finCT rfl (run_cell hk6 Tryd.underlying30 rfl (by kernel_rfl)) ?_
    exact MGet_bad (by unfold mg; rw [if_pos h1]) (he05.grw hg6 (by intro g hg; injection hg with hg; omega))
  refine J.skip ?_
  refine J.seq ?_
  refine J.seq ?_
  refine J.region ?_
  refine L.va rfl (X.fieldAddr rfl Tryd.underlying25 rfl sz_3 (by decide)) ?_
  refine L.va rfl (X.load rfl sc_3 (by first | exact Ld.blk hk5 rfl | exact Ld.blk hk35 rfl)) ?_
  refine L.va rfl (X.neq rfl rfl) ?_
  refine L.nil ?_
  -- cond
  refine J.ndec rfl (fun h2 => ?_) (fun h2 => ?_)
  · refine J.seq ?_
    refine J.region ?_
    refine L.va rfl (X.build (l := [_, _, _, _, _]) Evs.nil (bld_run Tryd.underlying30 (bp_30 Tryd.underlying30) zr_30 rfl)) ?_
    -- store
    refine L.storeAgg (vs := [_, _, _, _, _]) rfl rfl rfl rfl sz_30 (hk35) rfl ?_
    intro w6 hk6 hg6 hs6
    refine L.va rfl (X.assign (by conv => lhs; whnf)) ?_
    refine L.nil ?_
    -- ret
    refine J.ret ?_
    refine thn_ret <| ?_
    -- results [['ResultVar.cell', 2, 30], ['ResultVar.tmp', 3]]
    refine finCT rfl (run_cell hk6 Tryd.underlying30 rfl (by kernel_rfl)) ?_
    exact MGet_bad (by unfold mg; rw [if_neg (fun hh => hh h1), if_pos h2]) (he05.grw hg6 (by intro g hg; injection hg with hg; omega))
  refine J.skip ?_
  refine J.seq ?_
  refine J.region ?_
  refine L.va rfl (X.fieldAddr rfl Tryd.underlying25 rfl sz_23 (by decide)) ?_
  refine L.va rfl (X.load rfl sc_23 (by first | exact Ld.blk hk5 rfl | exact Ld.blk hk35 rfl)) ?_
  -- callfn bushel/buf.NewIn
  have h2' : sK smZ zs = 2 := h2
  refine L.call rfl en_27 rfl (InB.new (hr5.here (by decide)) (sV_bytes smZ zs hz) (by have := sV_len hz; omega)) ?_
  rintro e w6 ⟨b, A6, c6, rfl, hI6, hb6, he6⟩
  refine ⟨_, rfl, ?_⟩
  have he06 := he05.trans he6
  have hk46 := hk5.ext he6
  have hk36 := hk35.ext he6
  obtain ⟨v, hv⟩ : ∃ v, v = sV smZ zs := ⟨_, rfl⟩
  rw [← hv] at hI6
  have hbt := hI6.hk.lt
  have z5 := he05.le
  have z6 := he06.le
  have z46 := hk46.lt
  have hne4 : b4 ≠ b := by have := hk5.lt; omega
  have hne2 : b2 ≠ b := by have := hk35.lt; omega
  refine L.va rfl (X.assign (by conv => lhs; whnf)) ?_
  refine L.nil ?_
  -- until
  refine J.cut (X := Nat) [7, 26, 27, 28, 29, 30, 31, 32, 33, 34, 35] (fun b7 => [(7, .pointer (some ⟨b7, 0, none⟩))]) (fun b7 w' => InB w' b A6 v.length c6 v (bd v).2.1.2 ∧ Blk w' b7 30 #[.int .u64 (sA smZ zs), .int .u64 (sB smZ zs), .int .u64 (bd v).1.1, .int .i64 (bd v).2.1.1, .slice none 0 0] ∧ w6.heap.size ≤ b7 ∧ Chg (· = b) w6 w') ?_ ?_
  · skip
    -- draw
    refine J.draw (ℓ := 1000000) (S := Chg (· = b) w6) mixed (fun w7 hSE hS_h => ?_)
    have hS : (Chg (· = b) w6) w7 := .of_ext hSE
    have hI := hI6.ext hSE
    have hb82 : 0 ≤ (rdU v 8192 (rdU v 18446744073709551615 (0, 0)).2).1 ∧ (rdU v 8192 (rdU v 18446744073709551615 (0, 0)).2).1 ≤ 8192 := (bd_fit (v := v) (by rw [hv]; exact sV_bytes smZ zs hz)).2.1.2
    refine D.va 0 rfl (by kernel_rfl) (fun _ _ _ h => h) rfl (fun w' hw => X.fieldAddr rfl Tryd.underlying25 rfl sz_22 (by decide)) hS ?_
    refine D.va 1 rfl (by kernel_rfl) (fun _ _ _ h => h) rfl (fun w' hw => X.load rfl sc_22 (by first | exact Ld.blk (hk46.chg hw (by omega)) rfl | exact Ld.blk (hk36.chg hw (by omega)) rfl)) hS ?_
    refine D.va 2 rfl (by kernel_rfl) (fun _ _ _ h => h) rfl (fun w' hw => X.fieldAddr rfl Tryd.underlying25 rfl sz_22 (by decide)) hS ?_
    refine D.va 3 rfl (by kernel_rfl) (fun _ _ _ h => h) rfl (fun w' hw => X.load rfl sc_22 (by first | exact Ld.blk (hk46.chg hw (by omega)) rfl | exact Ld.blk (hk36.chg hw (by omega)) rfl)) hS ?_
    refine D.va 4 rfl (by kernel_rfl) (fun _ _ _ h => h) rfl (fun w' hw => X.move (by conv => lhs; whnf)) hS ?_
    refine D.va 6 rfl (by kernel_rfl) (fun _ _ _ h => h) rfl (fun w' hw => X.move (by conv => lhs; whnf)) hS ?_
    refine D.two 5 10 (by kernel_rfl) rfl rfl ?_ ?_
    · refine L.call rfl en_28 rfl (hI.U 18446744073709551615 (by decide)) ?_
      rintro e wa ⟨rfl, hJ, hc⟩
      refine ⟨_, rfl, ?_⟩
      have hS1 := (hS).trans hc (fun _ _ ↦ id)
      refine L.nil ?_
      refine ⟨fun _ => hS1, ?_⟩
      try replace hk7 := hc.blk hk7 (by omega)
      have hI := hJ
      refine D.two 7 10 (by kernel_rfl) rfl rfl ?_ ?_
      · refine L.call rfl en_28 rfl (hI.U 8192 (by decide)) ?_
        rintro e wb ⟨rfl, hJ, hc⟩
        refine ⟨_, rfl, ?_⟩
        have hS2 := (hS1).trans hc (fun _ _ ↦ id)
        refine L.nil ?_
        refine ⟨fun _ => hS2, ?_⟩
        try replace hk7 := hc.blk hk7 (by omega)
        have hI := hJ
        refine D.va 8 rfl (by kernel_rfl) (fun _ _ _ h => h) rfl (fun w' hw => (by first | exact X.convI rfl is_22 Tryd.underlying3 (by omega) | exact X.convw rfl is_22 Tryd.underlying3)) hS2 ?_
        refine D.va 9 rfl (by kernel_rfl) (fun _ _ _ h => h) rfl (fun w' hw => X.build (l := [_, _, _, _, _]) (Evs.cons (by conv => lhs; whnf) (Evs.cons (by conv => lhs; whnf) (Evs.cons (by conv => lhs; whnf) (Evs.cons (by conv => lhs; whnf) Evs.nil)))) (bld_run Tryd.underlying30 (bp_30 Tryd.underlying30) zr_30 rfl)) hS2 ?_
        have q7 := (hS2).size
        refine D.one 10 (by kernel_rfl) rfl ?_
        refine L.alloc rfl zr_30 ?_
        intro b7 wc hb7 hs7 hk7 he7
        have hS3 := (hS2).trans (.of_ext he7) (fun _ _ ↦ id)
        refine L.nil ?_
        refine ⟨fun _ => hS3, ?_⟩
        have hI := hI.ext he7
        refine D.one 11 (by kernel_rfl) rfl ?_
        refine L.storeAgg (vs := [_, _, _, _, _]) rfl rfl rfl rfl sz_30 (hk7) rfl ?_
        intro wd hkd hgd hsd
        have hS4 := (hS3).new hgd (by intro g hg; injection hg with hg; omega)
        refine L.nil ?_
        refine ⟨fun _ => hS4, ?_⟩
        have hI := hI.chg (S := (· = b7)) (.of_grown hgd (fun g e => by injection e with e; exact e.symm)) (by omega) (fun g hg e => own_blkne hI.ho hk7 (by decide) (e ▸ hg))
        refine D.done (by kernel_rfl) ?_
        replace hk46 := hk46.chg hS4 (by omega)
        replace hk36 := hk36.chg hS4 (by omega)
        refine ⟨b7, At1 (by first | rfl | exact at_int rfl (by omega) | exact at_slice rfl (by omega) | exact at_int rfl (by simp)), (by (iterate 11 refine Agr.lk rfl ?_); exact Agr.rfl'), ?_⟩
        exact ⟨hI, hkd, by omega, hS4⟩
      · have q7 := (hS1).size
        refine L.alloc rfl zr_30 ?_
        intro b7 wc hb7 hs7 hk7 he7
        have hS2 := (hS1).trans (.of_ext he7) (fun _ _ ↦ id)
        refine L.nil ?_
        refine ⟨fun _ => hS2, ?_⟩
        have hI := hI.ext he7
        refine D.one 7 (by kernel_rfl) rfl ?_
        refine L.call rfl en_28 rfl (hI.U 8192 (by decide)) ?_
        rintro e wb ⟨rfl, hJ, hc⟩
        refine ⟨_, rfl, ?_⟩
        have hS3 := (hS2).trans hc (fun _ _ ↦ id)
        refine L.nil ?_
        refine ⟨fun _ => hS3, ?_⟩
        try replace hk7 := hc.blk hk7 (by omega)
        have hI := hJ
        refine D.va 8 rfl (by kernel_rfl) (fun _ _ _ h => h) rfl (fun w' hw => (by first | exact X.convI rfl is_22 Tryd.underlying3 (by omega) | exact X.convw rfl is_22 Tryd.underlying3)) hS3 ?_
        refine D.va 9 rfl (by kernel_rfl) (fun _ _ _ h => h) rfl (fun w' hw => X.build (l := [_, _, _, _, _]) (Evs.cons (by conv => lhs; whnf) (Evs.cons (by conv => lhs; whnf) (Evs.cons (by conv => lhs; whnf) (Evs.cons (by conv => lhs; whnf) Evs.nil)))) (bld_run Tryd.underlying30 (bp_30 Tryd.underlying30) zr_30 rfl)) hS3 ?_
        refine D.one 11 (by kernel_rfl) rfl ?_
        refine L.storeAgg (vs := [_, _, _, _, _]) rfl rfl rfl rfl sz_30 (hk7) rfl ?_
        intro wd hkd hgd hsd
        have hS4 := (hS3).new hgd (by intro g hg; injection hg with hg; omega)
        refine L.nil ?_
        refine ⟨fun _ => hS4, ?_⟩
        have hI := hI.chg (S := (· = b7)) (.of_grown hgd (fun g e => by injection e with e; exact e.symm)) (by omega) (fun g hg e => own_blkne hI.ho hk7 (by decide) (e ▸ hg))
        refine D.done (by kernel_rfl) ?_
        replace hk46 := hk46.chg hS4 (by omega)
        replace hk36 := hk36.chg hS4 (by omega)
        refine ⟨b7, At1 (by first | rfl | exact at_int rfl (by omega) | exact at_slice rfl (by omega) | exact at_int rfl (by simp)), (by (iterate 11 refine Agr.lk rfl ?_); exact Agr.rfl'), ?_⟩
        exact ⟨hI, hkd, by omega, hS4⟩
    · have q7 := (hS).size
      refine L.alloc rfl zr_30 ?_
      intro b7 wc hb7 hs7 hk7 he7
      have hS1 := (hS).trans (.of_ext he7) (fun _ _ ↦ id)
      refine L.nil ?_
      refine ⟨fun _ => hS1, ?_⟩
      have hI := hI.ext he7
      refine D.one 5 (by kernel_rfl) rfl ?_
      refine L.call rfl en_28 rfl (hI.U 18446744073709551615 (by decide)) ?_
      rintro e wa ⟨rfl, hJ, hc⟩
      refine ⟨_, rfl, ?_⟩
      have hS2 := (hS1).trans hc (fun _ _ ↦ id)
      refine L.nil ?_
      refine ⟨fun _ => hS2, ?_⟩
      try replace hk7 := hc.blk hk7 (by omega)
      have hI := hJ
      refine D.one 7 (by kernel_rfl) rfl ?_
      refine L.call rfl en_28 rfl (hI.U 8192 (by decide)) ?_
      rintro e wb ⟨rfl, hJ, hc⟩
      refine ⟨_, rfl, ?_⟩
      have hS3 := (hS2).trans hc (fun _ _ ↦ id)
      refine L.nil ?_
      refine ⟨fun _ => hS3, ?_⟩
      try replace hk7 := hc.blk hk7 (by omega)
      have hI := hJ
      refine D.va 8 rfl (by kernel_rfl) (fun _ _ _ h => h) rfl (fun w' hw => (by first | exact X.convI rfl is_22 Tryd.underlying3 (by omega) | exact X.convw rfl is_22 Tryd.underlying3)) hS3 ?_
      refine D.va 9 rfl (by kernel_rfl) (fun _ _ _ h => h) rfl (fun w' hw => X.build (l := [_, _, _, _, _]) (Evs.cons (by conv => lhs; whnf) (Evs.cons (by conv => lhs; whnf) (Evs.cons (by conv => lhs; whnf) (Evs.cons (by conv => lhs; whnf) Evs.nil)))) (bld_run Tryd.underlying30 (bp_30 Tryd.underlying30) zr_30 rfl)) hS3 ?_
      refine D.one 11 (by kernel_rfl) rfl ?_
      refine L.storeAgg (vs := [_, _, _, _, _]) rfl rfl rfl rfl sz_30 (hk7) rfl ?_
      intro wd hkd hgd hsd
      have hS4 := (hS3).new hgd (by intro g hg; injection hg with hg; omega)
      refine L.nil ?_
      refine ⟨fun _ => hS4, ?_⟩
      have hI := hI.chg (S := (· = b7)) (.of_grown hgd (fun g e => by injection e with e; exact e.symm)) (by omega) (fun g hg e => own_blkne hI.ho hk7 (by decide) (e ▸ hg))
      refine D.done (by kernel_rfl) ?_
      replace hk46 := hk46.chg hS4 (by omega)
      replace hk36 := hk36.chg hS4 (by omega)
      refine ⟨b7, At1 (by first | rfl | exact at_int rfl (by omega) | exact at_slice rfl (by omega) | exact at_int rfl (by simp)), (by (iterate 11 refine Agr.lk rfl ?_); exact Agr.rfl'), ?_⟩
      exact ⟨hI, hkd, by omega, hS4⟩
  · rintro b7 g w7 ⟨hI7, hk7, hb7, hc67⟩
    refine J.seq ?_
    refine J.seq ?_
    refine J.region ?_
    refine L.va rfl (X.move (by conv => lhs; whnf)) ?_
    -- callfn (*bushel/buf.In).U
    refine L.call rfl en_28 rfl (hI7.U 16 (by decide)) ?_
    rintro e w8 ⟨rfl, hI8, hc8⟩
    refine ⟨_, rfl, ?_⟩
    have hk8 := hc8.blk hk7 (by omega)
    have hc68 := hc67.trans hc8 (fun _ _ => id)
    have hbd := bd_fit (v := v) (by rw [hv]; exact sV_bytes smZ zs hz)
    obtain ⟨k0, hk0⟩ : ∃ k : Nat, (bd v).2.2.1 = (k : Int) := ⟨(bd v).2.2.1.toNat, by omega⟩
    have e16 : (rdU v 16 (bd v).2.1.2).1 = (k0 : Int) := hk0
    have er : rs v = rdR v k0 (bd v).2.2.2 := by unfold rs; rw [hk0, Int.toNat_natCast]
    rw [e16]
    have z68 := hc68.size
    have hr0 : w8.ownsRow w5.heap.size 59 2 (.slice none 0 0) 0 [] := own_nil _ _ _ _
    have hk28 := hc68.blk hk36 hne2
    have z56 := he6.le
    have hb2' := hk35.lt
    refine L.va rfl (X.move (by conv => lhs; whnf)) ?_
    refine L.nil ?_
    refine J.block ?_
    -- loop
    refine J.loop (X := Nat) [8, 38, 39, 40, 41, 42, 43, 44, 45, 46, 47, 48, 49, 50, 51, 52, 53, 54] (fun i => [(38, .int .u64 (i : Int))]) (fun i w' => i ≤ k0 ∧ InB w' b A6 v.length c6 v (rdR v i (bd v).2.2.2).2 ∧ (∃ A c, Blk w' b7 30 #[.int .u64 (sA smZ zs), .int .u64 (sB smZ zs), .int .u64 (bd v).1.1, .int .i64 (bd v).2.1.1, .slice A i c] ∧ w'.ownsRow w5.heap.size 59 2 (.slice A i c) i ((rdR v i (bd v).2.2.2).1.flatMap rV)) ∧ Below w5.heap.size w8 w') (fun i => k0 - i) (0) (At1 (by first | rfl | exact at_int rfl (by omega) | exact at_slice rfl (by omega) | exact at_int rfl (by simp))) ?_ ?_
    · exact ⟨Nat.zero_le _, hI8, ⟨none, 0, hk8, hr0⟩, Below.refl _ _⟩
    · rintro i g w9 ⟨hi, hI9, ⟨A9, c9, hk9, ho9⟩, hc9⟩
      have hk29 := hk28.low hc9 (by omega)
      have z9 := hc9.size
      refine J.seq ?_
      refine J.region ?_
      refine L.va rfl (X.lss rfl rfl) ?_
      refine L.nil ?_
      refine J.seq ?_
      -- cond
      refine J.dec rfl (fun hlt => ?_) (fun hlt => ?_)
      · have hz' : ∀ z ∈ v, 0 ≤ z ∧ z < 256 := by rw [hv]; exact sV_bytes smZ zs hz
        have f0 := hI9.hf
        have f1 := rdU_fit hz' 8192 (by decide) f0
        have f2 := rdU_fit hz' 2147483647 (by decide) f1.1
        have bd1 := hI9.hk.lt
        refine J.skip ?_
        refine J.seq ?_
        refine J.block ?_
        refine J.seq ?_
        refine J.region ?_
        refine L.va rfl (X.move (by conv => lhs; whnf)) ?_
        -- callfn (*bushel/buf.In).U
        refine L.call rfl en_28 rfl (hI9.U 8192 (by decide)) ?_
        rintro e wa ⟨rfl, hIa, hca⟩
        refine ⟨_, rfl, ?_⟩
        have hka := hca.blk hk9 (by omega)
        have hka2 := hca.blk hk29 (by omega)
        have hoa := hca.own ho9 (fun g hg e => own_blkne ho9 hI9.hk (by decide) (e ▸ hg))
        have za := hca.size
        have h7lt := hka.lt
        refine L.va rfl ((by first | exact X.convI rfl is_22 Tryd.underlying3 (by omega) | exact X.convw rfl is_22 Tryd.underlying3)) ?_
        refine L.va rfl (X.build (l := [_, _]) (Evs.cons (by conv => lhs; whnf) Evs.nil) (bld_run Tryd.underlying59 (bp_59 Tryd.underlying59) zr_59 rfl)) ?_
        -- alloc
        refine L.alloc rfl zr_59 ?_
        intro b8 wb hb8 hsb hkb heb
        have hIb := hIa.ext heb
        -- store
        refine L.storeAgg (vs := [_, _]) rfl rfl rfl rfl sz_59 (hkb) rfl ?_
        intro wc hkc hgc hsc
        have hkc : Blk wc b8 59 #[.int .i64 (rdU v 8192 (rdR v i (bd v).2.2.2).2).1, .int .i64 0] := hkc
        have hec : Ext wa wc := heb.grw hgc (by intro g hg; injection hg with hg; omega)
        have hIc := hIa.ext hec
        replace hka := hka.ext hec
        replace hka2 := hka2.ext hec
        have hoc := hoa.ext hec
        refine L.nil ?_
        refine J.seq ?_
        refine J.region ?_
        refine L.va rfl (X.move (by conv => lhs; whnf)) ?_
        -- callfn (*bushel/buf.In).U
        refine L.call rfl en_28 rfl (hIc.U 2147483647 (by decide)) ?_
        rintro e wd ⟨rfl, hId, hcd⟩
        refine ⟨_, rfl, ?_⟩
        have hkd := hcd.blk hkc (by have := hIa.hk.lt; omega)
        have hkd7 := hcd.blk hka (by omega)
        have hkd2 := hcd.blk hka2 (by omega)
        have hod := hcd.own hoc (fun g hg e => own_blkne hoc hIc.hk (by decide) (e ▸ hg))
        have zd := hcd.size
        refine L.va rfl ((by first | exact X.convI rfl is_22 Tryd.underlying3 (by omega) | exact X.convw rfl is_22 Tryd.underlying3)) ?_
        refine L.va rfl (X.fieldAddr rfl Tryd.underlying59 rfl sz_3 (by decide)) ?_
        -- store
        refine L.store rfl rfl (by conv => lhs; whnf) rfl sz_3 (hkd) (by first | decide | exact Nat.le_of_ble_eq_true rfl) ?_
        intro we hke hge hse
        have hke : Blk we b8 59 #[.int .i64 (rdU v 8192 (rdR v i (bd v).2.2.2).2).1, .int .i64 (rdU v 2147483647 (rdU v 8192 (rdR v i (bd v).2.2.2).2).2).1] := hke
        have hIe := hId.chg (S := (· = b8)) (.of_grown hge (fun g e => by injection e with e; exact e.symm)) (by have := hIa.hk.lt; omega) (fun g hg e => own_blkne hId.ho hkd (by decide) (e ▸ hg))
        have hoe := hod.kept hge (.inr (fun e => by have := hoa.lt _ e; omega))
        have hke7 := hkd7.grown hge (by intro e; injection e with e; omega)
        have hke2 := hkd2.grown hge (by intro e; injection e with e; omega)
        refine L.nil ?_
        refine J.region ?_
        refine L.va rfl (X.fieldAddr rfl Tryd.underlying30 rfl sz_28 (by decide)) ?_
        refine L.va rfl (X.load rfl sc_28 (by first | exact Ld.blk hke rfl | exact Ld.blk hke7 rfl | exact Ld.blk hke2 rfl)) ?_
        refine L.va rfl ((by first | exact X.loadAgg rfl (range_l hke) Tryd.underlying59 rfl (by kernel_rfl) | exact X.loadAgg rfl (range_blk hke) Tryd.underlying59 rfl (by kernel_rfl) | exact X.loadAgg rfl (range_l hke7) Tryd.underlying59 rfl (by kernel_rfl) | exact X.loadAgg rfl (range_blk hke7) Tryd.underlying59 rfl (by kernel_rfl) | exact X.loadAgg rfl (range_l hke2) Tryd.underlying59 rfl (by kernel_rfl) | exact X.loadAgg rfl (range_blk hke2) Tryd.underlying59 rfl (by kernel_rfl))) ?_
        -- buildSlice
        refine L.bslice1 (l := [_, _]) rfl rfl rfl Tryd.underlying28 sz_59 zr_59 rfl ?_
        intro b9 wf hb9 hsf hkf hef
        have hof := hoe.ext hef
        have hIf := hIe.ext hef
        replace hke := hke.ext hef
        replace hke7 := hke7.ext hef
        replace hke2 := hke2.ext hef
        -- append
        refine L.appendV (q := i + 1) (ys := _) rfl rfl rfl Tryd.underlying28 el_59 (hof) (blk_readsN (sz := 2) (q := 1) (l := rV ((rdU v 8192 (rdR v i (bd v).2.2.2).2).1, (rdU v 2147483647 (rdU v 8192 (rdR v i (bd v).2.2.2).2).2).1)) hkf hkf.lt rfl) (by first | rfl | exact strs_ones _ | assumption) (by omega) rfl (by unfold maxLen; omega) (by omega) ?_
        intro Ag cg wg hog hgg hbg horg
        have hIg := hIf.chg (S := fun g => (Value.slice A9 i c9).ownBlock = some g) (.of_grown hgg (fun g e => e)) (own_blkne hof hIf.hk (by decide)) (fun g hg e => own_apart hIf.ho hof (by decide) hg e)
        have hkg7 := hke7.grown hgg (fun e => own_blkne hof hke7 (by decide) e.symm)
        have hkg2 := hke2.grown hgg (fun e => own_blkne hof hke2 (by decide) e.symm)
        refine L.va rfl (X.fieldAddr rfl Tryd.underlying30 rfl sz_28 (by decide)) ?_
        -- store
        refine L.store rfl rfl (by conv => lhs; whnf) rfl sz_28 (hkg7) (by first | decide | exact Nat.le_of_ble_eq_true rfl) ?_
        intro wh hkh hgh hsh
        have hkh : Blk wh b7 30 #[.int .u64 (sA smZ zs), .int .u64 (sB smZ zs), .int .u64 (bd v).1.1, .int .i64 (bd v).2.1.1, .slice Ag (i + 1) cg] := hkh
        have ezr : (rdR v (i + 1) (bd v).2.2.2).1.flatMap rV = (rdR v i (bd v).2.2.2).1.flatMap rV ++ rV ((rdU v 8192 (rdR v i (bd v).2.2.2).2).1, (rdU v 2147483647 (rdU v 8192 (rdR v i (bd v).2.2.2).2).2).1) := by show (_ ++ [_]).flatMap rV = _; rw [List.flatMap_append, List.flatMap_singleton]
        rw [← ezr] at hog
        have hIh := hIg.chg (S := (· = b7)) (.of_grown hgh (fun g e => by injection e with e; exact e.symm)) (by omega) (fun g hg e => own_blkne hIg.ho hkg7 (by decide) (e ▸ hg))
        have hoh := hog.kept hgh (.inr (fun e => own_blkne hog hkg7 (by decide) e))
        refine L.nil ?_
        refine J.region ?_
        refine L.va rfl (X.addU rfl rfl (by omega)) ?_
        refine L.va rfl (X.move (by conv => lhs; whnf)) ?_
        refine L.nil ?_
        -- loopend
        refine ⟨i + 1, At1 (by first | rfl | exact at_int rfl (by omega) | exact at_slice rfl (by omega) | exact at_int rfl (by simp)), (by (iterate 18 refine Agr.lk rfl ?_); exact Agr.lk rfl (Agr.hav rfl Agr.rfl')), ?_⟩
        refine ⟨⟨by omega, hIh, ⟨Ag, cg, hkh, hoh⟩, ?_⟩, by omega⟩
        have y1 : Below w5.heap.size w9 wc := (hca.below (by omega) (fun g hg => by omega)).trans (Below.mono hec (by omega))
        have y1z := y1.size
        have y2 : Below w5.heap.size wc wd := hcd.below (by omega) (fun g hg => by omega)
        have y3 : Below w5.heap.size w9 we := Below.grown (y1.trans y2) hge (by omega) (by intro g hg; injection hg with hg; omega)
        have y3z := y3.size
        have y4 : Below w5.heap.size w9 wf := y3.trans (Below.mono hef (by omega))
        have y5 : Below w5.heap.size w9 wg := y4.trans hbg
        have y5z := y5.size
        exact hc9.trans (Below.grown y5 hgh (by omega) (by intro g hg; injection hg with hg; omega))
      · obtain rfl : i = k0 := by omega
        rw [← er] at hI9 ho9
        have hI9lt := hI9.hk.lt
        refine J.exit ?_
        refine J.seq ?_
        refine J.seq ?_
        refine J.region ?_
        refine L.va rfl (X.move (by conv => lhs; whnf)) ?_
        -- callfn (*bushel/buf.In).End
        refine L.call rfl en_29 rfl (hI9.End) ?_
        rintro e wa ⟨rfl, hIa, hca⟩
        refine ⟨_, rfl, ?_⟩
        have hka := hca.blk hk9 (by omega)
        have hka2 := hca.blk hk29 (by omega)
        have hoa := hca.own ho9 (fun g hg e => own_blkne ho9 hI9.hk (by decide) (e ▸ hg))
        have hxa : Ext w wa := ((he06.low (hc68.below z56 (fun g hg => by omega)) z5).low hc9 z5).low (hca.below (B := w5.heap.size) (by omega) (fun g hg => by omega)) z5
        have hrl : i = (rs v).1.length := by rw [er, rdR_length]
        subst hrl
        have hra := Reads.of_own hoa
        refine L.va rfl (X.assign (by conv => lhs; whnf)) ?_
        refine L.nil ?_
        refine J.seq ?_
        refine J.region ?_
        refine L.va rfl (X.move (by conv => lhs; whnf)) ?_
        refine L.va rfl (X.neq rfl rfl) ?_
        refine L.nil ?_
        -- cond
        refine J.ndec rfl (fun h3 => ?_) (fun h3 => ?_)
        · refine J.seq ?_
          refine J.region ?_
          refine L.va rfl (X.build (l := [_, _, _, _, _]) Evs.nil (bld_run Tryd.underlying30 (bp_30 Tryd.underlying30) zr_30 rfl)) ?_
          refine L.va rfl (X.move (by conv => lhs; whnf)) ?_
          -- store
          refine L.storeAgg (vs := [_, _, _, _, _]) rfl rfl rfl rfl sz_30 (hka2) rfl ?_
          intro wb hkb hgb hsb
          refine L.va rfl (X.assign (by conv => lhs; whnf)) ?_
          refine L.nil ?_
          -- ret
          refine J.ret ?_
          refine thn_ret <| ?_
          -- results [['ResultVar.cell', 2, 30], ['ResultVar.tmp', 3]]
          refine finCT rfl (run_cell hkb Tryd.underlying30 rfl (by kernel_rfl)) ?_
          exact MGet_bad (by unfold mg; rw [if_neg (fun hh => hh h1), if_neg (fun hh => hh h2'), ← hv, if_pos h3]) (hxa.grw hgb (by intro g hg; injection hg with hg; omega))
        refine J.skip ?_
        refine J.seq ?_
        refine J.seq ?_
        refine J.region ?_
        refine L.va rfl ((by first | exact X.loadAgg rfl (range_l hka) Tryd.underlying30 rfl (by kernel_rfl) | exact X.loadAgg rfl (range_blk hka) Tryd.underlying30 rfl (by kernel_rfl) | exact X.loadAgg rfl (range_l hka2) Tryd.underlying30 rfl (by kernel_rfl) | exact X.loadAgg rfl (range_blk hka2) Tryd.underlying30 rfl (by kernel_rfl))) ?_
        -- callfn bushel/manifest.may
        have hin := mg_in smZ hz
        refine L.call rfl en_30 rfl (may_ ⟨sA smZ zs, sB smZ zs, (bd v).1.1, (bd v).2.1.1, (rs v).1⟩ A9 c9 hra (Nat.le_refl _) (sA_bd smZ hz).1 (by show (rs v).1.length ≤ _; omega)) ?_
        rintro e wb ⟨rfl, heb⟩
        refine ⟨_, rfl, ?_⟩
        have hkb := hka.ext heb
        have hkb2 := hka2.ext heb
        refine L.va rfl (X.not rfl) ?_
        refine L.nil ?_
        -- cond
        by_cases h4 : may ⟨sA smZ zs, sB smZ zs, (bd v).1.1, (bd v).2.1.1, (rs v).1⟩
        · rw [decide_eq_true h4]
          refine J.iteF rfl ?_
          refine J.skip ?_
          refine J.seq ?_
          refine J.region ?_
          refine L.va rfl ((by first | exact X.loadAgg rfl (range_l hkb) Tryd.underlying30 rfl (by kernel_rfl) | exact X.loadAgg rfl (range_blk hkb) Tryd.underlying30 rfl (by kernel_rfl) | exact X.loadAgg rfl (range_l hkb2) Tryd.underlying30 rfl (by kernel_rfl) | exact X.loadAgg rfl (range_blk hkb2) Tryd.underlying30 rfl (by kernel_rfl))) ?_
          -- store
          refine L.storeAgg (vs := [_, _, _, _, _]) rfl rfl rfl rfl sz_30 (hkb2) rfl ?_
          intro wc hkc hgc hsc
          refine L.va rfl (X.assign (by conv => lhs; whnf)) ?_
          refine L.nil ?_
          -- ret
          refine J.ret ?_
          -- results [['ResultVar.cell', 2, 30], ['ResultVar.tmp', 3]]
          refine finCT rfl (run_cell hkc Tryd.underlying30 rfl (by kernel_rfl)) ?_
          have em : mg smZ zs = (⟨sA smZ zs, sB smZ zs, (bd v).1.1, (bd v).2.1.1, (rs v).1⟩, 0) := by unfold mg; rw [if_neg (fun hh => hh h1), if_neg (fun hh => hh h2'), ← hv, if_neg (fun hh => hh h3), if_neg (fun hh => hh h4)]
          refine ⟨A9, c9, by rw [em]; rfl, ?_, (hxa.trans heb).grw hgc (by intro g hg; injection hg with hg; omega)⟩
          rw [em]
          exact ((hoa.ext heb).kept hgc (.inr (fun e => by have := hoa.lt _ e; omega))).mono z5
        · rw [decide_eq_false h4]
          refine J.iteT rfl ?_
          refine J.seq ?_
          refine J.region ?_
          refine L.va rfl (X.build (l := [_, _, _, _, _]) Evs.nil (bld_run Tryd.underlying30 (bp_30 Tryd.underlying30) zr_30 rfl)) ?_
          -- store
          refine L.storeAgg (vs := [_, _, _, _, _]) rfl rfl rfl rfl sz_30 (hkb2) rfl ?_
          intro wc hkc hgc hsc
          refine L.va rfl (X.assign (by conv => lhs; whnf)) ?_
          refine L.nil ?_
          -- ret
          refine J.ret ?_
          refine thn_ret <| ?_
          -- results [['ResultVar.cell', 2, 30], ['ResultVar.tmp', 3]]
          refine finCT rfl (run_cell hkc Tryd.underlying30 rfl (by kernel_rfl)) ?_
          exact MGet_bad (by unfold mg; rw [if_neg (fun hh => hh h1), if_neg (fun hh => hh h2'), ← hv, if_neg (fun hh => hh h3), if_pos h4]) ((hxa.trans heb).grw hgc (by intro g hg; injection hg with hg; omega))
end Man
end Go.Proofs.YtlohbkcedpkjaaaDoor
