/-
  The law ManifestPuts, walked.
-/
import Derived.Test.YtlohbkcedpkjaaaDoorWManH
namespace Go.Proofs.YtlohbkcedpkjaaaDoor
set_option maxRecDepth 100000
open Go.RowKit H
open Byts Cod Seal
open Man
set_option linter.unusedVariables false
theorem law_ManifestPuts (w : World) (ht : Tab w) (vs0 : List Value) (a0 : (Nm .u64) × (Nm .u64) × (Nm .u64) × (Nm .i64) × (List ((Nm .i64) × (Nm .i64)))) (hl0 : Lay.lies w w.heap.size vs0 a0) :
    Calls Tryd.prog 5 #[.agg vs0.toArray] w fun e w' => e = .returned (.bool true) ∧ Below w.heap.size w w' := by
  obtain ⟨m, A, c, rfl, hi, hl, hr⟩ := man5 hl0
  unfold maxLen at hl
  refine enter Tryd.func5 rfl (by kernel_rfl) ?_
  refine J.seq ?_
  refine J.region ?_
  -- box
  refine L.boxA (l := [_, _, _, _, _]) rfl rfl ?_
  intro b1 w1 hb1 hs1 hk1 he1
  have r1 := hr.ext he1
  have z1 := he1.le
  refine L.va rfl (X.assign (by conv => lhs; whnf)) ?_
  refine L.nil ?_
  refine J.seq ?_
  refine J.seq ?_
  refine J.region ?_
  refine L.va rfl (X.fieldAddr rfl Tryd.underlying30 rfl sz_28 (by decide)) ?_
  refine L.va rfl (X.load rfl sc_28 (by first | exact Ld.blk hk1 rfl)) ?_
  refine L.va rfl (X.len rfl Tryd.underlying28) ?_
  refine L.va rfl (X.gtr rfl rfl) ?_
  refine L.nil ?_
  -- cond
  refine J.dec rfl (fun h1 => ?_) (fun h1 => ?_)
  · refine J.seq ?_
    refine J.region ?_
    -- callfn bushel/bushellaw23.awake
    refine L.call rfl en_8 rfl (awake23 w1 (tab_ext ht he1)) ?_
    rintro e w3 ⟨rfl, he3⟩
    refine ⟨_, rfl, ?_⟩
    refine L.va rfl (X.assign (by conv => lhs; whnf)) ?_
    refine L.nil ?_
    -- ret
    refine J.ret ?_
    refine thn_ret <| ?_
    refine fin1 ?_
    exact ⟨rfl, he1.trans he3⟩
  by_cases hm : may m
  · refine J.skip ?_
    refine J.seq ?_
    refine J.region ?_
    refine L.va rfl ((by first | exact X.loadAgg rfl (range_l hk1) Tryd.underlying30 rfl (by kernel_rfl) | exact X.loadAgg rfl (range_blk hk1) Tryd.underlying30 rfl (by kernel_rfl))) ?_
    -- callfn bushel/manifest.Put
    refine L.call rfl en_17 rfl (put_yes (tab_ext ht he1) m A c r1 z1 hi hm) ?_
    rintro e w2 ⟨A2, c2, rfl, ho2, he2⟩
    refine ⟨_, rfl, ?_⟩
    have hk2 := hk1.ext he2
    have r2 := r1.ext he2
    have h02 := he1.trans he2
    have z2 := h02.le
    have hcc := own_bd ho2
    unfold maxLen at hcc
    refine L.va rfl (X.move (by conv => lhs; whnf)) ?_
    refine L.va rfl (X.extract rfl rfl) ?_
    refine L.va rfl (X.extract rfl rfl) ?_
    refine L.va rfl (X.assign (by conv => lhs; whnf)) ?_
    refine L.va rfl (X.assign (by conv => lhs; whnf)) ?_
    refine L.nil ?_
    refine J.seq ?_
    refine J.seq ?_
    refine J.region ?_
    refine L.va rfl ((by first | exact X.loadAgg rfl (range_l hk2) Tryd.underlying30 rfl (by kernel_rfl) | exact X.loadAgg rfl (range_blk hk2) Tryd.underlying30 rfl (by kernel_rfl))) ?_
    -- callfn bushel/bushelref23.May
    refine L.call rfl en_13 rfl (rmay_ m A c r2 z2 hi.1 (by omega)) ?_
    rintro e w3 ⟨rfl, he3⟩
    refine ⟨_, rfl, ?_⟩
    have hk3 := hk2.ext he3
    have r3 := r2.ext he3
    have h03 := h02.trans he3
    have z3 := h03.le
    have ho3 := ho2.ext he3
    rw [decide_eq_true hm]
    refine L.va rfl (X.not rfl) ?_
    refine L.nil ?_
    -- cond
    refine J.iteF rfl ?_
    refine J.skip ?_
    refine J.seq ?_
    refine J.region ?_
    refine L.va rfl (X.move (by conv => lhs; whnf)) ?_
    -- callfn bushel/manifest.Get
    refine L.call rfl en_10 rfl (get_ A2 1024 c2 _ w3 (tab_ext ht h03) (Reads.of_own ho3) (sc_bytes hm hi) hcc.1 (by omega)) ?_
    rintro e w4 ⟨A4, c4, rfl, ho4, he4⟩
    refine ⟨_, rfl, ?_⟩
    rw [mg_sc smZ smZ_length hm hi] at ho4
    rw [mg_sc smZ smZ_length hm hi]
    have z4 := he4.le
    refine L.va rfl (X.move (by conv => lhs; whnf)) ?_
    refine L.va rfl (X.extract rfl rfl) ?_
    refine L.va rfl (X.extract rfl rfl) ?_
    -- alloc
    refine L.alloc rfl zr_30 ?_
    intro b5 w5 hb5 hs5 hk5 he5
    -- store
    refine L.storeAgg (vs := [_, _, _, _, _]) rfl rfl rfl rfl sz_30 (hk5) rfl ?_
    intro w6 hk6 hg6 hs6
    have he46 : Ext w4 w6 := he5.grw hg6 (by intro g hg; injection hg with hg; omega)
    have he36 := he4.trans he46
    have h06 := h03.trans he36
    have hk6 : Blk w6 b5 30 (vs m A4 c4).toArray := hk6
    have hk36 := hk3.ext he36
    have r6 := r3.ext he36
    have o2 := ho3.ext he36
    have o4 := ho4.ext he46
    have z6 := h06.le
    refine L.va rfl (X.assign (by conv => lhs; whnf)) ?_
    refine L.nil ?_
    refine J.seq ?_
    -- draw
    refine J.draw (ℓ := 1000000) (S := Ext w6) mixed (fun wa hS hS_h => ?_)
    -- t39
    refine D.va 0 rfl (by kernel_rfl) (fun _ _ _ h => h) rfl (fun w' hw => X.move (by conv => lhs; whnf)) hS ?_
    refine D.va 1 rfl (by kernel_rfl) (fun _ _ _ h => h) rfl (fun w' hw => X.eql rfl rfl) hS ?_
    refine D.va 2 rfl (by kernel_rfl) (fun _ _ _ h => h) rfl (fun w' hw => X.move (by conv => lhs; whnf)) hS ?_
    -- case t37
    refine D.caseDecT (k := 37) rfl (by rfl) ?_
    refine D.va 3 rfl (by kernel_rfl) (fun _ _ _ h => h) rfl (fun w' hw => X.move (by conv => lhs; whnf)) hS ?_
    refine D.va 4 rfl (by kernel_rfl) (fun _ _ _ h => h) rfl (fun w' hw => X.conv rfl ((own_reads (o2.ext hw)).conv Tryd.underlying23 Tryd.underlying5 Tryd.underlying9)) hS ?_
    refine D.va 5 rfl (by kernel_rfl) (fun _ _ _ h => h) rfl (fun w' hw => (by first | exact X.loadAgg rfl (range_l (hk36.ext hw)) Tryd.underlying30 rfl (by kernel_rfl) | exact X.loadAgg rfl (range_blk (hk36.ext hw)) Tryd.underlying30 rfl (by kernel_rfl) | exact X.loadAgg rfl (range_l (hk6.ext hw)) Tryd.underlying30 rfl (by kernel_rfl) | exact X.loadAgg rfl (range_blk (hk6.ext hw)) Tryd.underlying30 rfl (by kernel_rfl))) hS ?_
    -- callfn bushel/bushelref23.Put
    refine D.one 6 (by kernel_rfl) rfl ?_
    refine L.call rfl en_14 rfl (rput_ m A c (r6.ext hS) (Nat.le_trans z6 hS.le) hi hm) ?_
    rintro e wb ⟨Ab, cb, rfl, hob, heb⟩
    refine ⟨_, rfl, ?_⟩
    have hS1 := hS.trans heb
    refine L.nil ?_
    refine ⟨fun _ => hS1, ?_⟩
    -- convert
    refine D.one 7 (by kernel_rfl) rfl ?_
    refine L.va rfl (X.conv rfl ((own_reads hob).conv Tryd.underlying23 Tryd.underlying5 Tryd.underlying9)) ?_
    refine L.nil ?_
    refine ⟨fun _ => hS1, ?_⟩
    refine D.va 8 rfl (by kernel_rfl) (fun _ _ _ h => h) rfl (fun w' hw => X.eqlS rfl rfl) hS1 ?_
    refine D.va 9 rfl (by kernel_rfl) (fun _ _ _ h => h) rfl (fun w' hw => X.pickT rfl (by conv => lhs; whnf)) hS1 ?_
    refine D.va 10 rfl (by kernel_rfl) (fun _ _ _ h => h) rfl (fun w' hw => X.move (by conv => lhs; whnf)) hS1 ?_
    -- case t45
    refine D.caseDecT (k := 45) rfl (by rfl) ?_
    refine D.va 11 rfl (by kernel_rfl) (fun _ _ _ h => h) rfl (fun w' hw => X.move (by conv => lhs; whnf)) hS1 ?_
    refine D.va 12 rfl (by kernel_rfl) (fun _ _ _ h => h) rfl (fun w' hw => X.eql rfl rfl) hS1 ?_
    refine D.va 13 rfl (by kernel_rfl) (fun _ _ _ h => h) rfl (fun w' hw => X.pickT rfl (by conv => lhs; whnf)) hS1 ?_
    refine D.va 14 rfl (by kernel_rfl) (fun _ _ _ h => h) rfl (fun w' hw => X.move (by conv => lhs; whnf)) hS1 ?_
    -- case t49
    refine D.caseDecT (k := 49) rfl (by rfl) ?_
    refine D.va 15 rfl (by kernel_rfl) (fun _ _ _ h => h) rfl (fun w' hw => (by first | exact X.loadAgg rfl (range_l (hk36.ext hw)) Tryd.underlying30 rfl (by kernel_rfl) | exact X.loadAgg rfl (range_blk (hk36.ext hw)) Tryd.underlying30 rfl (by kernel_rfl) | exact X.loadAgg rfl (range_l (hk6.ext hw)) Tryd.underlying30 rfl (by kernel_rfl) | exact X.loadAgg rfl (range_blk (hk6.ext hw)) Tryd.underlying30 rfl (by kernel_rfl))) hS1 ?_
    refine D.va 16 rfl (by kernel_rfl) (fun _ _ _ h => h) rfl (fun w' hw => (by first | exact X.loadAgg rfl (range_l (hk36.ext hw)) Tryd.underlying30 rfl (by kernel_rfl) | exact X.loadAgg rfl (range_blk (hk36.ext hw)) Tryd.underlying30 rfl (by kernel_rfl) | exact X.loadAgg rfl (range_l (hk6.ext hw)) Tryd.underlying30 rfl (by kernel_rfl) | exact X.loadAgg rfl (range_blk (hk6.ext hw)) Tryd.underlying30 rfl (by kernel_rfl))) hS1 ?_
    -- callfn bushel/bushelref23.Same
    refine D.one 17 (by kernel_rfl) rfl ?_
    refine L.call rfl en_12 rfl (rsame_ (Nat.le_refl _) m m A c A4 c4 ((r6.ext hS1).more (Nat.le_trans z6 hS1.le)) (Reads.of_own (o4.ext hS1)) (by omega) (by omega)) ?_
    rintro e wc ⟨rfl, hec⟩
    refine ⟨_, rfl, ?_⟩
    have hS2 := hS1.trans hec
    refine L.nil ?_
    refine ⟨fun _ => hS2, ?_⟩
    refine D.va 18 rfl (by kernel_rfl) (fun _ _ _ h => h) rfl (fun w' hw => X.pickT rfl (by conv => lhs; whnf)) hS2 ?_
    refine D.va 19 rfl (by kernel_rfl) (fun _ _ _ h => h) rfl (fun w' hw => X.move (by conv => lhs; whnf)) hS2 ?_
    -- case t54
    refine D.caseBT (k := 54) rfl (by exact eqm_self m) ?_
    refine D.va 20 rfl (by kernel_rfl) (fun _ _ _ h => h) rfl (fun w' hw => (by first | exact X.loadAgg rfl (range_l (hk36.ext hw)) Tryd.underlying30 rfl (by kernel_rfl) | exact X.loadAgg rfl (range_blk (hk36.ext hw)) Tryd.underlying30 rfl (by kernel_rfl) | exact X.loadAgg rfl (range_l (hk6.ext hw)) Tryd.underlying30 rfl (by kernel_rfl) | exact X.loadAgg rfl (range_blk (hk6.ext hw)) Tryd.underlying30 rfl (by kernel_rfl))) hS2 ?_
    refine D.va 21 rfl (by kernel_rfl) (fun _ _ _ h => h) rfl (fun w' hw => (by first | exact X.loadAgg rfl (range_l (hk36.ext hw)) Tryd.underlying30 rfl (by kernel_rfl) | exact X.loadAgg rfl (range_blk (hk36.ext hw)) Tryd.underlying30 rfl (by kernel_rfl) | exact X.loadAgg rfl (range_l (hk6.ext hw)) Tryd.underlying30 rfl (by kernel_rfl) | exact X.loadAgg rfl (range_blk (hk6.ext hw)) Tryd.underlying30 rfl (by kernel_rfl))) hS2 ?_
    -- callfn bushel/manifest.Same
    refine D.one 22 (by kernel_rfl) rfl ?_
    refine L.call rfl en_18 rfl (same_ (Nat.le_refl _) m m A c A4 c4 ((r6.ext hS2).more (Nat.le_trans z6 hS2.le)) (Reads.of_own (o4.ext hS2)) (by omega) (by omega)) ?_
    rintro e wd ⟨rfl, hed⟩
    refine ⟨_, rfl, ?_⟩
    have hS3 := hS2.trans hed
    refine L.nil ?_
    refine ⟨fun _ => hS3, ?_⟩
    refine D.va 23 rfl (by kernel_rfl) (fun _ _ _ h => h) rfl (fun w' hw => X.pickT rfl (by conv => lhs; whnf)) hS3 ?_
    refine D.va 24 rfl (by kernel_rfl) (fun _ _ _ h => h) rfl (fun w' hw => X.move (by conv => lhs; whnf)) hS3 ?_
    -- case t59
    refine D.caseBT (k := 59) rfl (by exact eqm_self m) ?_
    -- callfn bushel/bushellaw23.awake
    refine D.one 25 (by kernel_rfl) rfl ?_
    refine L.call rfl en_8 rfl (awake23 wd (tab_ext ht (h06.trans hS3))) ?_
    rintro e we ⟨rfl, hee⟩
    refine ⟨_, rfl, ?_⟩
    have hS4 := hS3.trans hee
    refine L.nil ?_
    refine ⟨fun _ => hS4, ?_⟩
    refine D.va 26 rfl (by kernel_rfl) (fun _ _ _ h => h) rfl (fun w' hw => X.pickT rfl (by conv => lhs; whnf)) hS4 ?_
    refine D.va 27 rfl (by kernel_rfl) (fun _ _ _ h => h) rfl (fun w' hw => X.assign (by conv => lhs; whnf)) hS4 ?_
    refine D.done (by kernel_rfl) ?_
    replace hk36 := hk36.ext hS4
    replace hk6 := hk6.ext hS4
    -- ret
    refine J.ret ?_
    refine fin1 ?_
    exact ⟨rfl, h06.trans hS4⟩
  · refine J.skip ?_
    refine J.seq ?_
    refine J.region ?_
    refine L.va rfl ((by first | exact X.loadAgg rfl (range_l hk1) Tryd.underlying30 rfl (by kernel_rfl) | exact X.loadAgg rfl (range_blk hk1) Tryd.underlying30 rfl (by kernel_rfl))) ?_
    -- callfn bushel/manifest.Put
    refine L.call rfl en_17 rfl (put_no m A c r1 z1 hi.1 (by omega) hm) ?_
    rintro e w2 ⟨rfl, he2⟩
    refine ⟨_, rfl, ?_⟩
    have hk2 := hk1.ext he2
    have r2 := r1.ext he2
    have h02 := he1.trans he2
    have z2 := h02.le
    refine L.va rfl (X.move (by conv => lhs; whnf)) ?_
    refine L.va rfl (X.extract rfl rfl) ?_
    refine L.va rfl (X.extract rfl rfl) ?_
    refine L.va rfl (X.assign (by conv => lhs; whnf)) ?_
    refine L.va rfl (X.assign (by conv => lhs; whnf)) ?_
    refine L.nil ?_
    refine J.seq ?_
    refine J.seq ?_
    refine J.region ?_
    refine L.va rfl ((by first | exact X.loadAgg rfl (range_l hk2) Tryd.underlying30 rfl (by kernel_rfl) | exact X.loadAgg rfl (range_blk hk2) Tryd.underlying30 rfl (by kernel_rfl))) ?_
    -- callfn bushel/bushelref23.May
    refine L.call rfl en_13 rfl (rmay_ m A c r2 z2 hi.1 (by omega)) ?_
    rintro e w3 ⟨rfl, he3⟩
    refine ⟨_, rfl, ?_⟩
    have h03 := h02.trans he3
    rw [decide_eq_false hm]
    refine L.va rfl (X.not rfl) ?_
    refine L.nil ?_
    -- cond
    refine J.iteT rfl ?_
    refine J.seq ?_
    refine J.region ?_
    refine L.va rfl (X.move (by conv => lhs; whnf)) ?_
    refine L.va rfl (X.len rfl Tryd.underlying23) ?_
    refine L.va rfl (X.eql rfl rfl) ?_
    refine L.va rfl (X.move (by conv => lhs; whnf)) ?_
    -- case t23
    refine L.caseDecT (k := 23) rfl (by rfl) ?_
    refine L.va rfl (X.move (by conv => lhs; whnf)) ?_
    refine L.va rfl (X.eql rfl rfl) ?_
    refine L.va rfl (X.pickT rfl (by conv => lhs; whnf)) ?_
    refine L.va rfl (X.move (by conv => lhs; whnf)) ?_
    -- case t27
    refine L.caseDecT (k := 27) rfl (by rfl) ?_
    -- callfn bushel/bushellaw23.awake
    refine L.call rfl en_8 rfl (awake23 w3 (tab_ext ht h03)) ?_
    rintro e w4 ⟨rfl, he4⟩
    refine ⟨_, rfl, ?_⟩
    refine L.va rfl (X.pickT rfl (by conv => lhs; whnf)) ?_
    refine L.va rfl (X.assign (by conv => lhs; whnf)) ?_
    refine L.nil ?_
    -- ret
    refine J.ret ?_
    refine thn_ret <| ?_
    refine fin1 ?_
    exact ⟨rfl, h03.trans he4⟩
end Go.Proofs.YtlohbkcedpkjaaaDoor
