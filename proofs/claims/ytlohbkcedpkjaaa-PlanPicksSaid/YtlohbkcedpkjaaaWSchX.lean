/-
  The example of chapter 11.
-/
import Derived.Test.YtlohbkcedpkjaaaWSchG
import Derived.Test.YtlohbkcedpkjaaaWMasks
namespace Go.Proofs.Ytlohbkcedpkjaaa
set_option maxRecDepth 100000
open Go.RowKit H
set_option linter.unusedVariables false
abbrev sA (b1 b2 : Nat) : Sch := ⟨some ⟨b1, 0, none⟩, 2, 2, none, 0, 0, none, 0, 0, some ⟨b2, 0, none⟩, 1, 1, [(aA, 2), (aB, 3)], [], [], [1]⟩
theorem sA_code (b1 b2 : Nat) : (sA b1 b2).code = 0 := by
  show chk 2 0 0 1 [(aA, 2), (aB, 3)] [] [] [1] = 0
  decide +kernel
theorem sA_k3 (b1 b2 : Nat) : kyP (sA b1 b2).ds 3 (sA b1 b2).nd = 6 := by
  show kyP [(aA, 2), (aB, 3)] 3 2 = 6
  decide +kernel
theorem sA_k1 (b1 b2 : Nat) : kyP (sA b1 b2).ds 1 (sA b1 b2).nd = 2 := by
  show kyP [(aA, 2), (aB, 3)] 1 2 = 2
  decide +kernel
theorem sA_here (b1 b2 : Nat) {w : World} (h1 : Blk w b1 88 (dimsV [(aA, 2), (aB, 3)]).toArray) (h2 : Blk w b2 35 (nums .u32 [1]).toArray) : (sA b1 b2).Here w :=
  ⟨blk_readsN h1 h1.lt rfl, Reads.none_, Reads.none_, blk_reads h2 h2.lt rfl, fun i => by
    match i with
    | 0 => exact (show (0 : Int) ≤ 1 ∧ (1 : Int) < 4294967296 by decide)
    | i + 1 => exact ⟨by simp, by simp⟩, (show 2 ≤ 100 ∧ 0 ≤ 100 ∧ 0 ≤ 100 ∧ 1 ≤ 100 by decide)⟩
theorem awake11 (w : World) : Calls Try.prog 36 #[] w fun e w' => e = .returned (.bool true) ∧ Ext w w' := by
  refine enter Try.func36 rfl (by kernel_rfl) ?_
  refine J.seq ?_
  refine J.region ?_
  refine L.va rfl (X.assign (by conv => lhs; whnf)) ?_
  refine L.nil ?_
  refine J.seq ?_
  refine J.region ?_
  refine L.va rfl (X.build (l := [_, _]) (Evs.cons (by conv => lhs; whnf) (Evs.cons (by conv => lhs; whnf) Evs.nil)) (bld_run Try.underlying88 (bp_88 Try.underlying88) zr_88 rfl)) ?_
  refine L.va rfl (X.build (l := [_, _]) (Evs.cons (by conv => lhs; whnf) (Evs.cons (by conv => lhs; whnf) Evs.nil)) (bld_run Try.underlying88 (bp_88 Try.underlying88) zr_88 rfl)) ?_
  -- buildSlice
  refine L.bsliceR (ls := [[_, _], [_, _]]) rfl (Evs.cons (by conv => lhs; whnf) (Evs.cons (by conv => lhs; whnf) Evs.nil)) rfl rfl rfl rfl Try.underlying30 sz_88 zr_88 (by decide) ?_
  intro b1 w1 hb1 hs1 hk1 he1
  -- buildSlice
  refine L.bslice (vs := [_]) rfl (Evs.cons (by conv => lhs; whnf) Evs.nil) rfl rfl rfl rfl Try.underlying32 sz_35 zr_35 (by decide) ?_
  intro b2 w2 hb2 hs2 hk2 he2
  refine L.va rfl (X.build (l := [_, _, _, _]) (Evs.cons (by conv => lhs; whnf) (Evs.cons (by conv => lhs; whnf) Evs.nil)) (bld_run Try.underlying34 (bp_34 Try.underlying34) zr_34 rfl)) ?_
  -- alloc
  refine L.alloc rfl zr_34 ?_
  intro b3 w3 hb3 hs3 hk3 he3
  -- store
  refine L.storeAgg (vs := [_, _, _, _]) rfl rfl rfl rfl sz_34 (hk3) rfl ?_
  intro w4 hk4 hg4 hs4
  have he14 : Ext w1 w4 := (he2.trans he3).grw hg4 (by intro g hg; injection hg with hg; omega)
  have he24 : Ext w2 w4 := he3.grw hg4 (by intro g hg; injection hg with hg; omega)
  have he04 := he1.trans he14
  have hk14 := hk1.ext he14
  have hk24 := hk2.ext he24
  have H4 : (sA b1 b2).Here w4 := sA_here b1 b2 hk14 hk24
  have hc := sA_code b1 b2
  have k3 := fun w => @Sch.Here.keys_ok (sA b1 b2) w
  refine L.nil ?_
  refine J.seq ?_
  refine J.region ?_
  refine L.va rfl ((by first | exact X.loadAgg rfl (range_l hk4) Try.underlying34 rfl (by kernel_rfl) | exact X.loadAgg rfl (range_blk hk4) Try.underlying34 rfl (by kernel_rfl))) ?_
  -- callfn bushel/schema.Keys
  have c1 := H4.keys_ok hc (m := 3) (show (3 : Int) ≤ 3 by decide)
  rw [sA_k3] at c1
  refine L.call rfl en_73 rfl (c1) ?_
  rintro e w5 ⟨rfl, he5⟩
  refine ⟨_, rfl, ?_⟩
  have he5 : Ext w4 w5 := he5
  have H5 := H4.ext he5
  replace hk4 := hk4.ext he5
  refine L.va rfl (X.move (by conv => lhs; whnf)) ?_
  refine L.va rfl (X.extract rfl rfl) ?_
  refine L.va rfl (X.extract rfl rfl) ?_
  refine L.va rfl (X.assign (by conv => lhs; whnf)) ?_
  refine L.va rfl (X.assign (by conv => lhs; whnf)) ?_
  refine L.nil ?_
  refine J.seq ?_
  refine J.region ?_
  refine L.va rfl ((by first | exact X.loadAgg rfl (range_l hk4) Try.underlying34 rfl (by kernel_rfl) | exact X.loadAgg rfl (range_blk hk4) Try.underlying34 rfl (by kernel_rfl))) ?_
  -- callfn bushel/schema.Keys
  have c2 := H5.keys_ok hc (m := 1) (show (1 : Int) ≤ 3 by decide)
  rw [sA_k1] at c2
  refine L.call rfl en_73 rfl (c2) ?_
  rintro e w6 ⟨rfl, he6⟩
  refine ⟨_, rfl, ?_⟩
  have he6 : Ext w5 w6 := he6
  have H6 := H5.ext he6
  replace hk4 := hk4.ext he6
  refine L.va rfl (X.move (by conv => lhs; whnf)) ?_
  refine L.va rfl (X.extract rfl rfl) ?_
  refine L.va rfl (X.extract rfl rfl) ?_
  refine L.va rfl (X.assign (by conv => lhs; whnf)) ?_
  refine L.va rfl (X.assign (by conv => lhs; whnf)) ?_
  refine L.nil ?_
  refine J.seq ?_
  refine J.region ?_
  refine L.va rfl ((by first | exact X.loadAgg rfl (range_l hk4) Try.underlying34 rfl (by kernel_rfl) | exact X.loadAgg rfl (range_blk hk4) Try.underlying34 rfl (by kernel_rfl))) ?_
  -- callfn bushel/schema.Check
  refine L.call rfl en_74 rfl (H6.check) ?_
  rintro e w7 ⟨rfl, he7⟩
  refine ⟨_, rfl, ?_⟩
  have he7 : Ext w6 w7 := he7
  have H7 := H6.ext he7
  replace hk4 := hk4.ext he7
  refine L.va rfl (X.eql rfl rfl) ?_
  refine L.va rfl (X.move (by conv => lhs; whnf)) ?_
  -- case t24
  refine L.caseDecT (k := 24) rfl (by exact hc) ?_
  refine L.va rfl ((by first | exact X.loadAgg rfl (range_l hk4) Try.underlying34 rfl (by kernel_rfl) | exact X.loadAgg rfl (range_blk hk4) Try.underlying34 rfl (by kernel_rfl))) ?_
  -- callfn bushel/schema.Full
  refine L.call rfl en_75 rfl (H7.full_ok hc) ?_
  rintro e w8 ⟨rfl, he8⟩
  refine ⟨_, rfl, ?_⟩
  have he8 : Ext w7 w8 := he8
  have H8 := H7.ext he8
  replace hk4 := hk4.ext he8
  refine L.va rfl (X.eql rfl rfl) ?_
  refine L.va rfl (X.pickT rfl (by conv => lhs; whnf)) ?_
  refine L.va rfl (X.move (by conv => lhs; whnf)) ?_
  -- case t29
  refine L.caseDecT (k := 29) rfl (by rfl) ?_
  refine L.va rfl ((by first | exact X.loadAgg rfl (range_l hk4) Try.underlying34 rfl (by kernel_rfl) | exact X.loadAgg rfl (range_blk hk4) Try.underlying34 rfl (by kernel_rfl))) ?_
  -- callfn bushel/schema.Views
  refine L.call rfl en_47 rfl (H8.views_ok hc) ?_
  rintro e w9 ⟨A9, c9, rfl, ho9, he9⟩
  refine ⟨_, rfl, ?_⟩
  have he9 : Ext w8 w9 := he9
  replace hk4 := hk4.ext he9
  -- buildSlice
  refine L.bslice (vs := [_, _]) rfl (Evs.cons (by conv => lhs; whnf) (Evs.cons (by conv => lhs; whnf) Evs.nil)) rfl rfl rfl rfl Try.underlying32 sz_35 zr_35 (by decide) ?_
  intro b10 w10 hb10 hs10 hk10 he10
  -- callfn bushel/bushelref11.Masks
  refine L.call rfl en_76 rfl (rmasks_same _ _ _ _ _ _ _ (own_reads (ho9.ext he10)) (blk_reads hk10 (by omega) rfl) (show 2 ≤ 9223372036854775807 by decide)) ?_
  rintro e w11 ⟨rfl, he11⟩
  refine ⟨_, rfl, ?_⟩
  have he11 : Ext w10 w11 := he11
  have he911 := he10.trans he11
  replace hk4 := hk4.ext he911
  refine L.va rfl (X.pickT rfl (by conv => lhs; whnf)) ?_
  refine L.va rfl (X.move (by conv => lhs; whnf)) ?_
  -- case t35
  refine L.caseBT (k := 35) rfl (by rfl) ?_
  refine L.va rfl (X.move (by conv => lhs; whnf)) ?_
  refine L.va rfl (X.pickT rfl (by conv => lhs; whnf)) ?_
  refine L.va rfl (X.move (by conv => lhs; whnf)) ?_
  -- case t38
  refine L.caseBT (k := 38) rfl (by rfl) ?_
  refine L.va rfl (X.move (by conv => lhs; whnf)) ?_
  refine L.va rfl (X.eql rfl rfl) ?_
  refine L.va rfl (X.pickT rfl (by conv => lhs; whnf)) ?_
  refine L.va rfl (X.move (by conv => lhs; whnf)) ?_
  -- case t42
  refine L.caseDecT (k := 42) rfl (by rfl) ?_
  refine L.va rfl (X.move (by conv => lhs; whnf)) ?_
  refine L.va rfl (X.pickT rfl (by conv => lhs; whnf)) ?_
  refine L.va rfl (X.move (by conv => lhs; whnf)) ?_
  -- case t45
  refine L.caseBT (k := 45) rfl (by rfl) ?_
  refine L.va rfl (X.move (by conv => lhs; whnf)) ?_
  refine L.va rfl (X.eql rfl rfl) ?_
  refine L.va rfl (X.pickT rfl (by conv => lhs; whnf)) ?_
  refine L.va rfl (X.assign (by conv => lhs; whnf)) ?_
  refine L.nil ?_
  -- ret
  refine J.ret ?_
  refine fin1 ?_
  exact ⟨rfl, (((((((he04.trans he5).trans he6).trans he7).trans he8).trans he9).trans he10).trans he11)⟩
end Go.Proofs.Ytlohbkcedpkjaaa
