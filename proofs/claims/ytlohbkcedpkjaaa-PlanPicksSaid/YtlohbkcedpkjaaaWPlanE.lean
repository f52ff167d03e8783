/-
  The example of chapter 30.
-/
import Derived.Test.YtlohbkcedpkjaaaWPlanD
import Derived.Test.YtlohbkcedpkjaaaWRowB
namespace Go.Proofs.Ytlohbkcedpkjaaa
set_option maxRecDepth 100000
open Go.RowKit H
open Mk
set_option linter.unusedVariables false
abbrev sB (b1 b2 : Nat) : Sch := ⟨some ⟨b1, 0, none⟩, 2, 2, none, 0, 0, none, 0, 0, some ⟨b2, 0, none⟩, 2, 2, [(aA, 4), (aB, 4)], [], [], [1, 2]⟩
abbrev fB (b3 : Nat) : Fi := ⟨0, some ⟨b3, 0, none⟩, 1, 1, [1]⟩
abbrev qB (b3 b4 b5 : Nat) : Qu := ⟨2, ⟨some ⟨b4, 0, none⟩, 1, 1, [fB b3]⟩, some ⟨b5, 0, none⟩, 1, 1, [(0, 0)], none, 0, 0, [], 0⟩
abbrev qB' (b5 : Nat) : Qu := ⟨2, ⟨none, 0, 0, []⟩, some ⟨b5, 0, none⟩, 1, 1, [(0, 0)], none, 0, 0, [], 0⟩
theorem sB_code (b1 b2 : Nat) : (sB b1 b2).code = 0 := by
  show chk 2 0 0 2 [(aA, 4), (aB, 4)] [] [] [1, 2] = 0
  decide +kernel
theorem sB_here (b1 b2 : Nat) {w : World} (h1 : Blk w b1 88 (dimsV [(aA, 4), (aB, 4)]).toArray) (h2 : Blk w b2 35 (nums .u32 [1, 2]).toArray) : (sB b1 b2).Here w :=
  ⟨blk_readsN h1 h1.lt rfl, Reads.none_, Reads.none_, blk_reads h2 h2.lt rfl, fun i => by
    match i with
    | 0 => exact (show (0 : Int) ≤ 1 ∧ (1 : Int) < 4294967296 by decide)
    | 1 => exact (show (0 : Int) ≤ 2 ∧ (2 : Int) < 4294967296 by decide)
    | i + 2 => exact ⟨by simp, by simp⟩, (show 2 ≤ 100 ∧ 0 ≤ 100 ∧ 0 ≤ 100 ∧ 2 ≤ 100 by decide)⟩
theorem sB_F (b1 b2 : Nat) : (sB b1 b2).F = 3 := rfl
theorem colB (b1 b2 : Nat) : colOk (sB b1 b2) (0, 0) := by
  exact .inl ⟨rfl, rfl⟩
theorem qB_c (b1 b2 b3 b4 b5 : Nat) : qcode (sB b1 b2) (qB b3 b4 b5) = 0 := by
  refine qc_0 (sB_code b1 b2) (show (2 : Int) ≤ 3 by decide) ?_ (show ¬ (1 < 1 ∨ 16 < 1 ∨ 8 < 0) by decide) ?_ (fun i hi => absurd hi (Nat.not_lt_zero _)) (show ¬ (0 : Int) < 0 by decide)
  · have e : fE (sB b1 b2) (fB b3) = 0 := fE_0 (show ¬ ((0 : Int) < 0 ∨ (2 : Int) ≤ 0) by decide) (show ¬ 4096 < 1 by decide) (fun i hi => by
      obtain rfl : i = 0 := by have hi : i < 1 := hi; omega
      exact (show (0 : Int) ≤ 1 ∧ (1 : Int) < 4 by decide))
    unfold fcode
    rw [if_neg (fun h => h (sB_code b1 b2)), if_neg (show ¬ 20 < 1 by decide)]
    show (if fE (sB b1 b2) (fB b3) ≠ 0 then _ else _) = (0 : Int)
    rw [if_neg (fun h => h e)]
    rfl
  · intro i hi
    obtain rfl : i = 0 := by have hi : i < 1 := hi; omega
    exact colB b1 b2
theorem qB_c' (b1 b2 b5 : Nat) : qcode (sB b1 b2) (qB' b5) = 0 := by
  refine qc_0 (sB_code b1 b2) (show (2 : Int) ≤ 3 by decide) ?_ (show ¬ (1 < 1 ∨ 16 < 1 ∨ 8 < 0) by decide) ?_ (fun i hi => absurd hi (Nat.not_lt_zero _)) (show ¬ (0 : Int) < 0 by decide)
  · unfold fcode
    rw [if_neg (fun h => h (sB_code b1 b2)), if_neg (show ¬ 20 < 0 by decide)]
    rfl
  · intro i hi
    obtain rfl : i = 0 := by have hi : i < 1 := hi; omega
    exact colB b1 b2
theorem qB_s (b1 b2 b3 b4 b5 : Nat) : srv (sB b1 b2).V (qneed (qB b3 b4 b5)) (1 + (sB b1 b2).nv) = [0] := by
  show srv [3, 1, 2] (2 ||| fneed [fB b3]) 3 = [0]
  have e : fneed [fB b3] = 1 := by show (if (0 : Int) ≤ 0 ∧ (0 : Int) < 32 then 2 ^ (0 : Int).toNat else 0) ||| 0 = 1; decide +kernel
  rw [e]
  decide +kernel
theorem qB_v (b1 b2 b5 : Nat) : cvA (sB b1 b2).V (qneed (qB' b5)) [9, 1, 3] (1 + (sB b1 b2).nv) = 2 := by
  show cvA [3, 1, 2] (2 ||| 0) [9, 1, 3] 3 = 2
  decide +kernel
theorem awake30 (w : World) : Calls Try.prog 17 #[] w fun e w' => e = .returned (.bool true) ∧ Ext w w' := by
  refine enter Try.func17 rfl (by kernel_rfl) ?_
  refine J.seq ?_
  refine J.region ?_
  refine L.va rfl (X.assign (by conv => lhs; whnf)) ?_
  refine L.nil ?_
  refine J.seq ?_
  refine J.region ?_
  refine L.va rfl (X.build (l := [_, _]) (Evs.cons (by conv => lhs; whnf) (Evs.cons (by conv => lhs; whnf) Evs.nil)) (bld_run Try.underlying88 (bp_88 Try.underlying88) zr_88 rfl)) ?_
  refine L.va rfl (X.build (l := [_, _]) (Evs.cons (by conv => lhs; whnf) (Evs.cons (by conv => lhs; whnf) Evs.nil)) (bld_run Try.underlying88 (bp_88 Try.underlying88) zr_88 rfl)) ?_
  -- buildSlice
  refine L.bsliceR (ls := [[_, _], [_, _]]) rfl (Evs.cons (by conv => lhs; whnf) (Evs.cons (by conv => lhs; whnf) Evs.nil)) rfl rfl rfl rfl Try.underlying30 sz_88 zr_88 (by decide) ?_
  intro b1 w1 hb1 hs1 hk1 he1
  -- buildSlice
  refine L.bslice (vs := [_, _]) rfl (Evs.cons (by conv => lhs; whnf) (Evs.cons (by conv => lhs; whnf) Evs.nil)) rfl rfl rfl rfl Try.underlying32 sz_35 zr_35 (by decide) ?_
  intro b2 w2 hb2 hs2 hk2 he2
  refine L.va rfl (X.build (l := [_, _, _, _]) (Evs.cons (by conv => lhs; whnf) (Evs.cons (by conv => lhs; whnf) Evs.nil)) (bld_run Try.underlying34 (bp_34 Try.underlying34) zr_34 rfl)) ?_
  -- alloc
  refine L.alloc rfl zr_34 ?_
  intro b3 w3 hb3 hs3 hk3 he3
  -- store
  refine L.storeAgg (vs := [_, _, _, _]) rfl rfl rfl rfl sz_34 (hk3) rfl ?_
  intro w4 hk4 hg4 hs4
  have he14 : Ext w1 w4 := (he2.trans he3).grw hg4 (by intro g hg; injection hg with hg; omega)
  have he24 : Ext w2 w4 := he3.grw hg4 (by intro g hg; injection hg with hg; omega)
  have he04 := he1.trans he14
  have hk14 := hk1.ext he14
  have hk24 := hk2.ext he24
  have H4 : (sB b1 b2).Here w4 := sB_here b1 b2 hk14 hk24
  refine L.nil ?_
  refine J.seq ?_
  refine J.region ?_
  -- buildSlice
  refine L.bslice (vs := [_]) rfl (Evs.cons (by conv => lhs; whnf) Evs.nil) rfl rfl rfl rfl Try.underlying25 sz_3 zr_3 (by decide) ?_
  intro b5 w5 hb5 hs5 hk5 he5
  refine L.va rfl (X.build (l := [_, _]) (Evs.cons (by conv => lhs; whnf) (Evs.cons (by conv => lhs; whnf) Evs.nil)) (bld_run Try.underlying90 (bp_90 Try.underlying90) zr_90 rfl)) ?_
  -- buildSlice
  refine L.bslice1 (l := [_, _]) rfl rfl rfl Try.underlying36 sz_90 zr_90 rfl ?_
  intro b6 w6 hb6 hs6 hk6 he6
  refine L.va rfl (X.build (l := [_, _]) Evs.nil (bld_run Try.underlying92 (bp_92 Try.underlying92) zr_92 rfl)) ?_
  -- buildSlice
  refine L.bslice1 (l := [_, _]) rfl rfl rfl Try.underlying37 sz_92 zr_92 rfl ?_
  intro b7 w7 hb7 hs7 hk7 he7
  refine L.va rfl (X.build (l := [_, _, _, _, _]) (Evs.cons (by conv => lhs; whnf) (Evs.cons (by conv => lhs; whnf) (Evs.cons (by conv => lhs; whnf) Evs.nil))) (bld_run Try.underlying40 (bp_40 Try.underlying40) zr_40 rfl)) ?_
  -- alloc
  refine L.alloc rfl zr_40 ?_
  intro b8 w8 hb8 hs8 hk8 he8
  -- store
  refine L.storeAgg (vs := [_, _, _, _, _]) rfl rfl rfl rfl sz_40 (hk8) rfl ?_
  intro w9 hk9 hg9 hs9
  have z5 := he5.le
  have z6 := he6.le
  have z7 := he7.le
  have z8 := he8.le
  have he79 : Ext w7 w9 := he8.grw hg9 (by intro g hg; injection hg with hg; omega)
  have he69 : Ext w6 w9 := (he7.trans he8).grw hg9 (by intro g hg; injection hg with hg; omega)
  have he59 : Ext w5 w9 := ((he6.trans he7).trans he8).grw hg9 (by intro g hg; injection hg with hg; omega)
  have he49 : Ext w4 w9 := he5.trans he59
  have hk9 : Blk w9 b8 40 (qB b5 b6 b7).vs.toArray := hk9
  have hk59 := hk5.ext he59
  have hk69 := hk6.ext he69
  have hk79 := hk7.ext he79
  have q9 : (qB b5 b6 b7).At w9.heap.size w9 := ⟨(show 2 < 4294967296 by decide), ⟨blk_readsN hk69 hk69.lt rfl, fun x hx => by
    obtain rfl : x = fB b5 := by simpa using hx
    exact ⟨blk_reads hk59 hk59.lt rfl, (show 1 ≤ maxLen by decide)⟩, rfl, (show 1 ≤ maxLen by decide)⟩, blk_readsN hk79 hk79.lt rfl, rfl, (show 1 ≤ maxLen by decide), Reads.none_, rfl, Nat.zero_le _⟩
  have k9 := hk4.ext he49
  refine L.nil ?_
  refine J.seq ?_
  refine J.region ?_
  refine L.va rfl ((by first | exact X.loadAgg rfl (range_l k9) Try.underlying34 rfl (by kernel_rfl) | exact X.loadAgg rfl (range_blk k9) Try.underlying34 rfl (by kernel_rfl) | exact X.loadAgg rfl (range_l hk9) Try.underlying34 rfl (by kernel_rfl) | exact X.loadAgg rfl (range_blk hk9) Try.underlying34 rfl (by kernel_rfl))) ?_
  refine L.va rfl ((by first | exact X.loadAgg rfl (range_l k9) Try.underlying40 rfl (by kernel_rfl) | exact X.loadAgg rfl (range_blk k9) Try.underlying40 rfl (by kernel_rfl) | exact X.loadAgg rfl (range_l hk9) Try.underlying40 rfl (by kernel_rfl) | exact X.loadAgg rfl (range_blk hk9) Try.underlying40 rfl (by kernel_rfl))) ?_
  -- callfn bushel/plan.Serve
  have c1 := serve_yes (H4.ext he49) q9 (qB_c b1 b2 b5 b6 b7)
  rw [qB_s] at c1
  refine L.call rfl en_18 rfl (c1) ?_
  rintro e w10 ⟨A10, c10, rfl, ho10, he10⟩
  refine ⟨_, rfl, ?_⟩
  have he10 : Ext w9 w10 := he10
  have k10 := k9.ext he10
  have hk10 := hk9.ext he10
  have ho10 : w10.ownsRow w9.heap.size 3 1 (.slice A10 1 c10) 1 (nums .i64 [0]) := ho10
  refine L.va rfl (X.move (by conv => lhs; whnf)) ?_
  refine L.va rfl (X.extract rfl rfl) ?_
  refine L.va rfl (X.extract rfl rfl) ?_
  refine L.va rfl (X.assign (by conv => lhs; whnf)) ?_
  refine L.va rfl (X.assign (by conv => lhs; whnf)) ?_
  refine L.nil ?_
  refine J.seq ?_
  refine J.region ?_
  refine L.va rfl (X.fieldAddr rfl Try.underlying40 rfl sz_36 (by decide)) ?_
  -- store
  refine L.store rfl rfl (by conv => lhs; whnf) rfl sz_36 (hk10) (by first | decide | exact Nat.le_of_ble_eq_true rfl) ?_
  intro w11 hk11 hg11 hs11
  have g11 : ∀ {u}, Ext u w10 → u.heap.size ≤ w7.heap.size → Ext u w11 := fun he hu => he.grw hg11 (by intro g hg; injection hg with hg; omega)
  have z9 := he79.le
  have z10 := he10.le
  have he711 := g11 (he79.trans he10) (Nat.le_refl _)
  have he411 : Ext w4 w11 := (((he5.trans he6).trans he7).trans he711)
  have hk11 : Blk w11 b8 40 (qB' b7).vs.toArray := hk11
  have hk711 := hk7.ext he711
  have q11 : (qB' b7).At w11.heap.size w11 := ⟨(show 2 < 4294967296 by decide), ⟨Reads.none_, (fun x hx => by cases hx), rfl, Nat.zero_le _⟩, blk_readsN hk711 hk711.lt rfl, rfl, (show 1 ≤ maxLen by decide), Reads.none_, rfl, Nat.zero_le _⟩
  have k11 := hk4.ext he411
  have ho11 := ho10.kept hg11 (.inr (own_blk_ne ho10 hk10 (by decide)))
  refine L.nil ?_
  refine J.seq ?_
  refine J.region ?_
  refine L.va rfl ((by first | exact X.loadAgg rfl (range_l k11) Try.underlying34 rfl (by kernel_rfl) | exact X.loadAgg rfl (range_blk k11) Try.underlying34 rfl (by kernel_rfl) | exact X.loadAgg rfl (range_l hk11) Try.underlying34 rfl (by kernel_rfl) | exact X.loadAgg rfl (range_blk hk11) Try.underlying34 rfl (by kernel_rfl))) ?_
  -- buildSlice
  refine L.bslice (vs := [_, _, _]) rfl (Evs.cons (by conv => lhs; whnf) (Evs.cons (by conv => lhs; whnf) (Evs.cons (by conv => lhs; whnf) Evs.nil))) rfl rfl rfl rfl Try.underlying25 sz_3 zr_3 (by decide) ?_
  intro b12 w12 hb12 hs12 hk12 he12
  have k12 := k11.ext he12
  have hk112 := hk11.ext he12
  refine L.va rfl ((by first | exact X.loadAgg rfl (range_l k12) Try.underlying40 rfl (by kernel_rfl) | exact X.loadAgg rfl (range_blk k12) Try.underlying40 rfl (by kernel_rfl) | exact X.loadAgg rfl (range_l hk112) Try.underlying40 rfl (by kernel_rfl) | exact X.loadAgg rfl (range_blk hk112) Try.underlying40 rfl (by kernel_rfl))) ?_
  -- callfn bushel/plan.Pick
  have c2 := pick_yes ⟨some ⟨b12, 0, none⟩, 3, 3, [9, 1, 3]⟩ (H4.ext (he411.trans he12)) ((q11.ext he12).more he12.le) ⟨blk_reads hk12 hk12.lt rfl⟩ (qB_c' b1 b2 b7)
  rw [qB_v] at c2
  refine L.call rfl en_19 rfl (c2) ?_
  rintro e w13 ⟨rfl, he13⟩
  refine ⟨_, rfl, ?_⟩
  have he13 : Ext w12 w13 := he13
  have ho13 := (ho11.ext he12).ext he13
  refine L.va rfl (X.move (by conv => lhs; whnf)) ?_
  refine L.va rfl (X.extract rfl rfl) ?_
  refine L.va rfl (X.extract rfl rfl) ?_
  refine L.va rfl (X.assign (by conv => lhs; whnf)) ?_
  refine L.va rfl (X.assign (by conv => lhs; whnf)) ?_
  refine L.nil ?_
  refine J.seq ?_
  refine J.region ?_
  refine L.va rfl (X.move (by conv => lhs; whnf)) ?_
  refine L.va rfl (X.eql rfl rfl) ?_
  refine L.va rfl (X.move (by conv => lhs; whnf)) ?_
  -- case t34
  refine L.caseDecT (k := 34) rfl (by rfl) ?_
  refine L.va rfl (X.move (by conv => lhs; whnf)) ?_
  -- buildSlice
  refine L.bslice (vs := [_]) rfl (Evs.cons (by conv => lhs; whnf) Evs.nil) rfl rfl rfl rfl Try.underlying25 sz_3 zr_3 (by decide) ?_
  intro b14 w14 hb14 hs14 hk14' he14'
  -- callfn bushel/bushelref16.Ints
  refine L.call rfl en_14 rfl (ints16 A10 1 c10 _ _ _ [0] [0] w14 (Reads.of_own (ho13.ext he14')) (blk_reads hk14' hk14'.lt rfl) (by decide) (by decide)) ?_
  rintro e w15 ⟨rfl, he15⟩
  refine ⟨_, rfl, ?_⟩
  rw [eqI_self]
  refine L.va rfl (X.pickT rfl (by conv => lhs; whnf)) ?_
  refine L.va rfl (X.move (by conv => lhs; whnf)) ?_
  -- case t39
  refine L.caseBT (k := 39) rfl (by rfl) ?_
  refine L.va rfl (X.move (by conv => lhs; whnf)) ?_
  refine L.va rfl (X.eql rfl rfl) ?_
  refine L.va rfl (X.pickT rfl (by conv => lhs; whnf)) ?_
  refine L.va rfl (X.move (by conv => lhs; whnf)) ?_
  -- case t43
  refine L.caseDecT (k := 43) rfl (by rfl) ?_
  refine L.va rfl (X.move (by conv => lhs; whnf)) ?_
  refine L.va rfl (X.eql rfl rfl) ?_
  refine L.va rfl (X.pickT rfl (by conv => lhs; whnf)) ?_
  refine L.va rfl (X.assign (by conv => lhs; whnf)) ?_
  refine L.nil ?_
  -- ret
  refine J.ret ?_
  refine fin1 ?_
  exact ⟨rfl, (((he04.trans he411).trans (he12.trans he13)).trans he14').trans he15⟩
end Go.Proofs.Ytlohbkcedpkjaaa
