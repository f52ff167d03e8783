/-
  The law DiffSchemas, walked.
-/
import Derived.Test.YtdmfikedojgjbaaWDiffB
import Derived.Test.YtdmfikedojgjbaaWDiffJ
import Derived.Test.YtdmfikedojgjbaaDiffPlainB
namespace Go.Proofs.Ytdmfikedojgjbaa
set_option maxRecDepth 100000
open Go.RowKit H
set_option linter.unusedVariables false
theorem law_DiffSchemas (w : World) (vs0 : List Value) (a0 : (List ((Str) × (Nm .i64))) × (List (Str)) × (List (Str)) × (List (Nm .u32))) (hl0 : Lay.lies w w.heap.size vs0 a0) (vs1 : List Value) (a1 : (List ((Str) × (Nm .i64))) × (List (Str)) × (List (Str)) × (List (Nm .u32))) (hl1 : Lay.lies w w.heap.size vs1 a1) :
    Calls Try.prog 12 #[.agg vs0.toArray, .agg vs1.toArray] w fun e w' => e = .returned (.bool true) ∧ Below w.heap.size w w' := by
  obtain ⟨s, rfl, hH⟩ := sch_of hl0
  obtain ⟨t, rfl, kH⟩ := sch_of hl1
  refine enter Try.func12 rfl (by kernel_rfl) ?_
  refine J.seq ?_
  refine J.region ?_
  -- box
  refine L.boxA (l := [_, _, _, _]) rfl rfl ?_
  intro b1 w1 hb1 hs1 hk1 he1
  -- box
  refine L.boxA (l := [_, _, _, _]) rfl rfl ?_
  intro b2 w2 hb2 hs2 hk2 he2
  have hk12 := hk1.ext he2
  have he02 := he1.trans he2
  refine L.va rfl (X.assign (by conv => lhs; whnf)) ?_
  refine L.nil ?_
  refine J.seq ?_
  refine J.seq ?_
  refine J.region ?_
  refine L.va rfl ((by first | exact X.loadAgg rfl (range_l hk12) Try.underlying97 rfl (by kernel_rfl) | exact X.loadAgg rfl (range_blk hk12) Try.underlying97 rfl (by kernel_rfl) | exact X.loadAgg rfl (range_l hk2) Try.underlying97 rfl (by kernel_rfl) | exact X.loadAgg rfl (range_blk hk2) Try.underlying97 rfl (by kernel_rfl))) ?_
  -- callfn bushel/bushelref11.Light
  refine L.call rfl en_48 rfl ((hH.ext he02).light) ?_
  rintro e w3 ⟨l1, rfl, hl1', he3⟩
  refine ⟨_, rfl, ?_⟩
  have he3 : Ext w2 w3 := he3
  have he03 := he02.trans he3
  replace hk12 := hk12.ext he3
  replace hk2 := hk2.ext he3
  refine L.va rfl (X.not rfl) ?_
  refine L.va rfl (X.move (by conv => lhs; whnf)) ?_
  -- case t9
  cases l1
  · refine L.caseBT (k := 9) rfl (by rfl) ?_
    refine L.no rfl ?_
    refine L.no rfl ?_
    refine L.no rfl ?_
    refine L.va rfl (X.pickT rfl (by conv => lhs; whnf)) ?_
    refine L.va rfl (X.move (by conv => lhs; whnf)) ?_
    refine L.no rfl ?_
    refine L.no rfl ?_
    refine L.no rfl ?_
    refine L.va rfl (X.pickT rfl (by conv => lhs; whnf)) ?_
    refine L.va rfl (X.move (by conv => lhs; whnf)) ?_
    refine L.no rfl ?_
    refine L.no rfl ?_
    refine L.no rfl ?_
    refine L.va rfl (X.pickT rfl (by conv => lhs; whnf)) ?_
    refine L.nil ?_
    -- cond
    refine J.iteT rfl ?_
    refine J.seq ?_
    refine J.region ?_
    -- callfn bushel/bushellaw43.awake
    refine L.call rfl en_44 rfl (awake43 _) ?_
    rintro e w4 ⟨rfl, he4⟩
    refine ⟨_, rfl, ?_⟩
    refine L.va rfl (X.assign (by conv => lhs; whnf)) ?_
    refine L.nil ?_
    -- ret
    refine J.ret ?_
    refine thn_ret <| ?_
    refine fin1 ?_
    exact ⟨rfl, he03.trans he4⟩
  · refine L.caseBF (k := 9) rfl (by rfl) ?_
    refine L.va rfl ((by first | exact X.loadAgg rfl (range_l hk12) Try.underlying97 rfl (by kernel_rfl) | exact X.loadAgg rfl (range_blk hk12) Try.underlying97 rfl (by kernel_rfl) | exact X.loadAgg rfl (range_l hk2) Try.underlying97 rfl (by kernel_rfl) | exact X.loadAgg rfl (range_blk hk2) Try.underlying97 rfl (by kernel_rfl))) ?_
    -- callfn bushel/bushelref11.Light
    refine L.call rfl en_48 rfl ((kH.ext he03).light) ?_
    rintro e w4 ⟨l2, rfl, hl2', he4⟩
    refine ⟨_, rfl, ?_⟩
    have he4 : Ext w3 w4 := he4
    have he04 := he03.trans he4
    replace hk12 := hk12.ext he4
    replace hk2 := hk2.ext he4
    refine L.va rfl (X.not rfl) ?_
    refine L.va rfl (X.pickF rfl (by conv => lhs; whnf)) ?_
    refine L.va rfl (X.move (by conv => lhs; whnf)) ?_
    -- case t14
    cases l2
    · refine L.caseBT (k := 14) rfl (by rfl) ?_
      refine L.no rfl ?_
      refine L.no rfl ?_
      refine L.no rfl ?_
      refine L.va rfl (X.pickT rfl (by conv => lhs; whnf)) ?_
      refine L.va rfl (X.move (by conv => lhs; whnf)) ?_
      refine L.no rfl ?_
      refine L.no rfl ?_
      refine L.no rfl ?_
      refine L.va rfl (X.pickT rfl (by conv => lhs; whnf)) ?_
      refine L.nil ?_
      -- cond
      refine J.iteT rfl ?_
      refine J.seq ?_
      refine J.region ?_
      -- callfn bushel/bushellaw43.awake
      refine L.call rfl en_44 rfl (awake43 _) ?_
      rintro e w5 ⟨rfl, he5⟩
      refine ⟨_, rfl, ?_⟩
      refine L.va rfl (X.assign (by conv => lhs; whnf)) ?_
      refine L.nil ?_
      -- ret
      refine J.ret ?_
      refine thn_ret <| ?_
      refine fin1 ?_
      exact ⟨rfl, he04.trans he5⟩
    · refine L.caseBF (k := 14) rfl (by rfl) ?_
      have hs4 := (hH.ext he04).here (hl1' rfl)
      have ht4 := (kH.ext he04).here (hl2' rfl)
      refine L.va rfl ((by first | exact X.loadAgg rfl (range_l hk12) Try.underlying97 rfl (by kernel_rfl) | exact X.loadAgg rfl (range_blk hk12) Try.underlying97 rfl (by kernel_rfl) | exact X.loadAgg rfl (range_l hk2) Try.underlying97 rfl (by kernel_rfl) | exact X.loadAgg rfl (range_blk hk2) Try.underlying97 rfl (by kernel_rfl))) ?_
      -- callfn bushel/bushelref11.Check
      refine L.call rfl en_49 rfl (hs4.rcheck) ?_
      rintro e w5 ⟨rfl, he5⟩
      refine ⟨_, rfl, ?_⟩
      have he5 : Ext w4 w5 := he5
      have he05 := he04.trans he5
      have hs5 := hs4.ext he5
      have ht5 := ht4.ext he5
      replace hk12 := hk12.ext he5
      replace hk2 := hk2.ext he5
      refine L.va rfl (X.neq rfl rfl) ?_
      refine L.va rfl (X.pickF rfl (by conv => lhs; whnf)) ?_
      refine L.va rfl (X.move (by conv => lhs; whnf)) ?_
      -- case t19
      by_cases hc1 : s.code = 0
      · refine L.caseNdecF (k := 19) rfl (by exact hc1) ?_
        refine L.va rfl ((by first | exact X.loadAgg rfl (range_l hk12) Try.underlying97 rfl (by kernel_rfl) | exact X.loadAgg rfl (range_blk hk12) Try.underlying97 rfl (by kernel_rfl) | exact X.loadAgg rfl (range_l hk2) Try.underlying97 rfl (by kernel_rfl) | exact X.loadAgg rfl (range_blk hk2) Try.underlying97 rfl (by kernel_rfl))) ?_
        -- callfn bushel/bushelref11.Check
        refine L.call rfl en_49 rfl (ht5.rcheck) ?_
        rintro e w6 ⟨rfl, he6⟩
        refine ⟨_, rfl, ?_⟩
        have he6 : Ext w5 w6 := he6
        have he06 := he05.trans he6
        have hs6 := hs5.ext he6
        have ht6 := ht5.ext he6
        replace hk12 := hk12.ext he6
        replace hk2 := hk2.ext he6
        refine L.va rfl (X.neq rfl rfl) ?_
        refine L.va rfl (X.pickF rfl (by conv => lhs; whnf)) ?_
        refine L.nil ?_
        -- cond
        by_cases hc2 : t.code = 0
        · refine J.ndecF rfl (by exact hc2) ?_
          have hS := hs6.short hc1
          have kS := ht6.short hc2
          have hU := Sch.uniq_of hc2
          have hdl := Sch.dif_len hs6 ht6
          refine J.skip ?_
          refine J.seq ?_
          refine J.region ?_
          refine L.va rfl ((by first | exact X.loadAgg rfl (range_l hk12) Try.underlying97 rfl (by kernel_rfl) | exact X.loadAgg rfl (range_blk hk12) Try.underlying97 rfl (by kernel_rfl) | exact X.loadAgg rfl (range_l hk2) Try.underlying97 rfl (by kernel_rfl) | exact X.loadAgg rfl (range_blk hk2) Try.underlying97 rfl (by kernel_rfl))) ?_
          refine L.va rfl ((by first | exact X.loadAgg rfl (range_l hk12) Try.underlying97 rfl (by kernel_rfl) | exact X.loadAgg rfl (range_blk hk12) Try.underlying97 rfl (by kernel_rfl) | exact X.loadAgg rfl (range_l hk2) Try.underlying97 rfl (by kernel_rfl) | exact X.loadAgg rfl (range_blk hk2) Try.underlying97 rfl (by kernel_rfl))) ?_
          -- callfn bushel/diff.Schema
          refine L.call rfl en_50 rfl (hs6.dschema ht6 hS kS (Sch.size_rng hc2)) ?_
          rintro e w7 ⟨A7, c7, rfl, ho7, he7⟩
          refine ⟨_, rfl, ?_⟩
          have he7 : Ext w6 w7 := he7
          have he07 := he06.trans he7
          have hs7 := hs6.ext he7
          have ht7 := ht6.ext he7
          replace hk12 := hk12.ext he7
          replace hk2 := hk2.ext he7
          refine L.va rfl (X.assign (by conv => lhs; whnf)) ?_
          refine L.nil ?_
          refine J.seq ?_
          refine J.region ?_
          refine L.va rfl (X.move (by conv => lhs; whnf)) ?_
          refine L.va rfl ((by first | exact X.loadAgg rfl (range_l hk12) Try.underlying97 rfl (by kernel_rfl) | exact X.loadAgg rfl (range_blk hk12) Try.underlying97 rfl (by kernel_rfl) | exact X.loadAgg rfl (range_l hk2) Try.underlying97 rfl (by kernel_rfl) | exact X.loadAgg rfl (range_blk hk2) Try.underlying97 rfl (by kernel_rfl))) ?_
          refine L.va rfl ((by first | exact X.loadAgg rfl (range_l hk12) Try.underlying97 rfl (by kernel_rfl) | exact X.loadAgg rfl (range_blk hk12) Try.underlying97 rfl (by kernel_rfl) | exact X.loadAgg rfl (range_l hk2) Try.underlying97 rfl (by kernel_rfl) | exact X.loadAgg rfl (range_blk hk2) Try.underlying97 rfl (by kernel_rfl))) ?_
          -- callfn bushel/bushelref43.Schema
          refine L.call rfl en_52 rfl (hs7.rschema ht7 hS kS hU) ?_
          rintro e w8 ⟨A8, c8, rfl, ho8, he8⟩
          refine ⟨_, rfl, ?_⟩
          have he8 : Ext w7 w8 := he8
          have he08 := he07.trans he8
          have hs8 := hs7.ext he8
          have ht8 := ht7.ext he8
          replace hk12 := hk12.ext he8
          replace hk2 := hk2.ext he8
          -- callfn bushel/bushelref10.Same
          refine L.call rfl en_51 rfl (rstreq_any A7 _ c7 A8 _ c8 (Sch.dif s t) (Sch.dif s t) _ (Reads.of_own (ho7.ext he8)) (Reads.of_own ho8) hdl hdl) ?_
          rintro e w9 ⟨rfl, he9⟩
          refine ⟨_, rfl, ?_⟩
          have he9 : Ext w8 w9 := he9
          have he09 := he08.trans he9
          have hs9 := hs8.ext he9
          have ht9 := ht8.ext he9
          replace hk12 := hk12.ext he9
          replace hk2 := hk2.ext he9
          rw [show decide (Sch.dif s t = Sch.dif s t) = true from decide_eq_true rfl]
          refine L.va rfl (X.move (by conv => lhs; whnf)) ?_
          -- case t33
          refine L.caseBT (k := 33) rfl (by rfl) ?_
          refine L.va rfl (X.move (by conv => lhs; whnf)) ?_
          refine L.va rfl (X.len rfl Try.underlying94) ?_
          refine L.va rfl (X.eql rfl rfl) ?_
          refine L.va rfl ((by first | exact X.loadAgg rfl (range_l hk12) Try.underlying97 rfl (by kernel_rfl) | exact X.loadAgg rfl (range_blk hk12) Try.underlying97 rfl (by kernel_rfl) | exact X.loadAgg rfl (range_l hk2) Try.underlying97 rfl (by kernel_rfl) | exact X.loadAgg rfl (range_blk hk2) Try.underlying97 rfl (by kernel_rfl))) ?_
          refine L.va rfl ((by first | exact X.loadAgg rfl (range_l hk12) Try.underlying97 rfl (by kernel_rfl) | exact X.loadAgg rfl (range_blk hk12) Try.underlying97 rfl (by kernel_rfl) | exact X.loadAgg rfl (range_l hk2) Try.underlying97 rfl (by kernel_rfl) | exact X.loadAgg rfl (range_blk hk2) Try.underlying97 rfl (by kernel_rfl))) ?_
          -- callfn bushel/bushelref11.Same
          refine L.call rfl en_53 rfl (hs9.rsame ht9) ?_
          rintro e w10 ⟨rfl, he10⟩
          refine ⟨_, rfl, ?_⟩
          have he10 : Ext w9 w10 := he10
          have he010 := he09.trans he10
          have eq : decide (((Sch.dif s t).length : Int) = 0) = decide (s.eqv t) := decide_eq_decide.2 ⟨fun h => (Sch.dif_nil hU).1 (by omega), fun h => by have := (Sch.dif_nil hU).2 h; omega⟩
          rw [eq]
          refine L.va rfl (X.eqlB rfl rfl Try.underlying4) ?_
          refine L.va rfl (X.pickT rfl (by conv => lhs; whnf)) ?_
          refine L.va rfl (X.move (by conv => lhs; whnf)) ?_
          -- case t42
          rw [show (decide (s.eqv t) == decide (s.eqv t)) = true from beq_self_eq_true _]
          refine L.caseBT (k := 42) rfl (by rfl) ?_
          -- callfn bushel/bushellaw43.awake
          refine L.call rfl en_44 rfl (awake43 _) ?_
          rintro e w11 ⟨rfl, he11⟩
          refine ⟨_, rfl, ?_⟩
          refine L.va rfl (X.pickT rfl (by conv => lhs; whnf)) ?_
          refine L.va rfl (X.assign (by conv => lhs; whnf)) ?_
          refine L.nil ?_
          -- ret
          refine J.ret ?_
          refine fin1 ?_
          exact ⟨rfl, he010.trans he11⟩
        · refine J.ndecT rfl (by exact hc2) ?_
          refine J.seq ?_
          refine J.region ?_
          -- callfn bushel/bushellaw43.awake
          refine L.call rfl en_44 rfl (awake43 _) ?_
          rintro e w7 ⟨rfl, he7⟩
          refine ⟨_, rfl, ?_⟩
          refine L.va rfl (X.assign (by conv => lhs; whnf)) ?_
          refine L.nil ?_
          -- ret
          refine J.ret ?_
          refine thn_ret <| ?_
          refine fin1 ?_
          exact ⟨rfl, he06.trans he7⟩
      · refine L.caseNdecT (k := 19) rfl (by exact hc1) ?_
        refine L.no rfl ?_
        refine L.no rfl ?_
        refine L.no rfl ?_
        refine L.va rfl (X.pickT rfl (by conv => lhs; whnf)) ?_
        refine L.nil ?_
        -- cond
        refine J.iteT rfl ?_
        refine J.seq ?_
        refine J.region ?_
        -- callfn bushel/bushellaw43.awake
        refine L.call rfl en_44 rfl (awake43 _) ?_
        rintro e w6 ⟨rfl, he6⟩
        refine ⟨_, rfl, ?_⟩
        refine L.va rfl (X.assign (by conv => lhs; whnf)) ?_
        refine L.nil ?_
        -- ret
        refine J.ret ?_
        refine thn_ret <| ?_
        refine fin1 ?_
        exact ⟨rfl, he05.trans he6⟩
end Go.Proofs.Ytdmfikedojgjbaa
