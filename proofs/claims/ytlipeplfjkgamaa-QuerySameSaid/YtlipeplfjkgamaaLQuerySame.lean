/-
  The law QuerySame, walked.
-/
import Derived.Test.YtlipeplfjkgamaaWQryH
import Derived.Test.YtlipeplfjkgamaaWQryQ
import Derived.Test.YtlipeplfjkgamaaWQryIn
import Derived.Test.YtlipeplfjkgamaaWLight
namespace Go.Proofs.Ytlipeplfjkgamaa
set_option maxRecDepth 100000
open Go.RowKit H
set_option linter.unusedVariables false
theorem Qu.eqv_refl (a : Qu) : decide (a.Eqv a) = true := decide_eq_true ⟨rfl, rfl, rfl, rfl, rfl⟩
theorem law_QuerySame (w : World) (vs0 : List Value) (a0 : (Nm .u32) × (List ((Nm .i64) × (List (Nm .i64)))) × (List ((Nm .i64) × (Nm .i64))) × (List ((Nm .i64) × (Bool))) × (Nm .i64)) (hl0 : Lay.lies w w.heap.size vs0 a0) (vs1 : List Value) (a1 : (Nm .u32) × (List ((Nm .i64) × (List (Nm .i64)))) × (List ((Nm .i64) × (Nm .i64))) × (List ((Nm .i64) × (Bool))) × (Nm .i64)) (hl1 : Lay.lies w w.heap.size vs1 a1) :
    Calls Try.prog 7 #[.agg vs0.toArray, .agg vs1.toArray] w fun e w' => e = .returned (.bool true) ∧ Below w.heap.size w w' := by
  obtain ⟨a, rfl, ha⟩ := qu_of hl0
  obtain ⟨b, rfl, hb⟩ := qu_of hl1
  refine enter Try.func7 rfl (by kernel_rfl) ?_
  refine J.seq ?_
  refine J.region ?_
  -- box
  refine L.boxA (l := [_, _, _, _, _]) rfl rfl ?_
  intro b1 w1 hb1 hs1 hk1 he1
  -- box
  refine L.boxA (l := [_, _, _, _, _]) rfl rfl ?_
  intro b2 w2 hb2 hs2 hk2 he2
  have hk12 := hk1.ext he2
  have he02 := he1.trans he2
  have hk12 : Blk w2 b1 54 a.vs.toArray := hk12
  have hk2 : Blk w2 b2 54 b.vs.toArray := hk2
  refine L.va rfl (X.assign (by conv => lhs; whnf)) ?_
  refine L.nil ?_
  refine J.seq ?_
  refine J.seq ?_
  refine J.region ?_
  refine L.va rfl ((by first | exact X.loadAgg rfl (range_l hk12) Try.underlying54 rfl (by kernel_rfl) | exact X.loadAgg rfl (range_blk hk12) Try.underlying54 rfl (by kernel_rfl) | exact X.loadAgg rfl (range_l hk2) Try.underlying54 rfl (by kernel_rfl) | exact X.loadAgg rfl (range_blk hk2) Try.underlying54 rfl (by kernel_rfl))) ?_
  -- callfn bushel/bushelref29.Light
  refine L.call rfl en_30 rfl (light29 a ((ha.ext he02).more he02.le)) ?_
  rintro e w3 ⟨⟨l1, rfl⟩, he3⟩
  refine ⟨_, rfl, ?_⟩
  have he03 := he02.trans he3
  replace hk12 := hk12.ext he3
  replace hk2 := hk2.ext he3
  refine L.va rfl (X.not rfl) ?_
  refine L.va rfl (X.move (by conv => lhs; whnf)) ?_
  -- case t8
  cases l1
  · refine L.caseBT (k := 8) rfl (by rfl) ?_
    refine L.no rfl ?_
    refine L.no rfl ?_
    refine L.no rfl ?_
    refine L.va rfl (X.pickT rfl (by conv => lhs; whnf)) ?_
    refine L.nil ?_
    -- cond
    refine J.iteT rfl ?_
    refine J.seq ?_
    refine J.region ?_
    -- callfn bushel/bushellaw29.awake
    refine L.call rfl en_31 rfl (awake29 _) ?_
    rintro e w4 ⟨rfl, he4⟩
    refine ⟨_, rfl, ?_⟩
    refine L.va rfl (X.assign (by conv => lhs; whnf)) ?_
    refine L.nil ?_
    -- ret
    refine J.ret ?_
    refine thn_ret <| ?_
    refine fin1 ?_
    exact ⟨rfl, he03.trans he4⟩
  · refine L.caseBF (k := 8) rfl (by rfl) ?_
    refine L.va rfl ((by first | exact X.loadAgg rfl (range_l hk12) Try.underlying54 rfl (by kernel_rfl) | exact X.loadAgg rfl (range_blk hk12) Try.underlying54 rfl (by kernel_rfl) | exact X.loadAgg rfl (range_l hk2) Try.underlying54 rfl (by kernel_rfl) | exact X.loadAgg rfl (range_blk hk2) Try.underlying54 rfl (by kernel_rfl))) ?_
    -- callfn bushel/bushelref29.Light
    refine L.call rfl en_30 rfl (light29 b ((hb.ext he03).more he03.le)) ?_
    rintro e w4 ⟨⟨l2, rfl⟩, he4⟩
    refine ⟨_, rfl, ?_⟩
    have he04 := he03.trans he4
    replace hk12 := hk12.ext he4
    replace hk2 := hk2.ext he4
    refine L.va rfl (X.not rfl) ?_
    refine L.va rfl (X.pickF rfl (by conv => lhs; whnf)) ?_
    refine L.nil ?_
    -- cond
    cases l2
    · refine J.iteT rfl ?_
      refine J.seq ?_
      refine J.region ?_
      -- callfn bushel/bushellaw29.awake
      refine L.call rfl en_31 rfl (awake29 _) ?_
      rintro e w5 ⟨rfl, he5⟩
      refine ⟨_, rfl, ?_⟩
      refine L.va rfl (X.assign (by conv => lhs; whnf)) ?_
      refine L.nil ?_
      -- ret
      refine J.ret ?_
      refine thn_ret <| ?_
      refine fin1 ?_
      exact ⟨rfl, he04.trans he5⟩
    · refine J.iteF rfl ?_
      have A4 := (ha.ext he04)
      have B4 := (hb.ext he04)
      have z4 := he04.le
      refine J.skip ?_
      refine J.seq ?_
      -- draw
      refine J.quiet mixed (by kernel_rfl) ?_
      refine Qt.va rfl (fun w' hw => (by first | exact X.loadAgg rfl (range_l (hk12.ext hw)) Try.underlying54 rfl (by kernel_rfl) | exact X.loadAgg rfl (range_blk (hk12.ext hw)) Try.underlying54 rfl (by kernel_rfl) | exact X.loadAgg rfl (range_l (hk2.ext hw)) Try.underlying54 rfl (by kernel_rfl) | exact X.loadAgg rfl (range_blk (hk2.ext hw)) Try.underlying54 rfl (by kernel_rfl))) ?_
      refine Qt.va rfl (fun w' hw => (by first | exact X.loadAgg rfl (range_l (hk12.ext hw)) Try.underlying54 rfl (by kernel_rfl) | exact X.loadAgg rfl (range_blk (hk12.ext hw)) Try.underlying54 rfl (by kernel_rfl) | exact X.loadAgg rfl (range_l (hk2.ext hw)) Try.underlying54 rfl (by kernel_rfl) | exact X.loadAgg rfl (range_blk (hk2.ext hw)) Try.underlying54 rfl (by kernel_rfl))) ?_
      -- callfn bushel/query.Same
      refine Qt.call rfl en_39 rfl (fun w' hw => calls_ext hw (qsame ((A4.ext hw).more (Nat.le_trans z4 hw.le)) ((B4.ext hw).more (Nat.le_trans z4 hw.le)))) ?_
      refine Qt.va rfl (fun w' hw => (by first | exact X.loadAgg rfl (range_l (hk12.ext hw)) Try.underlying54 rfl (by kernel_rfl) | exact X.loadAgg rfl (range_blk (hk12.ext hw)) Try.underlying54 rfl (by kernel_rfl) | exact X.loadAgg rfl (range_l (hk2.ext hw)) Try.underlying54 rfl (by kernel_rfl) | exact X.loadAgg rfl (range_blk (hk2.ext hw)) Try.underlying54 rfl (by kernel_rfl))) ?_
      refine Qt.va rfl (fun w' hw => (by first | exact X.loadAgg rfl (range_l (hk12.ext hw)) Try.underlying54 rfl (by kernel_rfl) | exact X.loadAgg rfl (range_blk (hk12.ext hw)) Try.underlying54 rfl (by kernel_rfl) | exact X.loadAgg rfl (range_l (hk2.ext hw)) Try.underlying54 rfl (by kernel_rfl) | exact X.loadAgg rfl (range_blk (hk2.ext hw)) Try.underlying54 rfl (by kernel_rfl))) ?_
      -- callfn bushel/bushelref29.Same
      refine Qt.call rfl en_37 rfl (fun w' hw => calls_ext hw (rqsame ((A4.ext hw).more (Nat.le_trans z4 hw.le)) ((B4.ext hw).more (Nat.le_trans z4 hw.le)))) ?_
      refine Qt.va rfl (fun w' hw => X.eqlB rfl rfl Try.underlying4) ?_
      refine Qt.va rfl (fun w' hw => X.move (by conv => lhs; whnf)) ?_
      -- case t21
      refine Qt.caseBT (k := 21) rfl (by simp) ?_
      refine Qt.va rfl (fun w' hw => (by first | exact X.loadAgg rfl (range_l (hk12.ext hw)) Try.underlying54 rfl (by kernel_rfl) | exact X.loadAgg rfl (range_blk (hk12.ext hw)) Try.underlying54 rfl (by kernel_rfl) | exact X.loadAgg rfl (range_l (hk2.ext hw)) Try.underlying54 rfl (by kernel_rfl) | exact X.loadAgg rfl (range_blk (hk2.ext hw)) Try.underlying54 rfl (by kernel_rfl))) ?_
      refine Qt.va rfl (fun w' hw => (by first | exact X.loadAgg rfl (range_l (hk12.ext hw)) Try.underlying54 rfl (by kernel_rfl) | exact X.loadAgg rfl (range_blk (hk12.ext hw)) Try.underlying54 rfl (by kernel_rfl) | exact X.loadAgg rfl (range_l (hk2.ext hw)) Try.underlying54 rfl (by kernel_rfl) | exact X.loadAgg rfl (range_blk (hk2.ext hw)) Try.underlying54 rfl (by kernel_rfl))) ?_
      -- callfn bushel/query.Same
      refine Qt.call rfl en_39 rfl (fun w' hw => calls_ext hw (qsame ((A4.ext hw).more (Nat.le_trans z4 hw.le)) ((A4.ext hw).more (Nat.le_trans z4 hw.le)))) ?_
      refine Qt.va rfl (fun w' hw => X.pickT rfl (by conv => lhs; whnf)) ?_
      refine Qt.va rfl (fun w' hw => X.move (by conv => lhs; whnf)) ?_
      -- case t26
      refine Qt.caseBT (k := 26) rfl (by exact a.eqv_refl) ?_
      -- callfn bushel/bushellaw29.awake
      refine Qt.call rfl en_31 rfl (fun w' hw => calls_ext hw (awake29 w')) ?_
      refine Qt.va rfl (fun w' hw => X.pickT rfl (by conv => lhs; whnf)) ?_
      refine Qt.va rfl (fun w' hw => X.assign (by conv => lhs; whnf)) ?_
      refine Qt.nil (fun w5 hq => ?_)
      replace hk12 := hk12.ext hq
      replace hk2 := hk2.ext hq
      -- ret
      refine J.ret ?_
      refine fin1 ?_
      exact ⟨rfl, he04.trans hq⟩
end Go.Proofs.Ytlipeplfjkgamaa
