/-
  The law ManifestSame, walked.
-/
import Derived.Test.YtlohbkcedpkjaaaDoorWManH
namespace Go.Proofs.YtlohbkcedpkjaaaDoor
set_option maxRecDepth 100000
open Go.RowKit H
open Byts Cod Seal
open Man
set_option linter.unusedVariables false
theorem law_ManifestSame (w : World) (ht : Tab w) (vs0 : List Value) (a0 : (Nm .u64) × (Nm .u64) × (Nm .u64) × (Nm .i64) × (List ((Nm .i64) × (Nm .i64)))) (hl0 : Lay.lies w w.heap.size vs0 a0) (vs1 : List Value) (a1 : (Nm .u64) × (Nm .u64) × (Nm .u64) × (Nm .i64) × (List ((Nm .i64) × (Nm .i64)))) (hl1 : Lay.lies w w.heap.size vs1 a1) :
    Calls Tryd.prog 6 #[.agg vs0.toArray, .agg vs1.toArray] w fun e w' => e = .returned (.bool true) ∧ Below w.heap.size w w' := by
  obtain ⟨a, A1, c1, rfl, hia, hla, hra⟩ := man5 hl0
  obtain ⟨b, A2, c2, rfl, hib, hlb, hrb⟩ := man5 hl1
  unfold maxLen at hla hlb
  refine enter Tryd.func6 rfl (by kernel_rfl) ?_
  refine J.seq ?_
  refine J.region ?_
  -- box
  refine L.boxA (l := [_, _, _, _, _]) rfl rfl ?_
  intro b1 w1 hb1 hs1 hk1 he1
  -- box
  refine L.boxA (l := [_, _, _, _, _]) rfl rfl ?_
  intro b2 w2 hb2 hs2 hk2 he2
  have hk12 := hk1.ext he2
  have ho := he1.trans he2
  have z2 := ho.le
  have r1 := hra.ext ho
  have r2 := hrb.ext ho
  refine L.va rfl (X.assign (by conv => lhs; whnf)) ?_
  refine L.nil ?_
  refine J.seq ?_
  refine J.seq ?_
  refine J.region ?_
  refine L.va rfl (X.fieldAddr rfl Tryd.underlying30 rfl sz_28 (by decide)) ?_
  refine L.va rfl (X.load rfl sc_28 (by first | exact Ld.blk hk12 rfl | exact Ld.blk hk2 rfl)) ?_
  refine L.va rfl (X.len rfl Tryd.underlying28) ?_
  refine L.va rfl (X.gtr rfl rfl) ?_
  refine L.va rfl (X.move (by conv => lhs; whnf)) ?_
  -- case t9
  refine L.caseDec (k := 9) rfl (fun h1 => ?_) (fun h1 => ?_)
  · refine L.no rfl ?_
    refine L.no rfl ?_
    refine L.no rfl ?_
    refine L.no rfl ?_
    refine L.va rfl (X.pickT rfl (by conv => lhs; whnf)) ?_
    refine L.nil ?_
    -- cond
    refine J.iteT rfl ?_
    refine J.seq ?_
    refine J.region ?_
    -- callfn bushel/bushellaw23.awake
    refine L.call rfl en_8 rfl (awake23 w2 (tab_ext ht ho)) ?_
    rintro e w3 ⟨rfl, he3⟩
    refine ⟨_, rfl, ?_⟩
    refine L.va rfl (X.assign (by conv => lhs; whnf)) ?_
    refine L.nil ?_
    -- ret
    refine J.ret ?_
    refine thn_ret <| ?_
    refine fin1 ?_
    exact ⟨rfl, ho.trans he3⟩
  refine L.va rfl (X.fieldAddr rfl Tryd.underlying30 rfl sz_28 (by decide)) ?_
  refine L.va rfl (X.load rfl sc_28 (by first | exact Ld.blk hk12 rfl | exact Ld.blk hk2 rfl)) ?_
  refine L.va rfl (X.len rfl Tryd.underlying28) ?_
  refine L.va rfl (X.gtr rfl rfl) ?_
  refine L.va rfl (X.pickF rfl (by conv => lhs; whnf)) ?_
  refine L.nil ?_
  -- cond
  refine J.dec rfl (fun h2 => ?_) (fun h2 => ?_)
  · refine J.seq ?_
    refine J.region ?_
    -- callfn bushel/bushellaw23.awake
    refine L.call rfl en_8 rfl (awake23 w2 (tab_ext ht ho)) ?_
    rintro e w3 ⟨rfl, he3⟩
    refine ⟨_, rfl, ?_⟩
    refine L.va rfl (X.assign (by conv => lhs; whnf)) ?_
    refine L.nil ?_
    -- ret
    refine J.ret ?_
    refine thn_ret <| ?_
    refine fin1 ?_
    exact ⟨rfl, ho.trans he3⟩
  refine J.skip ?_
  refine J.seq ?_
  -- draw
  refine J.quiet mixed (by kernel_rfl) ?_
  refine Qt.va rfl (fun w' hw => (by first | exact X.loadAgg rfl (range_l (hk12.ext hw)) Tryd.underlying30 rfl (by kernel_rfl) | exact X.loadAgg rfl (range_blk (hk12.ext hw)) Tryd.underlying30 rfl (by kernel_rfl) | exact X.loadAgg rfl (range_l (hk2.ext hw)) Tryd.underlying30 rfl (by kernel_rfl) | exact X.loadAgg rfl (range_blk (hk2.ext hw)) Tryd.underlying30 rfl (by kernel_rfl))) ?_
  refine Qt.va rfl (fun w' hw => (by first | exact X.loadAgg rfl (range_l (hk12.ext hw)) Tryd.underlying30 rfl (by kernel_rfl) | exact X.loadAgg rfl (range_blk (hk12.ext hw)) Tryd.underlying30 rfl (by kernel_rfl) | exact X.loadAgg rfl (range_l (hk2.ext hw)) Tryd.underlying30 rfl (by kernel_rfl) | exact X.loadAgg rfl (range_blk (hk2.ext hw)) Tryd.underlying30 rfl (by kernel_rfl))) ?_
  -- callfn bushel/manifest.Same
  refine Qt.call rfl en_18 rfl (fun w' hw => calls_ext hw (same_ (Nat.le_trans z2 hw.le) a b A1 c1 A2 c2 (r1.ext hw) (r2.ext hw) (by omega) (by omega))) ?_
  refine Qt.va rfl (fun w' hw => (by first | exact X.loadAgg rfl (range_l (hk12.ext hw)) Tryd.underlying30 rfl (by kernel_rfl) | exact X.loadAgg rfl (range_blk (hk12.ext hw)) Tryd.underlying30 rfl (by kernel_rfl) | exact X.loadAgg rfl (range_l (hk2.ext hw)) Tryd.underlying30 rfl (by kernel_rfl) | exact X.loadAgg rfl (range_blk (hk2.ext hw)) Tryd.underlying30 rfl (by kernel_rfl))) ?_
  refine Qt.va rfl (fun w' hw => (by first | exact X.loadAgg rfl (range_l (hk12.ext hw)) Tryd.underlying30 rfl (by kernel_rfl) | exact X.loadAgg rfl (range_blk (hk12.ext hw)) Tryd.underlying30 rfl (by kernel_rfl) | exact X.loadAgg rfl (range_l (hk2.ext hw)) Tryd.underlying30 rfl (by kernel_rfl) | exact X.loadAgg rfl (range_blk (hk2.ext hw)) Tryd.underlying30 rfl (by kernel_rfl))) ?_
  -- callfn bushel/bushelref23.Same
  refine Qt.call rfl en_12 rfl (fun w' hw => calls_ext hw (rsame_ (Nat.le_trans z2 hw.le) a b A1 c1 A2 c2 (r1.ext hw) (r2.ext hw) (by omega) (by omega))) ?_
  refine Qt.va rfl (fun w' hw => X.eqlB rfl rfl Tryd.underlying4) ?_
  refine Qt.va rfl (fun w' hw => X.move (by conv => lhs; whnf)) ?_
  -- case t23
  refine Qt.caseBT (k := 23) rfl (by simp) ?_
  refine Qt.va rfl (fun w' hw => (by first | exact X.loadAgg rfl (range_l (hk12.ext hw)) Tryd.underlying30 rfl (by kernel_rfl) | exact X.loadAgg rfl (range_blk (hk12.ext hw)) Tryd.underlying30 rfl (by kernel_rfl) | exact X.loadAgg rfl (range_l (hk2.ext hw)) Tryd.underlying30 rfl (by kernel_rfl) | exact X.loadAgg rfl (range_blk (hk2.ext hw)) Tryd.underlying30 rfl (by kernel_rfl))) ?_
  refine Qt.va rfl (fun w' hw => (by first | exact X.loadAgg rfl (range_l (hk12.ext hw)) Tryd.underlying30 rfl (by kernel_rfl) | exact X.loadAgg rfl (range_blk (hk12.ext hw)) Tryd.underlying30 rfl (by kernel_rfl) | exact X.loadAgg rfl (range_l (hk2.ext hw)) Tryd.underlying30 rfl (by kernel_rfl) | exact X.loadAgg rfl (range_blk (hk2.ext hw)) Tryd.underlying30 rfl (by kernel_rfl))) ?_
  -- callfn bushel/manifest.Same
  refine Qt.call rfl en_18 rfl (fun w' hw => calls_ext hw (same_ (Nat.le_trans z2 hw.le) a a A1 c1 A1 c1 (r1.ext hw) (r1.ext hw) (by omega) (by omega))) ?_
  refine Qt.va rfl (fun w' hw => X.pickT rfl (by conv => lhs; whnf)) ?_
  refine Qt.va rfl (fun w' hw => X.move (by conv => lhs; whnf)) ?_
  -- case t28
  refine Qt.caseBT (k := 28) rfl (by exact eqm_self a) ?_
  -- callfn bushel/bushellaw23.awake
  refine Qt.call rfl en_8 rfl (fun w' hw => calls_ext hw (awake23 w' (tab_ext ht (ho.trans hw)))) ?_
  refine Qt.va rfl (fun w' hw => X.pickT rfl (by conv => lhs; whnf)) ?_
  refine Qt.va rfl (fun w' hw => X.assign (by conv => lhs; whnf)) ?_
  refine Qt.nil (fun w3 hq => ?_)
  replace hk12 := hk12.ext hq
  replace hk2 := hk2.ext hq
  -- ret
  refine J.ret ?_
  refine fin1 ?_
  exact ⟨rfl, ho.trans hq⟩
end Go.Proofs.YtlohbkcedpkjaaaDoor
