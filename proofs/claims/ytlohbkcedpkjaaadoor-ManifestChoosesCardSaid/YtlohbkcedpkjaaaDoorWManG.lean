/-
  manifest.Choose and the reference's, walked.
-/
import Derived.Test.YtlohbkcedpkjaaaDoorWManF
import Derived.Test.YtlohbkcedpkjaaaDoorWManB
namespace Go.Proofs.YtlohbkcedpkjaaaDoor
set_option maxRecDepth 100000
open Go.RowKit H
open Byts Cod Seal
set_option linter.unusedVariables false
namespace H
section
variable {P : Program} {t : TypeId} {f : Fr} {w : World}
theorem finTCT {R : Ending → World → Prop} {a b k m : Nat} {u : Value} (hp : f a = .pointer (some ⟨b, 0, none⟩)) (hl : (loadVar t ⟨b, 0, none⟩).run P w = .ok u w) (h : R (.returned (.tuple #[f k, u, f m])) w) : fin P #[.tmp k, .cell a t, .tmp m] R .ret f w :=
  ⟨.tuple #[f k, u, f m], by simp [resF, hp, asAddr, hl], h⟩
end
end H
namespace Man
def MCh (a b : List Int) (w : World) (e : Ending) (w' : World) : Prop :=
  ∃ A c, e = .returned (.tuple #[.int .i64 (mc smZ a b).1, val (mc smZ a b).2.1 A c, .int .i64 (mc smZ a b).2.2]) ∧ w'.ownsRow w.heap.size 59 2 (.slice A (mc smZ a b).2.1.r.length c) (mc smZ a b).2.1.r.length ((mc smZ a b).2.1.r.flatMap rV) ∧ Ext w w'
theorem mcA {a b : List Int} (h1 : ¬ (mg smZ a).2 = 0) (h2 : ¬ (mg smZ b).2 = 0) : mc smZ a b = (0, zm, 11) := by unfold mc; rw [if_pos ⟨h1, h2⟩]
theorem mc0 {a b : List Int} (h : (mg smZ a).2 = 0) (h2 : ¬ (mg smZ b).2 = 0 ∨ (mg smZ b).1.v ≤ (mg smZ a).1.v) : mc smZ a b = (0, (mg smZ a).1, 0) := by
  unfold mc
  rw [if_neg (fun hh => hh.1 h), if_pos]
  rcases h2 with h2 | h2
  · exact .inl h2
  · exact .inr ⟨h, h2⟩
theorem mc1 {a b : List Int} (h : (mg smZ b).2 = 0) (h2 : ¬ (mg smZ a).2 = 0 ∨ (mg smZ a).1.v < (mg smZ b).1.v) : mc smZ a b = (1, (mg smZ b).1, 0) := by
  unfold mc
  rw [if_neg (fun hh => hh.2 h), if_neg]
  rintro (h3 | h3)
  · exact h3 h
  · rcases h2 with h2 | h2
    · exact h2 h3.1
    · omega
theorem choose_ (A1 : Option Addr) (n1 c1 : Nat) (a : List Int) (A2 : Option Addr) (n2 c2 : Nat) (b : List Int) (w : World) (ht : Tab w) (hr1 : Reads w w.heap.size 1 A1 n1 (nums .u8 a)) (hz1 : ∀ z ∈ a, 0 ≤ z ∧ z < 256) (hnc1 : n1 ≤ c1) (hc1 : c1 ≤ 9223372036854775807) (hr2 : Reads w w.heap.size 1 A2 n2 (nums .u8 b)) (hz2 : ∀ z ∈ b, 0 ≤ z ∧ z < 256) (hnc2 : n2 ≤ c2) (hc2 : c2 ≤ 9223372036854775807) :
    Calls Tryd.prog 15 #[.slice A1 n1 c1, .slice A2 n2 c2] w (MCh a b w) := by
  refine enter Tryd.func15 rfl (by kernel_rfl) ?_
  refine J.seq ?_
  refine J.region ?_
  refine L.va rfl (X.assign (by conv => lhs; whnf)) ?_
  -- alloc
  refine L.alloc rfl zr_30 ?_
  intro b5 w1 hb5 hs5 hk5 he5
  have z1 := he5.le
  refine L.va rfl (X.assign (by conv => lhs; whnf)) ?_
  refine L.nil ?_
  refine J.seq ?_
  refine J.region ?_
  refine L.va rfl (X.move (by conv => lhs; whnf)) ?_
  -- callfn bushel/manifest.Get
  refine L.call rfl en_10 rfl (get_ A1 n1 c1 a w1 (ht.below he5 (Nat.le_refl _)) ((hr1.ext he5).here (by decide)) hz1 hnc1 hc1) ?_
  rintro e w2 ⟨AA, cA, rfl, hrA, heA⟩
  refine ⟨_, rfl, ?_⟩
  have z2 := heA.le
  refine L.va rfl (X.move (by conv => lhs; whnf)) ?_
  refine L.va rfl (X.extract rfl rfl) ?_
  refine L.va rfl (X.extract rfl rfl) ?_
  -- alloc
  refine L.alloc rfl zr_30 ?_
  intro b7 w3 hb7 hs7 hk7 he7
  -- store
  refine L.storeAgg (vs := [_, _, _, _, _]) rfl rfl rfl rfl sz_30 (hk7) rfl ?_
  intro w4 hk7 hg4 hs4
  have he24 : Ext w2 w4 := he7.grw hg4 (by intro g hg; injection hg with hg; omega)
  have he04 : Ext w w4 := (he5.trans heA).trans he24
  have z4 := he24.le
  refine L.va rfl (X.assign (by conv => lhs; whnf)) ?_
  refine L.nil ?_
  refine J.seq ?_
  refine J.region ?_
  refine L.va rfl (X.move (by conv => lhs; whnf)) ?_
  -- callfn bushel/manifest.Get
  refine L.call rfl en_10 rfl (get_ A2 n2 c2 b w4 (ht.below he04 (Nat.le_refl _)) ((hr2.ext he04).here (by decide)) hz2 hnc2 hc2) ?_
  rintro e w5 ⟨AB, cB, rfl, hrB, heB⟩
  refine ⟨_, rfl, ?_⟩
  have z5 := heB.le
  have hk7 := hk7.ext heB
  refine L.va rfl (X.move (by conv => lhs; whnf)) ?_
  refine L.va rfl (X.extract rfl rfl) ?_
  refine L.va rfl (X.extract rfl rfl) ?_
  -- alloc
  refine L.alloc rfl zr_30 ?_
  intro b9 w6 hb9 hs9 hk9 he9
  have hk7 := hk7.ext he9
  have hl7 := hk7.lt
  -- store
  refine L.storeAgg (vs := [_, _, _, _, _]) rfl rfl rfl rfl sz_30 (hk9) rfl ?_
  intro w7 hk9 hg7 hs7'
  have he57 : Ext w5 w7 := he9.grw hg7 (by intro g hg; injection hg with hg; omega)
  have hk7 : Blk w7 b7 30 #[.int .u64 (mg smZ a).1.v, .int .u64 (mg smZ a).1.e, .int .u64 (mg smZ a).1.b, .int .i64 (mg smZ a).1.s, .slice AA (mg smZ a).1.r.length cA] := hk7.grown hg7 (by intro e; injection e with e; have := hk7.lt; omega)
  have hk9 : Blk w7 b9 30 #[.int .u64 (mg smZ b).1.v, .int .u64 (mg smZ b).1.e, .int .u64 (mg smZ b).1.b, .int .i64 (mg smZ b).1.s, .slice AB (mg smZ b).1.r.length cB] := hk9
  have hk5 : Blk w7 b5 30 #[.int .u64 0, .int .u64 0, .int .u64 0, .int .i64 0, .slice none 0 0] := ((hk5.ext (heA.trans he24)).ext heB).ext he57
  have hrA := hrA.ext (he24.trans (heB.trans he57))
  have hrB := hrB.ext he57
  have hx : Ext w w7 := he04.trans (heB.trans he57)
  have n7 : b7 ≠ b5 := by omega
  have n9 : b9 ≠ b5 := by omega
  have hcase : ((mg smZ a).2 = 0 ∧ (mg smZ b).2 = 0 ∧ (mg smZ b).1.v ≤ (mg smZ a).1.v) ∨ ((mg smZ a).2 = 0 ∧ (mg smZ b).2 = 0 ∧ (mg smZ a).1.v < (mg smZ b).1.v) ∨ ((mg smZ a).2 = 0 ∧ ¬ (mg smZ b).2 = 0) ∨ (¬ (mg smZ a).2 = 0 ∧ (mg smZ b).2 = 0) ∨ (¬ (mg smZ a).2 = 0 ∧ ¬ (mg smZ b).2 = 0) := by omega
  rcases hcase with ⟨hA, hB, hv⟩ | ⟨hA, hB, hv⟩ | ⟨hA, hB⟩ | ⟨hA, hB⟩ | ⟨hA, hB⟩
  · refine L.va rfl (X.assign (by conv => lhs; whnf)) ?_
    refine L.nil ?_
    refine J.seq ?_
    refine J.block ?_
    refine J.seq ?_
    refine J.region ?_
    refine L.va rfl (X.move (by conv => lhs; whnf)) ?_
    refine L.va rfl (X.neq rfl rfl) ?_
    refine L.va rfl (X.move (by conv => lhs; whnf)) ?_
    -- case t24
    refine L.caseNdecF (k := 24) rfl (by exact hA) ?_
    refine L.no rfl ?_
    refine L.no rfl ?_
    refine L.va rfl (X.pickF rfl (by conv => lhs; whnf)) ?_
    refine L.va rfl (X.assign (by conv => lhs; whnf)) ?_
    refine L.nil ?_
    -- cond
    refine J.iteF rfl ?_
    refine J.seq ?_
    refine J.region ?_
    refine L.va rfl (X.move (by conv => lhs; whnf)) ?_
    refine L.va rfl (X.neq rfl rfl) ?_
    refine L.va rfl (X.move (by conv => lhs; whnf)) ?_
    -- case t32
    refine L.caseNdecF (k := 32) rfl (by exact hA) ?_
    refine L.va rfl (X.move (by conv => lhs; whnf)) ?_
    refine L.va rfl (X.eql rfl rfl) ?_
    refine L.va rfl (X.move (by conv => lhs; whnf)) ?_
    -- case t35
    refine L.caseDecT (k := 35) rfl (by exact hB) ?_
    refine L.va rfl (X.fieldAddr rfl Tryd.underlying30 rfl sz_22 (by decide)) ?_
    refine L.va rfl (X.load rfl sc_22 (by first | exact Ld.blk hk7 rfl | exact Ld.blk hk9 rfl | exact Ld.blk hk5 rfl)) ?_
    refine L.va rfl (X.fieldAddr rfl Tryd.underlying30 rfl sz_22 (by decide)) ?_
    refine L.va rfl (X.load rfl sc_22 (by first | exact Ld.blk hk7 rfl | exact Ld.blk hk9 rfl | exact Ld.blk hk5 rfl)) ?_
    refine L.va rfl (X.gtr rfl rfl) ?_
    refine L.va rfl (X.pickT rfl (by conv => lhs; whnf)) ?_
    refine L.va rfl (X.pickF rfl (by conv => lhs; whnf)) ?_
    refine L.va rfl (X.assign (by conv => lhs; whnf)) ?_
    refine L.nil ?_
    -- cond
    refine J.decF rfl (by omega) ?_
    refine J.skip ?_
    refine J.seq ?_
    -- draw
    refine J.draw (ℓ := 1000000) (S := (fun w' => Blk w' b7 30 #[.int .u64 (mg smZ a).1.v, .int .u64 (mg smZ a).1.e, .int .u64 (mg smZ a).1.b, .int .i64 (mg smZ a).1.s, .slice AA (mg smZ a).1.r.length cA])) mixed (fun w8 hSE hS_h => ?_)
    have hS : ((fun w' => Blk w' b7 30 #[.int .u64 (mg smZ a).1.v, .int .u64 (mg smZ a).1.e, .int .u64 (mg smZ a).1.b, .int .i64 (mg smZ a).1.s, .slice AA (mg smZ a).1.r.length cA])) w8 := hk7.ext hSE
    -- t44
    refine D.va 0 rfl (by kernel_rfl) (fun _ _ _ h => h) rfl (fun w' hw => X.loadAgg rfl (range_blk hw) Tryd.underlying30 rfl (by kernel_rfl)) hS ?_
    refine D.va 1 rfl (by kernel_rfl) (fun _ _ _ h => h) rfl (fun w' hw => X.assign (by conv => lhs; whnf)) hS ?_
    -- store
    refine D.one 2 (by kernel_rfl) rfl ?_
    refine L.storeAgg (vs := [_, _, _, _, _]) rfl rfl rfl rfl sz_30 (hk5.ext hSE) rfl ?_
    intro w9 hk9' hg9 hs9'
    have hS1 := hS.grown hg9 (by intro e; injection e with e; omega)
    refine L.nil ?_
    refine ⟨fun _ => hS1, ?_⟩
    refine D.va 3 rfl (by kernel_rfl) (fun _ _ _ h => h) rfl (fun w' hw => X.assign (by conv => lhs; whnf)) hS1 ?_
    refine D.done (by kernel_rfl) ?_
    -- ret
    refine J.ret ?_
    -- results [['ResultVar.tmp', 4], ['ResultVar.cell', 5, 30], ['ResultVar.tmp', 6]]
    refine finTCT rfl (run_cell hk9' Tryd.underlying30 rfl (by kernel_rfl)) ?_
    unfold MCh
    rw [mc0 hA (.inr hv)]
    have zz := hSE.le
    exact ⟨AA, cA, rfl, ((hrA.ext hSE).kept hg9 (.inr (fun e => by have := hrA.lt _ e; omega))).mono (by omega), (hx.trans hSE).grw hg9 (by intro g hg; injection hg with hg; omega)⟩
  · refine L.va rfl (X.assign (by conv => lhs; whnf)) ?_
    refine L.nil ?_
    refine J.seq ?_
    refine J.block ?_
    refine J.seq ?_
    refine J.region ?_
    refine L.va rfl (X.move (by conv => lhs; whnf)) ?_
    refine L.va rfl (X.neq rfl rfl) ?_
    refine L.va rfl (X.move (by conv => lhs; whnf)) ?_
    -- case t24
    refine L.caseNdecF (k := 24) rfl (by exact hA) ?_
    refine L.no rfl ?_
    refine L.no rfl ?_
    refine L.va rfl (X.pickF rfl (by conv => lhs; whnf)) ?_
    refine L.va rfl (X.assign (by conv => lhs; whnf)) ?_
    refine L.nil ?_
    -- cond
    refine J.iteF rfl ?_
    refine J.seq ?_
    refine J.region ?_
    refine L.va rfl (X.move (by conv => lhs; whnf)) ?_
    refine L.va rfl (X.neq rfl rfl) ?_
    refine L.va rfl (X.move (by conv => lhs; whnf)) ?_
    -- case t32
    refine L.caseNdecF (k := 32) rfl (by exact hA) ?_
    refine L.va rfl (X.move (by conv => lhs; whnf)) ?_
    refine L.va rfl (X.eql rfl rfl) ?_
    refine L.va rfl (X.move (by conv => lhs; whnf)) ?_
    -- case t35
    refine L.caseDecT (k := 35) rfl (by exact hB) ?_
    refine L.va rfl (X.fieldAddr rfl Tryd.underlying30 rfl sz_22 (by decide)) ?_
    refine L.va rfl (X.load rfl sc_22 (by first | exact Ld.blk hk7 rfl | exact Ld.blk hk9 rfl | exact Ld.blk hk5 rfl)) ?_
    refine L.va rfl (X.fieldAddr rfl Tryd.underlying30 rfl sz_22 (by decide)) ?_
    refine L.va rfl (X.load rfl sc_22 (by first | exact Ld.blk hk7 rfl | exact Ld.blk hk9 rfl | exact Ld.blk hk5 rfl)) ?_
    refine L.va rfl (X.gtr rfl rfl) ?_
    refine L.va rfl (X.pickT rfl (by conv => lhs; whnf)) ?_
    refine L.va rfl (X.pickF rfl (by conv => lhs; whnf)) ?_
    refine L.va rfl (X.assign (by conv => lhs; whnf)) ?_
    refine L.nil ?_
    -- cond
    refine J.decT rfl (by omega) ?_
    refine J.seq ?_
    -- draw
    refine J.draw (ℓ := 1000000) (S := (fun w' => Blk w' b9 30 #[.int .u64 (mg smZ b).1.v, .int .u64 (mg smZ b).1.e, .int .u64 (mg smZ b).1.b, .int .i64 (mg smZ b).1.s, .slice AB (mg smZ b).1.r.length cB])) mixed (fun w8 hSE hS_h => ?_)
    have hS : ((fun w' => Blk w' b9 30 #[.int .u64 (mg smZ b).1.v, .int .u64 (mg smZ b).1.e, .int .u64 (mg smZ b).1.b, .int .i64 (mg smZ b).1.s, .slice AB (mg smZ b).1.r.length cB])) w8 := hk9.ext hSE
    -- t43
    refine D.va 0 rfl (by kernel_rfl) (fun _ _ _ h => h) rfl (fun w' hw => X.loadAgg rfl (range_blk hw) Tryd.underlying30 rfl (by kernel_rfl)) hS ?_
    refine D.va 1 rfl (by kernel_rfl) (fun _ _ _ h => h) rfl (fun w' hw => X.assign (by conv => lhs; whnf)) hS ?_
    -- store
    refine D.one 2 (by kernel_rfl) rfl ?_
    refine L.storeAgg (vs := [_, _, _, _, _]) rfl rfl rfl rfl sz_30 (hk5.ext hSE) rfl ?_
    intro w9 hk9' hg9 hs9'
    have hS1 := hS.grown hg9 (by intro e; injection e with e; omega)
    refine L.nil ?_
    refine ⟨fun _ => hS1, ?_⟩
    refine D.va 3 rfl (by kernel_rfl) (fun _ _ _ h => h) rfl (fun w' hw => X.assign (by conv => lhs; whnf)) hS1 ?_
    refine D.done (by kernel_rfl) ?_
    -- ret
    refine J.ret ?_
    refine inB_ret <|  thn_ret <| ?_
    -- results [['ResultVar.tmp', 4], ['ResultVar.cell', 5, 30], ['ResultVar.tmp', 6]]
    refine finTCT rfl (run_cell hk9' Tryd.underlying30 rfl (by kernel_rfl)) ?_
    unfold MCh
    rw [mc1 hB (.inr hv)]
    have zz := hSE.le
    exact ⟨AB, cB, rfl, ((hrB.ext hSE).kept hg9 (.inr (fun e => by have := hrB.lt _ e; omega))).mono (by omega), (hx.trans hSE).grw hg9 (by intro g hg; injection hg with hg; omega)⟩
  · refine L.va rfl (X.assign (by conv => lhs; whnf)) ?_
    refine L.nil ?_
    refine J.seq ?_
    refine J.block ?_
    refine J.seq ?_
    refine J.region ?_
    refine L.va rfl (X.move (by conv => lhs; whnf)) ?_
    refine L.va rfl (X.neq rfl rfl) ?_
    refine L.va rfl (X.move (by conv => lhs; whnf)) ?_
    -- case t24
    refine L.caseNdecF (k := 24) rfl (by exact hA) ?_
    refine L.no rfl ?_
    refine L.no rfl ?_
    refine L.va rfl (X.pickF rfl (by conv => lhs; whnf)) ?_
    refine L.va rfl (X.assign (by conv => lhs; whnf)) ?_
    refine L.nil ?_
    -- cond
    refine J.iteF rfl ?_
    refine J.seq ?_
    refine J.region ?_
    refine L.va rfl (X.move (by conv => lhs; whnf)) ?_
    refine L.va rfl (X.neq rfl rfl) ?_
    refine L.va rfl (X.move (by conv => lhs; whnf)) ?_
    -- case t32
    refine L.caseNdecF (k := 32) rfl (by exact hA) ?_
    refine L.va rfl (X.move (by conv => lhs; whnf)) ?_
    refine L.va rfl (X.eql rfl rfl) ?_
    refine L.va rfl (X.move (by conv => lhs; whnf)) ?_
    -- case t35
    refine L.caseDecF (k := 35) rfl (by exact hB) ?_
    refine L.no rfl ?_
    refine L.no rfl ?_
    refine L.no rfl ?_
    refine L.no rfl ?_
    refine L.no rfl ?_
    refine L.va rfl (X.pickF rfl (by conv => lhs; whnf)) ?_
    refine L.va rfl (X.pickF rfl (by conv => lhs; whnf)) ?_
    refine L.va rfl (X.assign (by conv => lhs; whnf)) ?_
    refine L.nil ?_
    -- cond
    refine J.iteF rfl ?_
    refine J.skip ?_
    refine J.seq ?_
    -- draw
    refine J.draw (ℓ := 1000000) (S := (fun w' => Blk w' b7 30 #[.int .u64 (mg smZ a).1.v, .int .u64 (mg smZ a).1.e, .int .u64 (mg smZ a).1.b, .int .i64 (mg smZ a).1.s, .slice AA (mg smZ a).1.r.length cA])) mixed (fun w8 hSE hS_h => ?_)
    have hS : ((fun w' => Blk w' b7 30 #[.int .u64 (mg smZ a).1.v, .int .u64 (mg smZ a).1.e, .int .u64 (mg smZ a).1.b, .int .i64 (mg smZ a).1.s, .slice AA (mg smZ a).1.r.length cA])) w8 := hk7.ext hSE
    -- t44
    refine D.va 0 rfl (by kernel_rfl) (fun _ _ _ h => h) rfl (fun w' hw => X.loadAgg rfl (range_blk hw) Tryd.underlying30 rfl (by kernel_rfl)) hS ?_
    refine D.va 1 rfl (by kernel_rfl) (fun _ _ _ h => h) rfl (fun w' hw => X.assign (by conv => lhs; whnf)) hS ?_
    -- store
    refine D.one 2 (by kernel_rfl) rfl ?_
    refine L.storeAgg (vs := [_, _, _, _, _]) rfl rfl rfl rfl sz_30 (hk5.ext hSE) rfl ?_
    intro w9 hk9' hg9 hs9'
    have hS1 := hS.grown hg9 (by intro e; injection e with e; omega)
    refine L.nil ?_
    refine ⟨fun _ => hS1, ?_⟩
    refine D.va 3 rfl (by kernel_rfl) (fun _ _ _ h => h) rfl (fun w' hw => X.assign (by conv => lhs; whnf)) hS1 ?_
    refine D.done (by kernel_rfl) ?_
    -- ret
    refine J.ret ?_
    -- results [['ResultVar.tmp', 4], ['ResultVar.cell', 5, 30], ['ResultVar.tmp', 6]]
    refine finTCT rfl (run_cell hk9' Tryd.underlying30 rfl (by kernel_rfl)) ?_
    unfold MCh
    rw [mc0 hA (.inl hB)]
    have zz := hSE.le
    exact ⟨AA, cA, rfl, ((hrA.ext hSE).kept hg9 (.inr (fun e => by have := hrA.lt _ e; omega))).mono (by omega), (hx.trans hSE).grw hg9 (by intro g hg; injection hg with hg; omega)⟩
  · refine L.va rfl (X.assign (by conv => lhs; whnf)) ?_
    refine L.nil ?_
    refine J.seq ?_
    refine J.block ?_
    refine J.seq ?_
    refine J.region ?_
    refine L.va rfl (X.move (by conv => lhs; whnf)) ?_
    refine L.va rfl (X.neq rfl rfl) ?_
    refine L.va rfl (X.move (by conv => lhs; whnf)) ?_
    -- case t24
    refine L.caseNdecT (k := 24) rfl (by exact hA) ?_
    refine L.va rfl (X.move (by conv => lhs; whnf)) ?_
    refine L.va rfl (X.neq rfl rfl) ?_
    refine L.va rfl (X.pickT rfl (by conv => lhs; whnf)) ?_
    refine L.va rfl (X.assign (by conv => lhs; whnf)) ?_
    refine L.nil ?_
    -- cond
    refine J.ndecF rfl (by exact hB) ?_
    refine J.seq ?_
    refine J.region ?_
    refine L.va rfl (X.move (by conv => lhs; whnf)) ?_
    refine L.va rfl (X.neq rfl rfl) ?_
    refine L.va rfl (X.move (by conv => lhs; whnf)) ?_
    -- case t32
    refine L.caseNdecT (k := 32) rfl (by exact hA) ?_
    refine L.no rfl ?_
    refine L.no rfl ?_
    refine L.no rfl ?_
    refine L.no rfl ?_
    refine L.no rfl ?_
    refine L.no rfl ?_
    refine L.no rfl ?_
    refine L.no rfl ?_
    refine L.no rfl ?_
    refine L.va rfl (X.pickT rfl (by conv => lhs; whnf)) ?_
    refine L.va rfl (X.assign (by conv => lhs; whnf)) ?_
    refine L.nil ?_
    -- cond
    refine J.iteT rfl ?_
    refine J.seq ?_
    -- draw
    refine J.draw (ℓ := 1000000) (S := (fun w' => Blk w' b9 30 #[.int .u64 (mg smZ b).1.v, .int .u64 (mg smZ b).1.e, .int .u64 (mg smZ b).1.b, .int .i64 (mg smZ b).1.s, .slice AB (mg smZ b).1.r.length cB])) mixed (fun w8 hSE hS_h => ?_)
    have hS : ((fun w' => Blk w' b9 30 #[.int .u64 (mg smZ b).1.v, .int .u64 (mg smZ b).1.e, .int .u64 (mg smZ b).1.b, .int .i64 (mg smZ b).1.s, .slice AB (mg smZ b).1.r.length cB])) w8 := hk9.ext hSE
    -- t43
    refine D.va 0 rfl (by kernel_rfl) (fun _ _ _ h => h) rfl (fun w' hw => X.loadAgg rfl (range_blk hw) Tryd.underlying30 rfl (by kernel_rfl)) hS ?_
    refine D.va 1 rfl (by kernel_rfl) (fun _ _ _ h => h) rfl (fun w' hw => X.assign (by conv => lhs; whnf)) hS ?_
    -- store
    refine D.one 2 (by kernel_rfl) rfl ?_
    refine L.storeAgg (vs := [_, _, _, _, _]) rfl rfl rfl rfl sz_30 (hk5.ext hSE) rfl ?_
    intro w9 hk9' hg9 hs9'
    have hS1 := hS.grown hg9 (by intro e; injection e with e; omega)
    refine L.nil ?_
    refine ⟨fun _ => hS1, ?_⟩
    refine D.va 3 rfl (by kernel_rfl) (fun _ _ _ h => h) rfl (fun w' hw => X.assign (by conv => lhs; whnf)) hS1 ?_
    refine D.done (by kernel_rfl) ?_
    -- ret
    refine J.ret ?_
    refine inB_ret <|  thn_ret <| ?_
    -- results [['ResultVar.tmp', 4], ['ResultVar.cell', 5, 30], ['ResultVar.tmp', 6]]
    refine finTCT rfl (run_cell hk9' Tryd.underlying30 rfl (by kernel_rfl)) ?_
    unfold MCh
    rw [mc1 hB (.inl hA)]
    have zz := hSE.le
    exact ⟨AB, cB, rfl, ((hrB.ext hSE).kept hg9 (.inr (fun e => by have := hrB.lt _ e; omega))).mono (by omega), (hx.trans hSE).grw hg9 (by intro g hg; injection hg with hg; omega)⟩
  · refine L.va rfl (X.assign (by conv => lhs; whnf)) ?_
    refine L.nil ?_
    refine J.seq ?_
    refine J.block ?_
    refine J.seq ?_
    refine J.region ?_
    refine L.va rfl (X.move (by conv => lhs; whnf)) ?_
    refine L.va rfl (X.neq rfl rfl) ?_
    refine L.va rfl (X.move (by conv => lhs; whnf)) ?_
    -- case t24
    refine L.caseNdecT (k := 24) rfl (by exact hA) ?_
    refine L.va rfl (X.move (by conv => lhs; whnf)) ?_
    refine L.va rfl (X.neq rfl rfl) ?_
    refine L.va rfl (X.pickT rfl (by conv => lhs; whnf)) ?_
    refine L.va rfl (X.assign (by conv => lhs; whnf)) ?_
    refine L.nil ?_
    -- cond
    refine J.ndecT rfl (by exact hB) ?_
    refine J.seq ?_
    refine J.region ?_
    refine L.va rfl (X.build (l := [_, _, _, _, _]) Evs.nil (bld_run Tryd.underlying30 (bp_30 Tryd.underlying30) zr_30 rfl)) ?_
    refine L.va rfl (X.assign (by conv => lhs; whnf)) ?_
    -- store
    refine L.storeAgg (vs := [_, _, _, _, _]) rfl rfl rfl rfl sz_30 (hk5) rfl ?_
    intro w8 hk8 hg8 hs8
    refine L.va rfl (X.assign (by conv => lhs; whnf)) ?_
    refine L.nil ?_
    -- ret
    refine J.ret ?_
    refine inB_ret <|  thn_ret <| ?_
    -- results [['ResultVar.tmp', 4], ['ResultVar.cell', 5, 30], ['ResultVar.tmp', 6]]
    refine finTCT rfl (run_cell hk8 Tryd.underlying30 rfl (by kernel_rfl)) ?_
    unfold MCh
    rw [mcA hA hB]
    exact ⟨none, 0, rfl, own_nil _ _ _ _, hx.grw hg8 (by intro g hg; injection hg with hg; omega)⟩
theorem rchoose_ (A1 : Option Addr) (n1 c1 : Nat) (a : List Int) (A2 : Option Addr) (n2 c2 : Nat) (b : List Int) (w : World) (hr1 : Reads w w.heap.size 1 A1 n1 (nums .u8 a)) (hz1 : ∀ z ∈ a, 0 ≤ z ∧ z < 256) (hnc1 : n1 ≤ c1) (hc1 : c1 ≤ 9223372036854775807) (hr2 : Reads w w.heap.size 1 A2 n2 (nums .u8 b)) (hz2 : ∀ z ∈ b, 0 ≤ z ∧ z < 256) (hnc2 : n2 ≤ c2) (hc2 : c2 ≤ 9223372036854775807) :
    Calls Tryd.prog 16 #[.slice A1 n1 c1, .slice A2 n2 c2] w (MCh a b w) := by
  refine enter Tryd.func16 rfl (by kernel_rfl) ?_
  refine J.seq ?_
  refine J.region ?_
  refine L.va rfl (X.assign (by conv => lhs; whnf)) ?_
  -- alloc
  refine L.alloc rfl zr_30 ?_
  intro b5 w1 hb5 hs5 hk5 he5
  have z1 := he5.le
  refine L.va rfl (X.assign (by conv => lhs; whnf)) ?_
  refine L.nil ?_
  refine J.seq ?_
  refine J.region ?_
  refine L.va rfl (X.move (by conv => lhs; whnf)) ?_
  -- callfn bushel/bushelref23.Get
  refine L.call rfl en_11 rfl (rget_ A1 n1 c1 a w1 ((hr1.ext he5).here (by decide)) hz1 hnc1 hc1) ?_
  rintro e w2 ⟨AA, cA, rfl, hrA, heA⟩
  refine ⟨_, rfl, ?_⟩
  have z2 := heA.le
  refine L.va rfl (X.move (by conv => lhs; whnf)) ?_
  refine L.va rfl (X.extract rfl rfl) ?_
  refine L.va rfl (X.extract rfl rfl) ?_
  -- alloc
  refine L.alloc rfl zr_30 ?_
  intro b7 w3 hb7 hs7 hk7 he7
  -- store
  refine L.storeAgg (vs := [_, _, _, _, _]) rfl rfl rfl rfl sz_30 (hk7) rfl ?_
  intro w4 hk7 hg4 hs4
  have he24 : Ext w2 w4 := he7.grw hg4 (by intro g hg; injection hg with hg; omega)
  have he04 : Ext w w4 := (he5.trans heA).trans he24
  have z4 := he24.le
  refine L.va rfl (X.assign (by conv => lhs; whnf)) ?_
  refine L.nil ?_
  refine J.seq ?_
  refine J.region ?_
  refine L.va rfl (X.move (by conv => lhs; whnf)) ?_
  -- callfn bushel/bushelref23.Get
  refine L.call rfl en_11 rfl (rget_ A2 n2 c2 b w4 ((hr2.ext he04).here (by decide)) hz2 hnc2 hc2) ?_
  rintro e w5 ⟨AB, cB, rfl, hrB, heB⟩
  refine ⟨_, rfl, ?_⟩
  have z5 := heB.le
  have hk7 := hk7.ext heB
  refine L.va rfl (X.move (by conv => lhs; whnf)) ?_
  refine L.va rfl (X.extract rfl rfl) ?_
  refine L.va rfl (X.extract rfl rfl) ?_
  -- alloc
  refine L.alloc rfl zr_30 ?_
  intro b9 w6 hb9 hs9 hk9 he9
  have hk7 := hk7.ext he9
  have hl7 := hk7.lt
  -- store
  refine L.storeAgg (vs := [_, _, _, _, _]) rfl rfl rfl rfl sz_30 (hk9) rfl ?_
  intro w7 hk9 hg7 hs7'
  have he57 : Ext w5 w7 := he9.grw hg7 (by intro g hg; injection hg with hg; omega)
  have hk7 : Blk w7 b7 30 #[.int .u64 (mg smZ a).1.v, .int .u64 (mg smZ a).1.e, .int .u64 (mg smZ a).1.b, .int .i64 (mg smZ a).1.s, .slice AA (mg smZ a).1.r.length cA] := hk7.grown hg7 (by intro e; injection e with e; have := hk7.lt; omega)
  have hk9 : Blk w7 b9 30 #[.int .u64 (mg smZ b).1.v, .int .u64 (mg smZ b).1.e, .int .u64 (mg smZ b).1.b, .int .i64 (mg smZ b).1.s, .slice AB (mg smZ b).1.r.length cB] := hk9
  have hk5 : Blk w7 b5 30 #[.int .u64 0, .int .u64 0, .int .u64 0, .int .i64 0, .slice none 0 0] := ((hk5.ext (heA.trans he24)).ext heB).ext he57
  have hrA := hrA.ext (he24.trans (heB.trans he57))
  have hrB := hrB.ext he57
  have hx : Ext w w7 := he04.trans (heB.trans he57)
  have n7 : b7 ≠ b5 := by omega
  have n9 : b9 ≠ b5 := by omega
  have hcase : ((mg smZ a).2 = 0 ∧ (mg smZ b).2 = 0 ∧ (mg smZ b).1.v ≤ (mg smZ a).1.v) ∨ ((mg smZ a).2 = 0 ∧ (mg smZ b).2 = 0 ∧ (mg smZ a).1.v < (mg smZ b).1.v) ∨ ((mg smZ a).2 = 0 ∧ ¬ (mg smZ b).2 = 0) ∨ (¬ (mg smZ a).2 = 0 ∧ (mg smZ b).2 = 0) ∨ (¬ (mg smZ a).2 = 0 ∧ ¬ (mg smZ b).2 = 0) := by omega
  rcases hcase with ⟨hA, hB, hv⟩ | ⟨hA, hB, hv⟩ | ⟨hA, hB⟩ | ⟨hA, hB⟩ | ⟨hA, hB⟩
  · refine L.va rfl (X.assign (by conv => lhs; whnf)) ?_
    refine L.nil ?_
    refine J.seq ?_
    refine J.seq ?_
    refine J.region ?_
    refine L.va rfl (X.move (by conv => lhs; whnf)) ?_
    refine L.va rfl (X.neq rfl rfl) ?_
    refine L.va rfl (X.move (by conv => lhs; whnf)) ?_
    -- case t23
    refine L.caseNdecF (k := 23) rfl (by exact hA) ?_
    refine L.no rfl ?_
    refine L.no rfl ?_
    refine L.va rfl (X.pickF rfl (by conv => lhs; whnf)) ?_
    refine L.nil ?_
    -- cond
    refine J.iteF rfl ?_
    refine J.skip ?_
    refine J.seq ?_
    refine J.seq ?_
    refine J.region ?_
    refine L.va rfl (X.move (by conv => lhs; whnf)) ?_
    refine L.va rfl (X.neq rfl rfl) ?_
    refine L.va rfl (X.move (by conv => lhs; whnf)) ?_
    -- case t30
    refine L.caseNdecF (k := 30) rfl (by exact hB) ?_
    refine L.va rfl (X.move (by conv => lhs; whnf)) ?_
    refine L.va rfl (X.eql rfl rfl) ?_
    refine L.va rfl (X.move (by conv => lhs; whnf)) ?_
    -- case t33
    refine L.caseDecT (k := 33) rfl (by exact hA) ?_
    refine L.va rfl (X.fieldAddr rfl Tryd.underlying30 rfl sz_22 (by decide)) ?_
    refine L.va rfl (X.load rfl sc_22 (by first | exact Ld.blk hk7 rfl | exact Ld.blk hk9 rfl | exact Ld.blk hk5 rfl)) ?_
    refine L.va rfl (X.fieldAddr rfl Tryd.underlying30 rfl sz_22 (by decide)) ?_
    refine L.va rfl (X.load rfl sc_22 (by first | exact Ld.blk hk7 rfl | exact Ld.blk hk9 rfl | exact Ld.blk hk5 rfl)) ?_
    refine L.va rfl (X.geq rfl rfl) ?_
    refine L.va rfl (X.pickT rfl (by conv => lhs; whnf)) ?_
    refine L.va rfl (X.pickF rfl (by conv => lhs; whnf)) ?_
    refine L.nil ?_
    -- cond
    refine J.decT rfl (by omega) ?_
    refine J.seq ?_
    -- draw
    refine J.draw (ℓ := 1000000) (S := (fun w' => Blk w' b7 30 #[.int .u64 (mg smZ a).1.v, .int .u64 (mg smZ a).1.e, .int .u64 (mg smZ a).1.b, .int .i64 (mg smZ a).1.s, .slice AA (mg smZ a).1.r.length cA])) mixed (fun w8 hSE hS_h => ?_)
    have hS : ((fun w' => Blk w' b7 30 #[.int .u64 (mg smZ a).1.v, .int .u64 (mg smZ a).1.e, .int .u64 (mg smZ a).1.b, .int .i64 (mg smZ a).1.s, .slice AA (mg smZ a).1.r.length cA])) w8 := hk7.ext hSE
    -- t41
    refine D.va 0 rfl (by kernel_rfl) (fun _ _ _ h => h) rfl (fun w' hw => X.loadAgg rfl (range_blk hw) Tryd.underlying30 rfl (by kernel_rfl)) hS ?_
    refine D.va 1 rfl (by kernel_rfl) (fun _ _ _ h => h) rfl (fun w' hw => X.assign (by conv => lhs; whnf)) hS ?_
    -- store
    refine D.one 2 (by kernel_rfl) rfl ?_
    refine L.storeAgg (vs := [_, _, _, _, _]) rfl rfl rfl rfl sz_30 (hk5.ext hSE) rfl ?_
    intro w9 hk9' hg9 hs9'
    have hS1 := hS.grown hg9 (by intro e; injection e with e; omega)
    refine L.nil ?_
    refine ⟨fun _ => hS1, ?_⟩
    refine D.va 3 rfl (by kernel_rfl) (fun _ _ _ h => h) rfl (fun w' hw => X.assign (by conv => lhs; whnf)) hS1 ?_
    refine D.done (by kernel_rfl) ?_
    -- ret
    refine J.ret ?_
    refine thn_ret <| ?_
    -- results [['ResultVar.tmp', 4], ['ResultVar.cell', 5, 30], ['ResultVar.tmp', 6]]
    refine finTCT rfl (run_cell hk9' Tryd.underlying30 rfl (by kernel_rfl)) ?_
    unfold MCh
    rw [mc0 hA (.inr hv)]
    have zz := hSE.le
    exact ⟨AA, cA, rfl, ((hrA.ext hSE).kept hg9 (.inr (fun e => by have := hrA.lt _ e; omega))).mono (by omega), (hx.trans hSE).grw hg9 (by intro g hg; injection hg with hg; omega)⟩
  · refine L.va rfl (X.assign (by conv => lhs; whnf)) ?_
    refine L.nil ?_
    refine J.seq ?_
    refine J.seq ?_
    refine J.region ?_
    refine L.va rfl (X.move (by conv => lhs; whnf)) ?_
    refine L.va rfl (X.neq rfl rfl) ?_
    refine L.va rfl (X.move (by conv => lhs; whnf)) ?_
    -- case t23
    refine L.caseNdecF (k := 23) rfl (by exact hA) ?_
    refine L.no rfl ?_
    refine L.no rfl ?_
    refine L.va rfl (X.pickF rfl (by conv => lhs; whnf)) ?_
    refine L.nil ?_
    -- cond
    refine J.iteF rfl ?_
    refine J.skip ?_
    refine J.seq ?_
    refine J.seq ?_
    refine J.region ?_
    refine L.va rfl (X.move (by conv => lhs; whnf)) ?_
    refine L.va rfl (X.neq rfl rfl) ?_
    refine L.va rfl (X.move (by conv => lhs; whnf)) ?_
    -- case t30
    refine L.caseNdecF (k := 30) rfl (by exact hB) ?_
    refine L.va rfl (X.move (by conv => lhs; whnf)) ?_
    refine L.va rfl (X.eql rfl rfl) ?_
    refine L.va rfl (X.move (by conv => lhs; whnf)) ?_
    -- case t33
    refine L.caseDecT (k := 33) rfl (by exact hA) ?_
    refine L.va rfl (X.fieldAddr rfl Tryd.underlying30 rfl sz_22 (by decide)) ?_
    refine L.va rfl (X.load rfl sc_22 (by first | exact Ld.blk hk7 rfl | exact Ld.blk hk9 rfl | exact Ld.blk hk5 rfl)) ?_
    refine L.va rfl (X.fieldAddr rfl Tryd.underlying30 rfl sz_22 (by decide)) ?_
    refine L.va rfl (X.load rfl sc_22 (by first | exact Ld.blk hk7 rfl | exact Ld.blk hk9 rfl | exact Ld.blk hk5 rfl)) ?_
    refine L.va rfl (X.geq rfl rfl) ?_
    refine L.va rfl (X.pickT rfl (by conv => lhs; whnf)) ?_
    refine L.va rfl (X.pickF rfl (by conv => lhs; whnf)) ?_
    refine L.nil ?_
    -- cond
    refine J.decF rfl (by omega) ?_
    refine J.skip ?_
    refine J.seq ?_
    -- draw
    refine J.draw (ℓ := 1000000) (S := (fun w' => Blk w' b9 30 #[.int .u64 (mg smZ b).1.v, .int .u64 (mg smZ b).1.e, .int .u64 (mg smZ b).1.b, .int .i64 (mg smZ b).1.s, .slice AB (mg smZ b).1.r.length cB])) mixed (fun w8 hSE hS_h => ?_)
    have hS : ((fun w' => Blk w' b9 30 #[.int .u64 (mg smZ b).1.v, .int .u64 (mg smZ b).1.e, .int .u64 (mg smZ b).1.b, .int .i64 (mg smZ b).1.s, .slice AB (mg smZ b).1.r.length cB])) w8 := hk9.ext hSE
    -- t42
    refine D.va 0 rfl (by kernel_rfl) (fun _ _ _ h => h) rfl (fun w' hw => X.loadAgg rfl (range_blk hw) Tryd.underlying30 rfl (by kernel_rfl)) hS ?_
    refine D.va 1 rfl (by kernel_rfl) (fun _ _ _ h => h) rfl (fun w' hw => X.assign (by conv => lhs; whnf)) hS ?_
    -- store
    refine D.one 2 (by kernel_rfl) rfl ?_
    refine L.storeAgg (vs := [_, _, _, _, _]) rfl rfl rfl rfl sz_30 (hk5.ext hSE) rfl ?_
    intro w9 hk9' hg9 hs9'
    have hS1 := hS.grown hg9 (by intro e; injection e with e; omega)
    refine L.nil ?_
    refine ⟨fun _ => hS1, ?_⟩
    refine D.va 3 rfl (by kernel_rfl) (fun _ _ _ h => h) rfl (fun w' hw => X.assign (by conv => lhs; whnf)) hS1 ?_
    refine D.done (by kernel_rfl) ?_
    -- ret
    refine J.ret ?_
    -- results [['ResultVar.tmp', 4], ['ResultVar.cell', 5, 30], ['ResultVar.tmp', 6]]
    refine finTCT rfl (run_cell hk9' Tryd.underlying30 rfl (by kernel_rfl)) ?_
    unfold MCh
    rw [mc1 hB (.inr hv)]
    have zz := hSE.le
    exact ⟨AB, cB, rfl, ((hrB.ext hSE).kept hg9 (.inr (fun e => by have := hrB.lt _ e; omega))).mono (by omega), (hx.trans hSE).grw hg9 (by intro g hg; injection hg with hg; omega)⟩
  · refine L.va rfl (X.assign (by conv => lhs; whnf)) ?_
    refine L.nil ?_
    refine J.seq ?_
    refine J.seq ?_
    refine J.region ?_
    refine L.va rfl (X.move (by conv => lhs; whnf)) ?_
    refine L.va rfl (X.neq rfl rfl) ?_
    refine L.va rfl (X.move (by conv => lhs; whnf)) ?_
    -- case t23
    refine L.caseNdecF (k := 23) rfl (by exact hA) ?_
    refine L.no rfl ?_
    refine L.no rfl ?_
    refine L.va rfl (X.pickF rfl (by conv => lhs; whnf)) ?_
    refine L.nil ?_
    -- cond
    refine J.iteF rfl ?_
    refine J.skip ?_
    refine J.seq ?_
    refine J.seq ?_
    refine J.region ?_
    refine L.va rfl (X.move (by conv => lhs; whnf)) ?_
    refine L.va rfl (X.neq rfl rfl) ?_
    refine L.va rfl (X.move (by conv => lhs; whnf)) ?_
    -- case t30
    refine L.caseNdecT (k := 30) rfl (by exact hB) ?_
    refine L.no rfl ?_
    refine L.no rfl ?_
    refine L.no rfl ?_
    refine L.no rfl ?_
    refine L.no rfl ?_
    refine L.no rfl ?_
    refine L.no rfl ?_
    refine L.no rfl ?_
    refine L.no rfl ?_
    refine L.va rfl (X.pickT rfl (by conv => lhs; whnf)) ?_
    refine L.nil ?_
    -- cond
    refine J.iteT rfl ?_
    refine J.seq ?_
    -- draw
    refine J.draw (ℓ := 1000000) (S := (fun w' => Blk w' b7 30 #[.int .u64 (mg smZ a).1.v, .int .u64 (mg smZ a).1.e, .int .u64 (mg smZ a).1.b, .int .i64 (mg smZ a).1.s, .slice AA (mg smZ a).1.r.length cA])) mixed (fun w8 hSE hS_h => ?_)
    have hS : ((fun w' => Blk w' b7 30 #[.int .u64 (mg smZ a).1.v, .int .u64 (mg smZ a).1.e, .int .u64 (mg smZ a).1.b, .int .i64 (mg smZ a).1.s, .slice AA (mg smZ a).1.r.length cA])) w8 := hk7.ext hSE
    -- t41
    refine D.va 0 rfl (by kernel_rfl) (fun _ _ _ h => h) rfl (fun w' hw => X.loadAgg rfl (range_blk hw) Tryd.underlying30 rfl (by kernel_rfl)) hS ?_
    refine D.va 1 rfl (by kernel_rfl) (fun _ _ _ h => h) rfl (fun w' hw => X.assign (by conv => lhs; whnf)) hS ?_
    -- store
    refine D.one 2 (by kernel_rfl) rfl ?_
    refine L.storeAgg (vs := [_, _, _, _, _]) rfl rfl rfl rfl sz_30 (hk5.ext hSE) rfl ?_
    intro w9 hk9' hg9 hs9'
    have hS1 := hS.grown hg9 (by intro e; injection e with e; omega)
    refine L.nil ?_
    refine ⟨fun _ => hS1, ?_⟩
    refine D.va 3 rfl (by kernel_rfl) (fun _ _ _ h => h) rfl (fun w' hw => X.assign (by conv => lhs; whnf)) hS1 ?_
    refine D.done (by kernel_rfl) ?_
    -- ret
    refine J.ret ?_
    refine thn_ret <| ?_
    -- results [['ResultVar.tmp', 4], ['ResultVar.cell', 5, 30], ['ResultVar.tmp', 6]]
    refine finTCT rfl (run_cell hk9' Tryd.underlying30 rfl (by kernel_rfl)) ?_
    unfold MCh
    rw [mc0 hA (.inl hB)]
    have zz := hSE.le
    exact ⟨AA, cA, rfl, ((hrA.ext hSE).kept hg9 (.inr (fun e => by have := hrA.lt _ e; omega))).mono (by omega), (hx.trans hSE).grw hg9 (by intro g hg; injection hg with hg; omega)⟩
  · refine L.va rfl (X.assign (by conv => lhs; whnf)) ?_
    refine L.nil ?_
    refine J.seq ?_
    refine J.seq ?_
    refine J.region ?_
    refine L.va rfl (X.move (by conv => lhs; whnf)) ?_
    refine L.va rfl (X.neq rfl rfl) ?_
    refine L.va rfl (X.move (by conv => lhs; whnf)) ?_
    -- case t23
    refine L.caseNdecT (k := 23) rfl (by exact hA) ?_
    refine L.va rfl (X.move (by conv => lhs; whnf)) ?_
    refine L.va rfl (X.neq rfl rfl) ?_
    refine L.va rfl (X.pickT rfl (by conv => lhs; whnf)) ?_
    refine L.nil ?_
    -- cond
    refine J.ndecF rfl (by exact hB) ?_
    refine J.skip ?_
    refine J.seq ?_
    refine J.seq ?_
    refine J.region ?_
    refine L.va rfl (X.move (by conv => lhs; whnf)) ?_
    refine L.va rfl (X.neq rfl rfl) ?_
    refine L.va rfl (X.move (by conv => lhs; whnf)) ?_
    -- case t30
    refine L.caseNdecF (k := 30) rfl (by exact hB) ?_
    refine L.va rfl (X.move (by conv => lhs; whnf)) ?_
    refine L.va rfl (X.eql rfl rfl) ?_
    refine L.va rfl (X.move (by conv => lhs; whnf)) ?_
    -- case t33
    refine L.caseDecF (k := 33) rfl (by exact hA) ?_
    refine L.no rfl ?_
    refine L.no rfl ?_
    refine L.no rfl ?_
    refine L.no rfl ?_
    refine L.no rfl ?_
    refine L.va rfl (X.pickF rfl (by conv => lhs; whnf)) ?_
    refine L.va rfl (X.pickF rfl (by conv => lhs; whnf)) ?_
    refine L.nil ?_
    -- cond
    refine J.iteF rfl ?_
    refine J.skip ?_
    refine J.seq ?_
    -- draw
    refine J.draw (ℓ := 1000000) (S := (fun w' => Blk w' b9 30 #[.int .u64 (mg smZ b).1.v, .int .u64 (mg smZ b).1.e, .int .u64 (mg smZ b).1.b, .int .i64 (mg smZ b).1.s, .slice AB (mg smZ b).1.r.length cB])) mixed (fun w8 hSE hS_h => ?_)
    have hS : ((fun w' => Blk w' b9 30 #[.int .u64 (mg smZ b).1.v, .int .u64 (mg smZ b).1.e, .int .u64 (mg smZ b).1.b, .int .i64 (mg smZ b).1.s, .slice AB (mg smZ b).1.r.length cB])) w8 := hk9.ext hSE
    -- t42
    refine D.va 0 rfl (by kernel_rfl) (fun _ _ _ h => h) rfl (fun w' hw => X.loadAgg rfl (range_blk hw) Tryd.underlying30 rfl (by kernel_rfl)) hS ?_
    refine D.va 1 rfl (by kernel_rfl) (fun _ _ _ h => h) rfl (fun w' hw => X.assign (by conv => lhs; whnf)) hS ?_
    -- store
    refine D.one 2 (by kernel_rfl) rfl ?_
    refine L.storeAgg (vs := [_, _, _, _, _]) rfl rfl rfl rfl sz_30 (hk5.ext hSE) rfl ?_
    intro w9 hk9' hg9 hs9'
    have hS1 := hS.grown hg9 (by intro e; injection e with e; omega)
    refine L.nil ?_
    refine ⟨fun _ => hS1, ?_⟩
    refine D.va 3 rfl (by kernel_rfl) (fun _ _ _ h => h) rfl (fun w' hw => X.assign (by conv => lhs; whnf)) hS1 ?_
    refine D.done (by kernel_rfl) ?_
    -- ret
    refine J.ret ?_
    -- results [['ResultVar.tmp', 4], ['ResultVar.cell', 5, 30], ['ResultVar.tmp', 6]]
    refine finTCT rfl (run_cell hk9' Tryd.underlying30 rfl (by kernel_rfl)) ?_
    unfold MCh
    rw [mc1 hB (.inl hA)]
    have zz := hSE.le
    exact ⟨AB, cB, rfl, ((hrB.ext hSE).kept hg9 (.inr (fun e => by have := hrB.lt _ e; omega))).mono (by omega), (hx.trans hSE).grw hg9 (by intro g hg; injection hg with hg; omega)⟩
  · refine L.va rfl (X.assign (by conv => lhs; whnf)) ?_
    refine L.nil ?_
    refine J.seq ?_
    refine J.seq ?_
    refine J.region ?_
    refine L.va rfl (X.move (by conv => lhs; whnf)) ?_
    refine L.va rfl (X.neq rfl rfl) ?_
    refine L.va rfl (X.move (by conv => lhs; whnf)) ?_
    -- case t23
    refine L.caseNdecT (k := 23) rfl (by exact hA) ?_
    refine L.va rfl (X.move (by conv => lhs; whnf)) ?_
    refine L.va rfl (X.neq rfl rfl) ?_
    refine L.va rfl (X.pickT rfl (by conv => lhs; whnf)) ?_
    refine L.nil ?_
    -- cond
    refine J.ndecT rfl (by exact hB) ?_
    refine J.seq ?_
    refine J.region ?_
    refine L.va rfl (X.build (l := [_, _, _, _, _]) Evs.nil (bld_run Tryd.underlying30 (bp_30 Tryd.underlying30) zr_30 rfl)) ?_
    refine L.va rfl (X.assign (by conv => lhs; whnf)) ?_
    -- store
    refine L.storeAgg (vs := [_, _, _, _, _]) rfl rfl rfl rfl sz_30 (hk5) rfl ?_
    intro w8 hk8 hg8 hs8
    refine L.va rfl (X.assign (by conv => lhs; whnf)) ?_
    refine L.nil ?_
    -- ret
    refine J.ret ?_
    refine thn_ret <| ?_
    -- results [['ResultVar.tmp', 4], ['ResultVar.cell', 5, 30], ['ResultVar.tmp', 6]]
    refine finTCT rfl (run_cell hk8 Tryd.underlying30 rfl (by kernel_rfl)) ?_
    unfold MCh
    rw [mcA hA hB]
    exact ⟨none, 0, rfl, own_nil _ _ _ _, hx.grw hg8 (by intro g hg; injection hg with hg; omega)⟩
end Man
end Go.Proofs.YtlohbkcedpkjaaaDoor
