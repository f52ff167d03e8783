/-
  Serve, Pick and Gain return the specified results for any query and sizes.
-/
import Derived.Test.YtlohbkcedpkjaaaRows
import Derived.Test.YtlohbkcedpkjaaaBase
import Derived.Test.YtlohbkcedpkjaaaLPlanPicks
import Derived.WalkKit
import Derived.ProofKit
import Derived.Lay
import Derived.LaidMore
import Derived.Lib.LaidTab
import Derived.SevenTiedAt
import Derived.OpenVars
import Derived.Stop.Joined
namespace Go.Proofs.Ytlohbkcedpkjaaa.planPicksP
open Go Go.ChangeShapes Go.WideShapes Go.ChangeAt Go.RowKit
set_option linter.unusedVariables false
set_option maxRecDepth 100000
theorem own : ownKnob Try.prog.godebug = none := by kernel_rfl
theorem laidOut : laidOutB Try.prog = true := by kernel_rfl
theorem c_9 : Try.prog.cellsOf 9 = Lay.size (Str) := by kernel_rfl
theorem op_9 : Opens Try.prog 9 (Str) := opens_string Try.underlying9
theorem c_3 : Try.prog.cellsOf 3 = Lay.size (Nm .i64) := by kernel_rfl
theorem op_3 : Opens Try.prog 3 (Nm .i64) := opens_int Try.underlying3
theorem c_88 : Try.prog.cellsOf 88 = Lay.size ((Str) × (Nm .i64)) := by kernel_rfl
theorem op_88 : Opens Try.prog 88 ((Str) × (Nm .i64)) := opens_struct Try.underlying88 (opensF_cons rfl op_9 c_9 (opensF_one rfl op_3 c_3) rfl) c_88
theorem c_30 : Try.prog.cellsOf 30 = Lay.size (List ((Str) × (Nm .i64))) := by kernel_rfl
theorem op_30 : Opens Try.prog 30 (List ((Str) × (Nm .i64))) := opens_slice Try.underlying30 op_88 c_88 (by decide)
theorem c_31 : Try.prog.cellsOf 31 = Lay.size (List (Str)) := by kernel_rfl
theorem op_31 : Opens Try.prog 31 (List (Str)) := opens_slice Try.underlying31 op_9 c_9 (by decide)
theorem c_35 : Try.prog.cellsOf 35 = Lay.size (Nm .u32) := by kernel_rfl
theorem op_35 : Opens Try.prog 35 (Nm .u32) := opens_int Try.underlying35
theorem c_32 : Try.prog.cellsOf 32 = Lay.size (List (Nm .u32)) := by kernel_rfl
theorem op_32 : Opens Try.prog 32 (List (Nm .u32)) := opens_slice Try.underlying32 op_35 c_35 (by decide)
theorem c_34 : Try.prog.cellsOf 34 = Lay.size ((List ((Str) × (Nm .i64))) × (List (Str)) × (List (Str)) × (List (Nm .u32))) := by kernel_rfl
theorem op_34 : Opens Try.prog 34 ((List ((Str) × (Nm .i64))) × (List (Str)) × (List (Str)) × (List (Nm .u32))) := opens_struct Try.underlying34 (opensF_cons rfl op_30 c_30 (opensF_cons rfl op_31 c_31 (opensF_cons rfl op_31 c_31 (opensF_one rfl op_32 c_32) rfl) rfl) rfl) c_34
theorem c_25 : Try.prog.cellsOf 25 = Lay.size (List (Nm .i64)) := by kernel_rfl
theorem op_25 : Opens Try.prog 25 (List (Nm .i64)) := opens_slice Try.underlying25 op_3 c_3 (by decide)
theorem c_90 : Try.prog.cellsOf 90 = Lay.size ((Nm .i64) × (List (Nm .i64))) := by kernel_rfl
theorem op_90 : Opens Try.prog 90 ((Nm .i64) × (List (Nm .i64))) := opens_struct Try.underlying90 (opensF_cons rfl op_3 c_3 (opensF_one rfl op_25 c_25) rfl) c_90
theorem c_36 : Try.prog.cellsOf 36 = Lay.size (List ((Nm .i64) × (List (Nm .i64)))) := by kernel_rfl
theorem op_36 : Opens Try.prog 36 (List ((Nm .i64) × (List (Nm .i64)))) := opens_slice Try.underlying36 op_90 c_90 (by decide)
theorem c_92 : Try.prog.cellsOf 92 = Lay.size ((Nm .i64) × (Nm .i64)) := by kernel_rfl
theorem op_92 : Opens Try.prog 92 ((Nm .i64) × (Nm .i64)) := opens_struct Try.underlying92 (opensF_cons rfl op_3 c_3 (opensF_one rfl op_3 c_3) rfl) c_92
theorem c_37 : Try.prog.cellsOf 37 = Lay.size (List ((Nm .i64) × (Nm .i64))) := by kernel_rfl
theorem op_37 : Opens Try.prog 37 (List ((Nm .i64) × (Nm .i64))) := opens_slice Try.underlying37 op_92 c_92 (by decide)
theorem c_4 : Try.prog.cellsOf 4 = Lay.size (Bool) := by kernel_rfl
theorem op_4 : Opens Try.prog 4 (Bool) := opens_bool Try.underlying4
theorem c_103 : Try.prog.cellsOf 103 = Lay.size ((Nm .i64) × (Bool)) := by kernel_rfl
theorem op_103 : Opens Try.prog 103 ((Nm .i64) × (Bool)) := opens_struct Try.underlying103 (opensF_cons rfl op_3 c_3 (opensF_one rfl op_4 c_4) rfl) c_103
theorem c_38 : Try.prog.cellsOf 38 = Lay.size (List ((Nm .i64) × (Bool))) := by kernel_rfl
theorem op_38 : Opens Try.prog 38 (List ((Nm .i64) × (Bool))) := opens_slice Try.underlying38 op_103 c_103 (by decide)
theorem c_40 : Try.prog.cellsOf 40 = Lay.size ((Nm .u32) × (List ((Nm .i64) × (List (Nm .i64)))) × (List ((Nm .i64) × (Nm .i64))) × (List ((Nm .i64) × (Bool))) × (Nm .i64)) := by kernel_rfl
theorem op_40 : Opens Try.prog 40 ((Nm .u32) × (List ((Nm .i64) × (List (Nm .i64)))) × (List ((Nm .i64) × (Nm .i64))) × (List ((Nm .i64) × (Bool))) × (Nm .i64)) := opens_struct Try.underlying40 (opensF_cons rfl op_35 c_35 (opensF_cons rfl op_36 c_36 (opensF_cons rfl op_37 c_37 (opensF_cons rfl op_38 c_38 (opensF_one rfl op_3 c_3) rfl) rfl) rfl) rfl) c_40
theorem lifted (os : Os) (started : os.Started) (H : Type) (enc : TypeId × Value → H) :
    ReturnsInHanded {} Try.checked os 5 .any (Rows.planPicksSpec.pre6 enc Try.prog Try.f5 Rows.planPicksRow.domain false) (Rows.planPicksSpec.post enc Try.prog Try.f5 false true false false) := by
  refine returnsInHanded_of_change (C := Try.checked) own started (by kernel_rfl) Try.func5
    (ChangeSpec.witness6 (enc := enc) (C := Try.checked) false ⟨#[], #[.agg #[.slice none 0 0, .slice none 0 0, .slice none 0 0, .slice none 0 0], .agg #[.int .u32 0, .slice none 0 0, .slice none 0 0, .slice none 0 0, .int .i64 0], .slice none 0 0], []⟩ 8 (by kernel_rfl) (by kernel_rfl) (by kernel_rfl) (by kernel_rfl)) ?_
  intro W base args ds gs before hval0 hW hcnd _
  have hval : ∀ (j : Nat) t v, Try.f5.params[j]? = some t → args[j]? = some v → Value.okWide Try.prog W .any base t v := hval0
  have hW' := hW
  obtain ⟨p, q, hAT, hV, rfl, hfz, hnd⟩ := hW
  have hA : DataW.TrodAll enc Try.prog W 0 (fun _ => true) true Try.f5.params.toList args.toList ds p := hAT
  rw [Try.params5] at hA hval
  obtain ⟨v0, vs0, d0, ds0, p0, q0, hargs, rfl, rfl, h0, r0⟩ := trodAll_cons hA
  obtain ⟨v1, vs1, d1, ds1, p1, q1, rfl, rfl, rfl, h1, r1⟩ := trodAll_cons r0
  obtain ⟨v2, vs2, d2, ds2, p2, q2, rfl, rfl, rfl, h2, r2⟩ := trodAll_cons r1
  obtain ⟨rfl, rfl, rfl⟩ := trodAll_nil r2
  obtain rfl : args = #[v0, v1, v2] := by cases args; simp_all
  obtain ⟨rfl, rfl⟩ := trodVars_none hV
  have hlt : ∀ x ∈ p0 ++ p1 ++ p2, x.block < W.heap.size := fun x hx => hW'.lt x (by simpa using hx)
  have hb0 : ∀ x ∈ p0, x.block < W.heap.size := fun x hx => hlt x (by simp [hx])
  have hk0 : DataW.Trod enc Try.prog W 0 (fun _ => true) true 34 v0 d0 p0 := h0
  have hb1 : ∀ x ∈ p1, x.block < W.heap.size := fun x hx => hlt x (by simp [hx])
  have hk1 : DataW.Trod enc Try.prog W 0 (fun _ => true) true 40 v1 d1 p1 := h1
  have hb2 : ∀ x ∈ p2, x.block < W.heap.size := fun x hx => hlt x (by simp [hx])
  have hk2 : DataW.Trod enc Try.prog W 0 (fun _ => true) true 25 v2 d2 p2 := h2
  obtain ⟨vs0', a0, rfl, hl0⟩ := arg_struct op_34 Try.underlying34 (hval 0 34 v0 rfl rfl) h0 hb0
  obtain ⟨vs1', a1, rfl, hl1⟩ := arg_struct op_40 Try.underlying40 (hval 1 40 v1 rfl rfl) h1 hb1
  obtain ⟨A2, n2, c2, xs2, rfl, hn2, hc2, hA2, hl2⟩ := arg_slice op_25 Try.underlying25 (hval 2 25 v2 rfl rfl) h2 hb2
  clear hAT hval0 hlt
  refine (law_PlanPicks W vs0' a0 hl0 vs1' a1 hl1 A2 n2 c2 xs2 hn2 hc2 hA2 hl2).mono fun e W' ⟨he, hb⟩ => ?_
  subst he
  exact ⟨_, rfl, _, _, _, [], p0 ++ (p1 ++ (p2 ++ [])), [], hW', trodAll_mk1 (shut_bool Try.underlying4 _), trodAll_cons_mk (Below.trod laidOut (by kernel_rfl) (of_decide_eq_true (by kernel_rfl)) hk0 hb hb0) (trodAll_cons_mk (Below.trod laidOut (by kernel_rfl) (of_decide_eq_true (by kernel_rfl)) hk1 hb hb1) (trodAll_cons_mk (Below.trod laidOut (by kernel_rfl) (of_decide_eq_true (by kernel_rfl)) hk2 hb hb2) (trodAll_mk0))), rfl, hb.frame _, fun h => by cases h⟩
theorem holds : Rows.planPicksRow.holds Try.pinned (OpenSpec.ofChange Rows.planPicksSpec) :=
  OpenClaim.holds_of_wide 5 Try.f5 rfl rfl rfl rfl rfl rfl rfl ⟨rfl, rfl, rfl, rfl, rfl⟩ rfl rfl rfl rfl rfl (by kernel_rfl) Try.func5 (by kernel_rfl)
    (of_decide_eq_true (by kernel_rfl)) (by unfold Func.isWrapper; first | (rw [if_pos (by decide +kernel)]; kernel_rfl) | (rw [if_neg (by decide +kernel)]; exact ⟨rfl, rfl⟩))
    (fun os started H enc _ => lifted os started H enc)
/-- Serve, Pick and Gain return the specified results for any query and sizes. -/
theorem proved : Rows.PlanPicksSaid := holds
#print axioms proved
end Go.Proofs.Ytlohbkcedpkjaaa.planPicksP
