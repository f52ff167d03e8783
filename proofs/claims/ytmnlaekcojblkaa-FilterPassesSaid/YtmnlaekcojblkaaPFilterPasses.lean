/-
  For any schema, any filters and any codes the law FilterPasses returns true: Pass returns the result that the reference returns, and the same codes pass the normal form.
-/
import Derived.Test.YtmnlaekcojblkaaRows
import Derived.Test.YtmnlaekcojblkaaBase
import Derived.Test.YtmnlaekcojblkaaLFilterPasses
import Derived.WalkKit
import Derived.ProofKit
import Derived.Lay
import Derived.LaidMore
import Derived.Lib.LaidTab
import Derived.SevenTiedAt
import Derived.OpenVars
import Derived.Stop.Joined
namespace Go.Proofs.Ytmnlaekcojblkaa.filterPassesP
open Go Go.ChangeShapes Go.WideShapes Go.ChangeAt Go.RowKit
set_option linter.unusedVariables false
set_option maxRecDepth 100000
theorem own : ownKnob Try.prog.godebug = none := by kernel_rfl
theorem laidOut : laidOutB Try.prog = true := by kernel_rfl
theorem c_9 : Try.prog.cellsOf 9 = Lay.size (Str) := by kernel_rfl
theorem op_9 : Opens Try.prog 9 (Str) := opens_string Try.underlying9
theorem c_3 : Try.prog.cellsOf 3 = Lay.size (Nm .i64) := by kernel_rfl
theorem op_3 : Opens Try.prog 3 (Nm .i64) := opens_int Try.underlying3
theorem c_84 : Try.prog.cellsOf 84 = Lay.size ((Str) × (Nm .i64)) := by kernel_rfl
theorem op_84 : Opens Try.prog 84 ((Str) × (Nm .i64)) := opens_struct Try.underlying84 (opensF_cons rfl op_9 c_9 (opensF_one rfl op_3 c_3) rfl) c_84
theorem c_67 : Try.prog.cellsOf 67 = Lay.size (List ((Str) × (Nm .i64))) := by kernel_rfl
theorem op_67 : Opens Try.prog 67 (List ((Str) × (Nm .i64))) := opens_slice Try.underlying67 op_84 c_84 (by decide)
theorem c_68 : Try.prog.cellsOf 68 = Lay.size (List (Str)) := by kernel_rfl
theorem op_68 : Opens Try.prog 68 (List (Str)) := opens_slice Try.underlying68 op_9 c_9 (by decide)
theorem c_53 : Try.prog.cellsOf 53 = Lay.size (Nm .u32) := by kernel_rfl
theorem op_53 : Opens Try.prog 53 (Nm .u32) := opens_int Try.underlying53
theorem c_54 : Try.prog.cellsOf 54 = Lay.size (List (Nm .u32)) := by kernel_rfl
theorem op_54 : Opens Try.prog 54 (List (Nm .u32)) := opens_slice Try.underlying54 op_53 c_53 (by decide)
theorem c_70 : Try.prog.cellsOf 70 = Lay.size ((List ((Str) × (Nm .i64))) × (List (Str)) × (List (Str)) × (List (Nm .u32))) := by kernel_rfl
theorem op_70 : Opens Try.prog 70 ((List ((Str) × (Nm .i64))) × (List (Str)) × (List (Str)) × (List (Nm .u32))) := opens_struct Try.underlying70 (opensF_cons rfl op_67 c_67 (opensF_cons rfl op_68 c_68 (opensF_cons rfl op_68 c_68 (opensF_one rfl op_54 c_54) rfl) rfl) rfl) c_70
theorem c_29 : Try.prog.cellsOf 29 = Lay.size (List (Nm .i64)) := by kernel_rfl
theorem op_29 : Opens Try.prog 29 (List (Nm .i64)) := opens_slice Try.underlying29 op_3 c_3 (by decide)
theorem c_144 : Try.prog.cellsOf 144 = Lay.size ((Nm .i64) × (List (Nm .i64))) := by kernel_rfl
theorem op_144 : Opens Try.prog 144 ((Nm .i64) × (List (Nm .i64))) := opens_struct Try.underlying144 (opensF_cons rfl op_3 c_3 (opensF_one rfl op_29 c_29) rfl) c_144
theorem c_71 : Try.prog.cellsOf 71 = Lay.size (List ((Nm .i64) × (List (Nm .i64)))) := by kernel_rfl
theorem op_71 : Opens Try.prog 71 (List ((Nm .i64) × (List (Nm .i64)))) := opens_slice Try.underlying71 op_144 c_144 (by decide)
theorem lifted (os : Os) (started : os.Started) (H : Type) (enc : TypeId × Value → H) :
    ReturnsInHanded {} Try.checked os 12 .any (Rows.filterPassesSpec.pre6 enc Try.prog Try.f12 Rows.filterPassesRow.domain false) (Rows.filterPassesSpec.post enc Try.prog Try.f12 false true false false) := by
  refine returnsInHanded_of_change (C := Try.checked) own started (by kernel_rfl) Try.func12
    (ChangeSpec.witness6 (enc := enc) (C := Try.checked) false ⟨#[], #[.agg #[.slice none 0 0, .slice none 0 0, .slice none 0 0, .slice none 0 0], .slice none 0 0, .slice none 0 0], []⟩ 8 (by kernel_rfl) (by kernel_rfl) (by kernel_rfl) (by kernel_rfl)) ?_
  intro W base args ds gs before hval0 hW hcnd _
  have hval : ∀ (j : Nat) t v, Try.f12.params[j]? = some t → args[j]? = some v → Value.okWide Try.prog W .any base t v := hval0
  have hW' := hW
  obtain ⟨p, q, hAT, hV, rfl, hfz, hnd⟩ := hW
  have hA : DataW.TrodAll enc Try.prog W 0 (fun _ => true) true Try.f12.params.toList args.toList ds p := hAT
  rw [Try.params12] at hA hval
  obtain ⟨v0, vs0, d0, ds0, p0, q0, hargs, rfl, rfl, h0, r0⟩ := trodAll_cons hA
  obtain ⟨v1, vs1, d1, ds1, p1, q1, rfl, rfl, rfl, h1, r1⟩ := trodAll_cons r0
  obtain ⟨v2, vs2, d2, ds2, p2, q2, rfl, rfl, rfl, h2, r2⟩ := trodAll_cons r1
  obtain ⟨rfl, rfl, rfl⟩ := trodAll_nil r2
  obtain rfl : args = #[v0, v1, v2] := by cases args; simp_all
  obtain ⟨rfl, rfl⟩ := trodVars_none hV
  have hlt : ∀ x ∈ p0 ++ p1 ++ p2, x.block < W.heap.size := fun x hx => hW'.lt x (by simpa using hx)
  have hb0 : ∀ x ∈ p0, x.block < W.heap.size := fun x hx => hlt x (by simp [hx])
  have hk0 : DataW.Trod enc Try.prog W 0 (fun _ => true) true 70 v0 d0 p0 := h0
  have hb1 : ∀ x ∈ p1, x.block < W.heap.size := fun x hx => hlt x (by simp [hx])
  have hk1 : DataW.Trod enc Try.prog W 0 (fun _ => true) true 71 v1 d1 p1 := h1
  have hb2 : ∀ x ∈ p2, x.block < W.heap.size := fun x hx => hlt x (by simp [hx])
  have hk2 : DataW.Trod enc Try.prog W 0 (fun _ => true) true 29 v2 d2 p2 := h2
  obtain ⟨vs0', a0, rfl, hl0⟩ := arg_struct op_70 Try.underlying70 (hval 0 70 v0 rfl rfl) h0 hb0
  obtain ⟨A1, n1, c1, xs1, rfl, hn1, hc1, hA1, hl1⟩ := arg_slice op_71 Try.underlying71 (hval 1 71 v1 rfl rfl) h1 hb1
  obtain ⟨A2, n2, c2, xs2, rfl, hn2, hc2, hA2, hl2⟩ := arg_slice op_29 Try.underlying29 (hval 2 29 v2 rfl rfl) h2 hb2
  clear hAT hval0 hlt
  refine (law_FilterPasses W vs0' a0 hl0 A1 n1 c1 xs1 hn1 hc1 hA1 hl1 A2 n2 c2 xs2 hn2 hc2 hA2 hl2).mono fun e W' ⟨he, hb⟩ => ?_
  subst he
  exact ⟨_, rfl, _, _, _, [], p0 ++ (p1 ++ (p2 ++ [])), [], hW', trodAll_mk1 (shut_bool Try.underlying4 _), trodAll_cons_mk (Below.trod laidOut (by kernel_rfl) (of_decide_eq_true (by kernel_rfl)) hk0 hb hb0) (trodAll_cons_mk (Below.trod laidOut (by kernel_rfl) (of_decide_eq_true (by kernel_rfl)) hk1 hb hb1) (trodAll_cons_mk (Below.trod laidOut (by kernel_rfl) (of_decide_eq_true (by kernel_rfl)) hk2 hb hb2) (trodAll_mk0))), rfl, hb.frame _, fun h => by cases h⟩
theorem holds : Rows.filterPassesRow.holds Try.pinned (OpenSpec.ofChange Rows.filterPassesSpec) :=
  OpenClaim.holds_of_wide 12 Try.f12 rfl rfl rfl rfl rfl rfl rfl ⟨rfl, rfl, rfl, rfl, rfl⟩ rfl rfl rfl rfl rfl (by kernel_rfl) Try.func12 (by kernel_rfl)
    (of_decide_eq_true (by kernel_rfl)) (by unfold Func.isWrapper; first | (rw [if_pos (by decide +kernel)]; kernel_rfl) | (rw [if_neg (by decide +kernel)]; exact ⟨rfl, rfl⟩))
    (fun os started H enc _ => lifted os started H enc)
/-- For any schema, any filters and any codes the law FilterPasses returns true: Pass returns the result that the reference returns, and the same codes pass the normal form. -/
theorem proved : Rows.FilterPassesSaid := holds
#print axioms proved
end Go.Proofs.Ytmnlaekcojblkaa.filterPassesP
