/-
  Check, Full, Views and Keys of package schema answer as the reference says, for any schema and any set of dimensions
-/
import Derived.Test.YtkipdkkpifnboaaRows
import Derived.Test.YtkipdkkpifnboaaOpen
import Derived.Test.YtkipdkkpifnboaaLSchemaChecks
import Derived.WalkKit
import Derived.ProofKit
import Derived.Lay
import Derived.LaidMore
import Derived.Lib.LaidTab
import Derived.SevenTiedAt
import Derived.OpenVars
import Derived.Stop.Joined
namespace Go.Proofs.Ytkipdkkpifnboaa.schemaChecksP
open Go Go.ChangeShapes Go.WideShapes Go.ChangeAt Go.RowKit
set_option linter.unusedVariables false
set_option maxRecDepth 100000
theorem own : ownKnob Try.prog.godebug = none := by kernel_rfl
theorem laidOut : laidOutB Try.prog = true := by kernel_rfl
theorem c_9 : Try.prog.cellsOf 9 = Lay.size (Str) := by kernel_rfl
theorem op_9 : Opens Try.prog 9 (Str) := opens_string Try.underlying9
theorem c_3 : Try.prog.cellsOf 3 = Lay.size (Nm .i64) := by kernel_rfl
theorem op_3 : Opens Try.prog 3 (Nm .i64) := opens_int Try.underlying3
theorem c_114 : Try.prog.cellsOf 114 = Lay.size ((Str) × (Nm .i64)) := by kernel_rfl
theorem op_114 : Opens Try.prog 114 ((Str) × (Nm .i64)) := opens_struct Try.underlying114 (opensF_cons rfl op_9 c_9 (opensF_one rfl op_3 c_3) rfl) c_114
theorem c_39 : Try.prog.cellsOf 39 = Lay.size (List ((Str) × (Nm .i64))) := by kernel_rfl
theorem op_39 : Opens Try.prog 39 (List ((Str) × (Nm .i64))) := opens_slice Try.underlying39 op_114 c_114 (by decide)
theorem c_40 : Try.prog.cellsOf 40 = Lay.size (List (Str)) := by kernel_rfl
theorem op_40 : Opens Try.prog 40 (List (Str)) := opens_slice Try.underlying40 op_9 c_9 (by decide)
theorem c_29 : Try.prog.cellsOf 29 = Lay.size (Nm .u32) := by kernel_rfl
theorem op_29 : Opens Try.prog 29 (Nm .u32) := opens_int Try.underlying29
theorem c_23 : Try.prog.cellsOf 23 = Lay.size (List (Nm .u32)) := by kernel_rfl
theorem op_23 : Opens Try.prog 23 (List (Nm .u32)) := opens_slice Try.underlying23 op_29 c_29 (by decide)
theorem c_42 : Try.prog.cellsOf 42 = Lay.size ((List ((Str) × (Nm .i64))) × (List (Str)) × (List (Str)) × (List (Nm .u32))) := by kernel_rfl
theorem op_42 : Opens Try.prog 42 ((List ((Str) × (Nm .i64))) × (List (Str)) × (List (Str)) × (List (Nm .u32))) := opens_struct Try.underlying42 (opensF_cons rfl op_39 c_39 (opensF_cons rfl op_40 c_40 (opensF_cons rfl op_40 c_40 (opensF_one rfl op_23 c_23) rfl) rfl) rfl) c_42
theorem lifted (os : Os) (started : os.Started) (H : Type) (enc : TypeId × Value → H) :
    ReturnsInHanded {} Try.checked os 6 .any (Rows.schemaChecksSpec.pre6 enc Try.prog Try.f6 Rows.schemaChecksRow.domain false) (Rows.schemaChecksSpec.post enc Try.prog Try.f6 false true false false) := by
  refine returnsInHanded_of_change (C := Try.checked) own started (by kernel_rfl) Try.func6
    (ChangeSpec.witness6 (enc := enc) (C := Try.checked) false ⟨#[], #[.agg #[.slice none 0 0, .slice none 0 0, .slice none 0 0, .slice none 0 0], .int .u32 0], []⟩ 8 (by kernel_rfl) (by kernel_rfl) (by kernel_rfl) (by kernel_rfl)) ?_
  intro W base args ds gs before hval0 hW hcnd _
  have hval : ∀ (j : Nat) t v, Try.f6.params[j]? = some t → args[j]? = some v → Value.okWide Try.prog W .any base t v := hval0
  have hW' := hW
  obtain ⟨p, q, hA0, hV, rfl, hfz, hnd⟩ := hW
  have hA : DataW.TrodAll enc Try.prog W 0 (fun _ => true) true Try.f6.params.toList args.toList ds p := hA0
  rw [Try.params6] at hA hval
  obtain ⟨v0, vs0, d0, ds0, p0, q0, hargs, rfl, rfl, h0, r0⟩ := trodAll_cons hA
  obtain ⟨v1, vs1, d1, ds1, p1, q1, rfl, rfl, rfl, h1, r1⟩ := trodAll_cons r0
  obtain ⟨rfl, rfl, rfl⟩ := trodAll_nil r1
  obtain rfl : args = #[v0, v1] := by cases args; simp_all
  obtain ⟨rfl, rfl⟩ := trodVars_none hV
  have hlt : ∀ x ∈ p0 ++ p1, x.block < W.heap.size := fun x hx => hW'.lt x (by simpa using hx)
  have hb0 : ∀ x ∈ p0, x.block < W.heap.size := fun x hx => hlt x (by simp [hx])
  have hk0 : DataW.Trod enc Try.prog W 0 (fun _ => true) true 42 v0 d0 p0 := h0
  have hb1 : ∀ x ∈ p1, x.block < W.heap.size := fun x hx => hlt x (by simp [hx])
  have hk1 : DataW.Trod enc Try.prog W 0 (fun _ => true) true 29 v1 d1 p1 := h1
  obtain ⟨vs0', a0, rfl, hl0⟩ := arg_struct op_42 Try.underlying42 (hval 0 42 v0 rfl rfl) h0 hb0
  obtain ⟨x1, rfl, rfl, rfl, w1⟩ := open_int Try.underlying29 (hval 1 29 v1 rfl rfl) h1
  clear hA0 hval0 hlt
  refine (law_SchemaChecks W vs0' a0 hl0 ⟨x1, w1⟩).mono fun e W' ⟨he, hb⟩ => ?_
  subst he
  exact ⟨_, rfl, _, _, _, [], p0 ++ ([] ++ []), [], hW', trodAll_mk1 (shut_bool Try.underlying4 _), trodAll_cons_mk (Below.trod laidOut (by kernel_rfl) (of_decide_eq_true (by kernel_rfl)) hk0 hb hb0) (trodAll_cons_mk (Below.trod laidOut (by kernel_rfl) (of_decide_eq_true (by kernel_rfl)) hk1 hb hb1) (trodAll_mk0)), rfl, hb.frame _, fun h => by cases h⟩
theorem holds : Rows.schemaChecksRow.holds Try.pinned (OpenSpec.ofChange Rows.schemaChecksSpec) :=
  OpenClaim.holds_of_wide 6 Try.f6 rfl rfl rfl rfl rfl rfl rfl ⟨rfl, rfl, rfl, rfl, rfl⟩ rfl rfl rfl rfl rfl (by kernel_rfl) Try.func6 (by kernel_rfl)
    (of_decide_eq_true (by kernel_rfl)) (by unfold Func.isWrapper; first | (rw [if_pos (by decide +kernel)]; kernel_rfl) | (rw [if_neg (by decide +kernel)]; exact ⟨rfl, rfl⟩))
    (fun os started H enc _ => lifted os started H enc)
/-- Check, Full, Views and Keys of package schema answer as the reference says, for any schema and any set of dimensions -/
theorem proved : Rows.SchemaChecksSaid := holds
#print axioms proved
end Go.Proofs.Ytkipdkkpifnboaa.schemaChecksP
