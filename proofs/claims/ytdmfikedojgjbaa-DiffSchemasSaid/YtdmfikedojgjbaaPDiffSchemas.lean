/-
  Two good schemas: diff.Schema lists what the reference lists, and lists nothing just when the schemas are the same.
-/
import Derived.Test.YtdmfikedojgjbaaRows
import Derived.Test.YtdmfikedojgjbaaOpen
import Derived.Test.YtdmfikedojgjbaaLDiffSchemas
import Derived.WalkKit
import Derived.ProofKit
import Derived.Lay
import Derived.LaidMore
import Derived.Lib.LaidTab
import Derived.SevenTiedAt
import Derived.OpenVars
import Derived.Stop.Joined
namespace Go.Proofs.Ytdmfikedojgjbaa.diffSchemasP
open Go Go.ChangeShapes Go.WideShapes Go.ChangeAt Go.RowKit
set_option linter.unusedVariables false
set_option maxRecDepth 100000
theorem own : ownKnob Try.prog.godebug = none := by kernel_rfl
theorem laidOut : laidOutB Try.prog = true := by kernel_rfl
theorem c_9 : Try.prog.cellsOf 9 = Lay.size (Str) := by kernel_rfl
theorem op_9 : Opens Try.prog 9 (Str) := opens_string Try.underlying9
theorem c_3 : Try.prog.cellsOf 3 = Lay.size (Nm .i64) := by kernel_rfl
theorem op_3 : Opens Try.prog 3 (Nm .i64) := opens_int Try.underlying3
theorem c_151 : Try.prog.cellsOf 151 = Lay.size ((Str) × (Nm .i64)) := by kernel_rfl
theorem op_151 : Opens Try.prog 151 ((Str) × (Nm .i64)) := opens_struct Try.underlying151 (opensF_cons rfl op_9 c_9 (opensF_one rfl op_3 c_3) rfl) c_151
theorem c_93 : Try.prog.cellsOf 93 = Lay.size (List ((Str) × (Nm .i64))) := by kernel_rfl
theorem op_93 : Opens Try.prog 93 (List ((Str) × (Nm .i64))) := opens_slice Try.underlying93 op_151 c_151 (by decide)
theorem c_94 : Try.prog.cellsOf 94 = Lay.size (List (Str)) := by kernel_rfl
theorem op_94 : Opens Try.prog 94 (List (Str)) := opens_slice Try.underlying94 op_9 c_9 (by decide)
theorem c_103 : Try.prog.cellsOf 103 = Lay.size (Nm .u32) := by kernel_rfl
theorem op_103 : Opens Try.prog 103 (Nm .u32) := opens_int Try.underlying103
theorem c_95 : Try.prog.cellsOf 95 = Lay.size (List (Nm .u32)) := by kernel_rfl
theorem op_95 : Opens Try.prog 95 (List (Nm .u32)) := opens_slice Try.underlying95 op_103 c_103 (by decide)
theorem c_97 : Try.prog.cellsOf 97 = Lay.size ((List ((Str) × (Nm .i64))) × (List (Str)) × (List (Str)) × (List (Nm .u32))) := by kernel_rfl
theorem op_97 : Opens Try.prog 97 ((List ((Str) × (Nm .i64))) × (List (Str)) × (List (Str)) × (List (Nm .u32))) := opens_struct Try.underlying97 (opensF_cons rfl op_93 c_93 (opensF_cons rfl op_94 c_94 (opensF_cons rfl op_94 c_94 (opensF_one rfl op_95 c_95) rfl) rfl) rfl) c_97
theorem lifted (os : Os) (started : os.Started) (H : Type) (enc : TypeId × Value → H) :
    ReturnsInHanded {} Try.checked os 12 .any (Rows.diffSchemasSpec.pre6 enc Try.prog Try.f12 Rows.diffSchemasRow.domain false) (Rows.diffSchemasSpec.post enc Try.prog Try.f12 false true false false) := by
  refine returnsInHanded_of_change (C := Try.checked) own started (by kernel_rfl) Try.func12
    (ChangeSpec.witness6 (enc := enc) (C := Try.checked) false ⟨#[], #[.agg #[.slice none 0 0, .slice none 0 0, .slice none 0 0, .slice none 0 0], .agg #[.slice none 0 0, .slice none 0 0, .slice none 0 0, .slice none 0 0]], []⟩ 8 (by kernel_rfl) (by kernel_rfl) (by kernel_rfl) (by kernel_rfl)) ?_
  intro W base args ds gs before hval0 hW hcnd _
  have hval : ∀ (j : Nat) t v, Try.f12.params[j]? = some t → args[j]? = some v → Value.okWide Try.prog W .any base t v := hval0
  have hW' := hW
  obtain ⟨p, q, hA0, hV, rfl, hfz, hnd⟩ := hW
  have hA : DataW.TrodAll enc Try.prog W 0 (fun _ => true) true Try.f12.params.toList args.toList ds p := hA0
  rw [Try.params12] at hA hval
  obtain ⟨v0, vs0, d0, ds0, p0, q0, hargs, rfl, rfl, h0, r0⟩ := trodAll_cons hA
  obtain ⟨v1, vs1, d1, ds1, p1, q1, rfl, rfl, rfl, h1, r1⟩ := trodAll_cons r0
  obtain ⟨rfl, rfl, rfl⟩ := trodAll_nil r1
  obtain rfl : args = #[v0, v1] := by cases args; simp_all
  obtain ⟨rfl, rfl⟩ := trodVars_none hV
  have hlt : ∀ x ∈ p0 ++ p1, x.block < W.heap.size := fun x hx => hW'.lt x (by simpa using hx)
  have hb0 : ∀ x ∈ p0, x.block < W.heap.size := fun x hx => hlt x (by simp [hx])
  have hk0 : DataW.Trod enc Try.prog W 0 (fun _ => true) true 97 v0 d0 p0 := h0
  have hb1 : ∀ x ∈ p1, x.block < W.heap.size := fun x hx => hlt x (by simp [hx])
  have hk1 : DataW.Trod enc Try.prog W 0 (fun _ => true) true 97 v1 d1 p1 := h1
  obtain ⟨vs0', a0, rfl, hl0⟩ := arg_struct op_97 Try.underlying97 (hval 0 97 v0 rfl rfl) h0 hb0
  obtain ⟨vs1', a1, rfl, hl1⟩ := arg_struct op_97 Try.underlying97 (hval 1 97 v1 rfl rfl) h1 hb1
  clear hA0 hval0 hlt
  refine (law_DiffSchemas W vs0' a0 hl0 vs1' a1 hl1).mono fun e W' ⟨he, hb⟩ => ?_
  subst he
  exact ⟨_, rfl, _, _, _, [], p0 ++ (p1 ++ []), [], hW', trodAll_mk1 (shut_bool Try.underlying4 _), trodAll_cons_mk (Below.trod laidOut (by kernel_rfl) (of_decide_eq_true (by kernel_rfl)) hk0 hb hb0) (trodAll_cons_mk (Below.trod laidOut (by kernel_rfl) (of_decide_eq_true (by kernel_rfl)) hk1 hb hb1) (trodAll_mk0)), rfl, hb.frame _, fun h => by cases h⟩
theorem holds : Rows.diffSchemasRow.holds Try.pinned (OpenSpec.ofChange Rows.diffSchemasSpec) :=
  OpenClaim.holds_of_wide 12 Try.f12 rfl rfl rfl rfl rfl rfl rfl ⟨rfl, rfl, rfl, rfl, rfl⟩ rfl rfl rfl rfl rfl (by kernel_rfl) Try.func12 (by kernel_rfl)
    (of_decide_eq_true (by kernel_rfl)) (by unfold Func.isWrapper; first | (rw [if_pos (by decide +kernel)]; kernel_rfl) | (rw [if_neg (by decide +kernel)]; exact ⟨rfl, rfl⟩))
    (fun os started H enc _ => lifted os started H enc)
/-- Two good schemas: diff.Schema lists what the reference lists, and lists nothing just when the schemas are the same. -/
theorem proved : Rows.DiffSchemasSaid := holds
#print axioms proved
end Go.Proofs.Ytdmfikedojgjbaa.diffSchemasP
