/-
  schema.Put returns the specified encoding or error for any schema, and Get inverts it.
-/
import Derived.Test.YtlohbkcedpkjaaaRows
import Derived.Test.YtlohbkcedpkjaaaBase
import Derived.Test.YtlohbkcedpkjaaaLSchemaPuts
import Derived.WalkKit
import Derived.ProofKit
import Derived.Lay
import Derived.LaidMore
import Derived.Lib.LaidTab
import Derived.SevenTiedAt
import Derived.OpenVars
import Derived.Stop.Joined
namespace Go.Proofs.Ytlohbkcedpkjaaa.schemaPutsP
open Go Go.ChangeShapes Go.WideShapes Go.ChangeAt Go.RowKit
set_option linter.unusedVariables false
set_option maxRecDepth 100000
theorem own : ownKnob Try.prog.godebug = none := by kernel_rfl
theorem laidOut : laidOutB Try.prog = true := by kernel_rfl
theorem c_9 : Try.prog.cellsOf 9 = Lay.size (Str) := by kernel_rfl
theorem op_9 : Opens Try.prog 9 (Str) := opens_string Try.underlying9
theorem c_3 : Try.prog.cellsOf 3 = Lay.size (Nm .i64) := by kernel_rfl
theorem op_3 : Opens Try.prog 3 (Nm .i64) := opens_int Try.underlying3
theorem c_88 : Try.prog.cellsOf 88 = Lay.size ((Str) × (Nm .i64)) := by kernel_rfl
theorem op_88 : Opens Try.prog 88 ((Str) × (Nm .i64)) := opens_struct Try.underlying88 (opensF_cons rfl op_9 c_9 (opensF_one rfl op_3 c_3) rfl) c_88
theorem c_30 : Try.prog.cellsOf 30 = Lay.size (List ((Str) × (Nm .i64))) := by kernel_rfl
theorem op_30 : Opens Try.prog 30 (List ((Str) × (Nm .i64))) := opens_slice Try.underlying30 op_88 c_88 (by decide)
theorem c_31 : Try.prog.cellsOf 31 = Lay.size (List (Str)) := by kernel_rfl
theorem op_31 : Opens Try.prog 31 (List (Str)) := opens_slice Try.underlying31 op_9 c_9 (by decide)
theorem c_35 : Try.prog.cellsOf 35 = Lay.size (Nm .u32) := by kernel_rfl
theorem op_35 : Opens Try.prog 35 (Nm .u32) := opens_int Try.underlying35
theorem c_32 : Try.prog.cellsOf 32 = Lay.size (List (Nm .u32)) := by kernel_rfl
theorem op_32 : Opens Try.prog 32 (List (Nm .u32)) := opens_slice Try.underlying32 op_35 c_35 (by decide)
theorem c_34 : Try.prog.cellsOf 34 = Lay.size ((List ((Str) × (Nm .i64))) × (List (Str)) × (List (Str)) × (List (Nm .u32))) := by kernel_rfl
theorem op_34 : Opens Try.prog 34 ((List ((Str) × (Nm .i64))) × (List (Str)) × (List (Str)) × (List (Nm .u32))) := opens_struct Try.underlying34 (opensF_cons rfl op_30 c_30 (opensF_cons rfl op_31 c_31 (opensF_cons rfl op_31 c_31 (opensF_one rfl op_32 c_32) rfl) rfl) rfl) c_34
theorem lifted (os : Os) (started : os.Started) (H : Type) (enc : TypeId × Value → H) :
    ReturnsInHanded {} Try.checked os 9 .any (Rows.schemaPutsSpec.pre6 enc Try.prog Try.f9 Rows.schemaPutsRow.domain false) (Rows.schemaPutsSpec.post enc Try.prog Try.f9 false true false false) := by
  refine returnsInHanded_of_change (C := Try.checked) own started (by kernel_rfl) Try.func9
    (ChangeSpec.witness6 (enc := enc) (C := Try.checked) false ⟨#[], #[.agg #[.slice none 0 0, .slice none 0 0, .slice none 0 0, .slice none 0 0]], []⟩ 8 (by kernel_rfl) (by kernel_rfl) (by kernel_rfl) (by kernel_rfl)) ?_
  intro W base args ds gs before hval0 hW hcnd _
  have hval : ∀ (j : Nat) t v, Try.f9.params[j]? = some t → args[j]? = some v → Value.okWide Try.prog W .any base t v := hval0
  have hW' := hW
  obtain ⟨p, q, hA0, hV, rfl, hfz, hnd⟩ := hW
  have hA : DataW.TrodAll enc Try.prog W 0 (fun _ => true) true Try.f9.params.toList args.toList ds p := hA0
  rw [Try.params9] at hA hval
  obtain ⟨v0, vs0, d0, ds0, p0, q0, hargs, rfl, rfl, h0, r0⟩ := trodAll_cons hA
  obtain ⟨rfl, rfl, rfl⟩ := trodAll_nil r0
  obtain rfl : args = #[v0] := by cases args; simp_all
  obtain ⟨rfl, rfl⟩ := trodVars_none hV
  have hlt : ∀ x ∈ p0, x.block < W.heap.size := fun x hx => hW'.lt x (by simpa using hx)
  have hb0 : ∀ x ∈ p0, x.block < W.heap.size := fun x hx => hlt x (by simp [hx])
  have hk0 : DataW.Trod enc Try.prog W 0 (fun _ => true) true 34 v0 d0 p0 := h0
  obtain ⟨vs0', a0, rfl, hl0⟩ := arg_struct op_34 Try.underlying34 (hval 0 34 v0 rfl rfl) h0 hb0
  clear hA0 hval0 hlt
  refine (law_SchemaPuts W vs0' a0 hl0).mono fun e W' ⟨he, hb⟩ => ?_
  subst he
  exact ⟨_, rfl, _, _, _, [], p0 ++ [], [], hW', trodAll_mk1 (shut_bool Try.underlying4 _), trodAll_cons_mk (Below.trod laidOut (by kernel_rfl) (of_decide_eq_true (by kernel_rfl)) hk0 hb hb0) (trodAll_mk0), rfl, hb.frame _, fun h => by cases h⟩
theorem holds : Rows.schemaPutsRow.holds Try.pinned (OpenSpec.ofChange Rows.schemaPutsSpec) :=
  OpenClaim.holds_of_wide 9 Try.f9 rfl rfl rfl rfl rfl rfl rfl ⟨rfl, rfl, rfl, rfl, rfl⟩ rfl rfl rfl rfl rfl (by kernel_rfl) Try.func9 (by kernel_rfl)
    (of_decide_eq_true (by kernel_rfl)) (by unfold Func.isWrapper; first | (rw [if_pos (by decide +kernel)]; kernel_rfl) | (rw [if_neg (by decide +kernel)]; exact ⟨rfl, rfl⟩))
    (fun os started H enc _ => lifted os started H enc)
/-- schema.Put returns the specified encoding or error for any schema, and Get inverts it. -/
theorem proved : Rows.SchemaPutsSaid := holds
#print axioms proved
end Go.Proofs.Ytlohbkcedpkjaaa.schemaPutsP
