/-
  schema.Get returns the specified schema or error for any bytes, and Put inverts it.
-/
import Derived.Test.YtlohbkcedpkjaaaRows
import Derived.Test.YtlohbkcedpkjaaaBase
import Derived.Test.YtlohbkcedpkjaaaLSchemaGets
import Derived.WalkKit
import Derived.ProofKit
import Derived.Lay
import Derived.LaidMore
import Derived.Lib.LaidTab
import Derived.SevenTiedAt
import Derived.OpenVars
import Derived.Stop.Joined
namespace Go.Proofs.Ytlohbkcedpkjaaa.schemaGetsP
open Go Go.ChangeShapes Go.WideShapes Go.ChangeAt Go.RowKit
set_option linter.unusedVariables false
set_option maxRecDepth 100000
theorem own : ownKnob Try.prog.godebug = none := by kernel_rfl
theorem laidOut : laidOutB Try.prog = true := by kernel_rfl
theorem c_5 : Try.prog.cellsOf 5 = Lay.size (Nm .u8) := by kernel_rfl
theorem op_5 : Opens Try.prog 5 (Nm .u8) := opens_int Try.underlying5
theorem c_58 : Try.prog.cellsOf 58 = Lay.size (List (Nm .u8)) := by kernel_rfl
theorem op_58 : Opens Try.prog 58 (List (Nm .u8)) := opens_slice Try.underlying58 op_5 c_5 (by decide)
theorem lifted (os : Os) (started : os.Started) (H : Type) (enc : TypeId × Value → H) :
    ReturnsInHanded {} Try.checked os 8 .any (Rows.schemaGetsSpec.pre6 enc Try.prog Try.f8 Rows.schemaGetsRow.domain false) (Rows.schemaGetsSpec.post enc Try.prog Try.f8 false true false false) := by
  refine returnsInHanded_of_change (C := Try.checked) own started (by kernel_rfl) Try.func8
    (ChangeSpec.witness6 (enc := enc) (C := Try.checked) false ⟨#[], #[.slice none 0 0], []⟩ 8 (by kernel_rfl) (by kernel_rfl) (by kernel_rfl) (by kernel_rfl)) ?_
  intro W base args ds gs before hval0 hW hcnd _
  have hval : ∀ (j : Nat) t v, Try.f8.params[j]? = some t → args[j]? = some v → Value.okWide Try.prog W .any base t v := hval0
  have hW' := hW
  obtain ⟨p, q, hAT, hV, rfl, hfz, hnd⟩ := hW
  have hA : DataW.TrodAll enc Try.prog W 0 (fun _ => true) true Try.f8.params.toList args.toList ds p := hAT
  rw [Try.params8] at hA hval
  obtain ⟨v0, vs0, d0, ds0, p0, q0, hargs, rfl, rfl, h0, r0⟩ := trodAll_cons hA
  obtain ⟨rfl, rfl, rfl⟩ := trodAll_nil r0
  obtain rfl : args = #[v0] := by cases args; simp_all
  obtain ⟨rfl, rfl⟩ := trodVars_none hV
  have hlt : ∀ x ∈ p0, x.block < W.heap.size := fun x hx => hW'.lt x (by simpa using hx)
  have hb0 : ∀ x ∈ p0, x.block < W.heap.size := fun x hx => hlt x (by simp [hx])
  have hk0 : DataW.Trod enc Try.prog W 0 (fun _ => true) true 58 v0 d0 p0 := h0
  obtain ⟨A0, n0, c0, xs0, rfl, hn0, hc0, hA0, hl0⟩ := arg_slice op_58 Try.underlying58 (hval 0 58 v0 rfl rfl) h0 hb0
  clear hAT hval0 hlt
  refine (law_SchemaGets W A0 n0 c0 xs0 hn0 hc0 hA0 hl0).mono fun e W' ⟨he, hb⟩ => ?_
  subst he
  exact ⟨_, rfl, _, _, _, [], p0 ++ [], [], hW', trodAll_mk1 (shut_bool Try.underlying4 _), trodAll_cons_mk (Below.trod laidOut (by kernel_rfl) (of_decide_eq_true (by kernel_rfl)) hk0 hb hb0) (trodAll_mk0), rfl, hb.frame _, fun h => by cases h⟩
theorem holds : Rows.schemaGetsRow.holds Try.pinned (OpenSpec.ofChange Rows.schemaGetsSpec) :=
  OpenClaim.holds_of_wide 8 Try.f8 rfl rfl rfl rfl rfl rfl rfl ⟨rfl, rfl, rfl, rfl, rfl⟩ rfl rfl rfl rfl rfl (by kernel_rfl) Try.func8 (by kernel_rfl)
    (of_decide_eq_true (by kernel_rfl)) (by unfold Func.isWrapper; first | (rw [if_pos (by decide +kernel)]; kernel_rfl) | (rw [if_neg (by decide +kernel)]; exact ⟨rfl, rfl⟩))
    (fun os started H enc _ => lifted os started H enc)
/-- schema.Get returns the specified schema or error for any bytes, and Put inverts it. -/
theorem proved : Rows.SchemaGetsSaid := holds
#print axioms proved
end Go.Proofs.Ytlohbkcedpkjaaa.schemaGetsP
