/-
  Codes, Code and Down answer as the reference says, for any schema, any two sets, any key and dimension
-/
import Derived.Test.YtmiieppcoknmfaaRows
import Derived.Test.YtmiieppcoknmfaaOpen
import Derived.Test.YtmiieppcoknmfaaLKeyCodes
import Derived.WalkKit
import Derived.ProofKit
import Derived.Lay
import Derived.LaidMore
import Derived.Lib.LaidTab
import Derived.SevenTiedAt
import Derived.OpenVars
import Derived.Stop.Joined
namespace Go.Proofs.Ytmiieppcoknmfaa.keyCodesP
open Go Go.ChangeShapes Go.WideShapes Go.ChangeAt Go.RowKit
set_option linter.unusedVariables false
set_option maxRecDepth 100000
theorem own : ownKnob Try.prog.godebug = none := by kernel_rfl
theorem laidOut : laidOutB Try.prog = true := by kernel_rfl
theorem c_9 : Try.prog.cellsOf 9 = Lay.size (Str) := by kernel_rfl
theorem op_9 : Opens Try.prog 9 (Str) := opens_string Try.underlying9
theorem c_3 : Try.prog.cellsOf 3 = Lay.size (Nm .i64) := by kernel_rfl
theorem op_3 : Opens Try.prog 3 (Nm .i64) := opens_int Try.underlying3
theorem c_40 : Try.prog.cellsOf 40 = Lay.size ((Str) × (Nm .i64)) := by kernel_rfl
theorem op_40 : Opens Try.prog 40 ((Str) × (Nm .i64)) := opens_struct Try.underlying40 (opensF_cons rfl op_9 c_9 (opensF_one rfl op_3 c_3) rfl) c_40
theorem c_22 : Try.prog.cellsOf 22 = Lay.size (List ((Str) × (Nm .i64))) := by kernel_rfl
theorem op_22 : Opens Try.prog 22 (List ((Str) × (Nm .i64))) := opens_slice Try.underlying22 op_40 c_40 (by decide)
theorem c_23 : Try.prog.cellsOf 23 = Lay.size (List (Str)) := by kernel_rfl
theorem op_23 : Opens Try.prog 23 (List (Str)) := opens_slice Try.underlying23 op_9 c_9 (by decide)
theorem c_27 : Try.prog.cellsOf 27 = Lay.size (Nm .u32) := by kernel_rfl
theorem op_27 : Opens Try.prog 27 (Nm .u32) := opens_int Try.underlying27
theorem c_24 : Try.prog.cellsOf 24 = Lay.size (List (Nm .u32)) := by kernel_rfl
theorem op_24 : Opens Try.prog 24 (List (Nm .u32)) := opens_slice Try.underlying24 op_27 c_27 (by decide)
theorem c_26 : Try.prog.cellsOf 26 = Lay.size ((List ((Str) × (Nm .i64))) × (List (Str)) × (List (Str)) × (List (Nm .u32))) := by kernel_rfl
theorem op_26 : Opens Try.prog 26 ((List ((Str) × (Nm .i64))) × (List (Str)) × (List (Str)) × (List (Nm .u32))) := opens_struct Try.underlying26 (opensF_cons rfl op_22 c_22 (opensF_cons rfl op_23 c_23 (opensF_cons rfl op_23 c_23 (opensF_one rfl op_24 c_24) rfl) rfl) rfl) c_26
theorem c_31 : Try.prog.cellsOf 31 = Lay.size (Nm .u64) := by kernel_rfl
theorem op_31 : Opens Try.prog 31 (Nm .u64) := opens_int Try.underlying31
theorem c_49 : Try.prog.cellsOf 49 = Lay.size ((Nm .u32) × (Nm .u32) × (Nm .u64) × (Nm .i64)) := by kernel_rfl
theorem op_49 : Opens Try.prog 49 ((Nm .u32) × (Nm .u32) × (Nm .u64) × (Nm .i64)) := opens_struct Try.underlying49 (opensF_cons rfl op_27 c_27 (opensF_cons rfl op_27 c_27 (opensF_cons rfl op_31 c_31 (opensF_one rfl op_3 c_3) rfl) rfl) rfl) c_49
theorem lifted (os : Os) (started : os.Started) (H : Type) (enc : TypeId × Value → H) :
    ReturnsInHanded {} Try.checked os 5 .any (Rows.keyCodesSpec.pre6 enc Try.prog Try.f5 Rows.keyCodesRow.domain false) (Rows.keyCodesSpec.post enc Try.prog Try.f5 false true false false) := by
  refine returnsInHanded_of_change (C := Try.checked) own started (by kernel_rfl) Try.func5
    (ChangeSpec.witness6 (enc := enc) (C := Try.checked) false ⟨#[], #[.agg #[.slice none 0 0, .slice none 0 0, .slice none 0 0, .slice none 0 0], .agg #[.int .u32 0, .int .u32 0, .int .u64 0, .int .i64 0]], []⟩ 8 (by kernel_rfl) (by kernel_rfl) (by kernel_rfl) (by kernel_rfl)) ?_
  intro W base args ds gs before hval0 hW hcnd _
  have hval : ∀ (j : Nat) t v, Try.f5.params[j]? = some t → args[j]? = some v → Value.okWide Try.prog W .any base t v := hval0
  have hW' := hW
  obtain ⟨p, q, hA0, hV, rfl, hfz, hnd⟩ := hW
  have hA : DataW.TrodAll enc Try.prog W 0 (fun _ => true) true Try.f5.params.toList args.toList ds p := hA0
  rw [Try.params5] at hA hval
  obtain ⟨v0, vs0, d0, ds0, p0, q0, hargs, rfl, rfl, h0, r0⟩ := trodAll_cons hA
  obtain ⟨v1, vs1, d1, ds1, p1, q1, rfl, rfl, rfl, h1, r1⟩ := trodAll_cons r0
  obtain ⟨rfl, rfl, rfl⟩ := trodAll_nil r1
  obtain rfl : args = #[v0, v1] := by cases args; simp_all
  obtain ⟨rfl, rfl⟩ := trodVars_none hV
  have hlt : ∀ x ∈ p0 ++ p1, x.block < W.heap.size := fun x hx => hW'.lt x (by simpa using hx)
  have hb0 : ∀ x ∈ p0, x.block < W.heap.size := fun x hx => hlt x (by simp [hx])
  have hk0 : DataW.Trod enc Try.prog W 0 (fun _ => true) true 26 v0 d0 p0 := h0
  have hb1 : ∀ x ∈ p1, x.block < W.heap.size := fun x hx => hlt x (by simp [hx])
  have hk1 : DataW.Trod enc Try.prog W 0 (fun _ => true) true 49 v1 d1 p1 := h1
  obtain ⟨vs0', a0, rfl, hl0⟩ := arg_struct op_26 Try.underlying26 (hval 0 26 v0 rfl rfl) h0 hb0
  obtain ⟨vs1', a1, rfl, hl1⟩ := arg_struct op_49 Try.underlying49 (hval 1 49 v1 rfl rfl) h1 hb1
  clear hA0 hval0 hlt
  refine (law_KeyCodes W vs0' a0 hl0 vs1' a1 hl1).mono fun e W' ⟨he, hb⟩ => ?_
  subst he
  exact ⟨_, rfl, _, _, _, [], p0 ++ (p1 ++ []), [], hW', trodAll_mk1 (shut_bool Try.underlying4 _), trodAll_cons_mk (Below.trod laidOut (by kernel_rfl) (of_decide_eq_true (by kernel_rfl)) hk0 hb hb0) (trodAll_cons_mk (Below.trod laidOut (by kernel_rfl) (of_decide_eq_true (by kernel_rfl)) hk1 hb hb1) (trodAll_mk0)), rfl, hb.frame _, fun h => by cases h⟩
theorem holds : Rows.keyCodesRow.holds Try.pinned (OpenSpec.ofChange Rows.keyCodesSpec) :=
  OpenClaim.holds_of_wide 5 Try.f5 rfl rfl rfl rfl rfl rfl rfl ⟨rfl, rfl, rfl, rfl, rfl⟩ rfl rfl rfl rfl rfl (by kernel_rfl) Try.func5 (by kernel_rfl)
    (of_decide_eq_true (by kernel_rfl)) (by unfold Func.isWrapper; first | (rw [if_pos (by decide +kernel)]; kernel_rfl) | (rw [if_neg (by decide +kernel)]; exact ⟨rfl, rfl⟩))
    (fun os started H enc _ => lifted os started H enc)
/-- Codes, Code and Down answer as the reference says, for any schema, any two sets, any key and dimension -/
theorem proved : Rows.KeyCodesSaid := holds
#print axioms proved
end Go.Proofs.Ytmiieppcoknmfaa.keyCodesP
