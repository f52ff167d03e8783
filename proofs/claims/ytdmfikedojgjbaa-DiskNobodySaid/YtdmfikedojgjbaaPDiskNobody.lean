/-
  A nil disk, and one that was not made, does nothing, for every deed.
-/
import Derived.Test.YtdmfikedojgjbaaRows
import Derived.Test.YtdmfikedojgjbaaOpen
import Derived.Test.YtdmfikedojgjbaaLDiskNobody
import Derived.WalkKit
import Derived.ProofKit
import Derived.Lay
import Derived.LaidMore
import Derived.Lib.LaidTab
import Derived.SevenTiedAt
import Derived.OpenVars
import Derived.Stop.Joined
namespace Go.Proofs.Ytdmfikedojgjbaa.diskNobodyP
open Go Go.ChangeShapes Go.WideShapes Go.ChangeAt Go.RowKit
set_option linter.unusedVariables false
set_option maxRecDepth 100000
theorem own : ownKnob Try.prog.godebug = none := by kernel_rfl
theorem laidOut : laidOutB Try.prog = true := by kernel_rfl
theorem c_3 : Try.prog.cellsOf 3 = Lay.size (Nm .i64) := by kernel_rfl
theorem op_3 : Opens Try.prog 3 (Nm .i64) := opens_int Try.underlying3
theorem c_5 : Try.prog.cellsOf 5 = Lay.size (Nm .u8) := by kernel_rfl
theorem op_5 : Opens Try.prog 5 (Nm .u8) := opens_int Try.underlying5
theorem c_30 : Try.prog.cellsOf 30 = Lay.size (List (Nm .u8)) := by kernel_rfl
theorem op_30 : Opens Try.prog 30 (List (Nm .u8)) := opens_slice Try.underlying30 op_5 c_5 (by decide)
theorem c_4 : Try.prog.cellsOf 4 = Lay.size (Bool) := by kernel_rfl
theorem op_4 : Opens Try.prog 4 (Bool) := opens_bool Try.underlying4
theorem c_23 : Try.prog.cellsOf 23 = Lay.size (List (Bool)) := by kernel_rfl
theorem op_23 : Opens Try.prog 23 (List (Bool)) := opens_slice Try.underlying23 op_4 c_4 (by decide)
theorem c_34 : Try.prog.cellsOf 34 = Lay.size ((Nm .i64) × (Nm .i64) × (List (Nm .u8)) × (Bool) × (List (Bool))) := by kernel_rfl
theorem op_34 : Opens Try.prog 34 ((Nm .i64) × (Nm .i64) × (List (Nm .u8)) × (Bool) × (List (Bool))) := opens_struct Try.underlying34 (opensF_cons rfl op_3 c_3 (opensF_cons rfl op_3 c_3 (opensF_cons rfl op_30 c_30 (opensF_cons rfl op_4 c_4 (opensF_one rfl op_23 c_23) rfl) rfl) rfl) rfl) c_34
theorem lifted (os : Os) (started : os.Started) (H : Type) (enc : TypeId × Value → H) :
    ReturnsInHanded {} Try.checked os 7 .any (Rows.diskNobodySpec.pre6 enc Try.prog Try.f7 Rows.diskNobodyRow.domain false) (Rows.diskNobodySpec.post enc Try.prog Try.f7 false true false false) := by
  refine returnsInHanded_of_change (C := Try.checked) own started (by kernel_rfl) Try.func7
    (ChangeSpec.witness6 (enc := enc) (C := Try.checked) false ⟨#[], #[.agg #[.int .i64 0, .int .i64 0, .slice none 0 0, .bool false, .slice none 0 0]], []⟩ 8 (by kernel_rfl) (by kernel_rfl) (by kernel_rfl) (by kernel_rfl)) ?_
  intro W base args ds gs before hval0 hW hcnd _
  have hval : ∀ (j : Nat) t v, Try.f7.params[j]? = some t → args[j]? = some v → Value.okWide Try.prog W .any base t v := hval0
  have hW' := hW
  obtain ⟨p, q, hA0, hV, rfl, hfz, hnd⟩ := hW
  have hA : DataW.TrodAll enc Try.prog W 0 (fun _ => true) true Try.f7.params.toList args.toList ds p := hA0
  rw [Try.params7] at hA hval
  obtain ⟨v0, vs0, d0, ds0, p0, q0, hargs, rfl, rfl, h0, r0⟩ := trodAll_cons hA
  obtain ⟨rfl, rfl, rfl⟩ := trodAll_nil r0
  obtain rfl : args = #[v0] := by cases args; simp_all
  obtain ⟨rfl, rfl⟩ := trodVars_none hV
  have hlt : ∀ x ∈ p0, x.block < W.heap.size := fun x hx => hW'.lt x (by simpa using hx)
  have hb0 : ∀ x ∈ p0, x.block < W.heap.size := fun x hx => hlt x (by simp [hx])
  have hk0 : DataW.Trod enc Try.prog W 0 (fun _ => true) true 34 v0 d0 p0 := h0
  obtain ⟨vs0', a0, rfl, hl0⟩ := arg_struct op_34 Try.underlying34 (hval 0 34 v0 rfl rfl) h0 hb0
  clear hA0 hval0 hlt
  refine (law_DiskNobody W vs0' a0 hl0).mono fun e W' ⟨he, hb⟩ => ?_
  subst he
  exact ⟨_, rfl, _, _, _, [], p0 ++ [], [], hW', trodAll_mk1 (shut_bool Try.underlying4 _), trodAll_cons_mk (Below.trod laidOut (by kernel_rfl) (of_decide_eq_true (by kernel_rfl)) hk0 hb hb0) (trodAll_mk0), rfl, hb.frame _, fun h => by cases h⟩
theorem holds : Rows.diskNobodyRow.holds Try.pinned (OpenSpec.ofChange Rows.diskNobodySpec) :=
  OpenClaim.holds_of_wide 7 Try.f7 rfl rfl rfl rfl rfl rfl rfl ⟨rfl, rfl, rfl, rfl, rfl⟩ rfl rfl rfl rfl rfl (by kernel_rfl) Try.func7 (by kernel_rfl)
    (of_decide_eq_true (by kernel_rfl)) (by unfold Func.isWrapper; first | (rw [if_pos (by decide +kernel)]; kernel_rfl) | (rw [if_neg (by decide +kernel)]; exact ⟨rfl, rfl⟩))
    (fun os started H enc _ => lifted os started H enc)
/-- A nil disk, and one that was not made, does nothing, for every deed. -/
theorem proved : Rows.DiskNobodySaid := holds
#print axioms proved
end Go.Proofs.Ytdmfikedojgjbaa.diskNobodyP
