/-
  What was flushed and not written since survives every crash, and every other sector has its persistent state or what some pending write wrote: for all deeds and every crash.
-/
import Derived.Test.YtdmfikedojgjbaaRows
import Derived.Test.YtdmfikedojgjbaaOpen
import Derived.Test.YtdmfikedojgjbaaLDiskKeeps
import Derived.WalkKit
import Derived.ProofKit
import Derived.Lay
import Derived.LaidMore
import Derived.Lib.LaidTab
import Derived.SevenTiedAt
import Derived.OpenVars
import Derived.Stop.Joined
namespace Go.Proofs.Ytdmfikedojgjbaa.diskKeepsP
open Go Go.ChangeShapes Go.WideShapes Go.ChangeAt Go.RowKit
set_option linter.unusedVariables false
set_option maxRecDepth 100000
theorem own : ownKnob Try.prog.godebug = none := by kernel_rfl
theorem laidOut : laidOutB Try.prog = true := by kernel_rfl
theorem c_3 : Try.prog.cellsOf 3 = Lay.size (Nm .i64) := by kernel_rfl
theorem op_3 : Opens Try.prog 3 (Nm .i64) := opens_int Try.underlying3
theorem c_5 : Try.prog.cellsOf 5 = Lay.size (Nm .u8) := by kernel_rfl
theorem op_5 : Opens Try.prog 5 (Nm .u8) := opens_int Try.underlying5
theorem c_30 : Try.prog.cellsOf 30 = Lay.size (List (Nm .u8)) := by kernel_rfl
theorem op_30 : Opens Try.prog 30 (List (Nm .u8)) := opens_slice Try.underlying30 op_5 c_5 (by decide)
theorem c_4 : Try.prog.cellsOf 4 = Lay.size (Bool) := by kernel_rfl
theorem op_4 : Opens Try.prog 4 (Bool) := opens_bool Try.underlying4
theorem c_23 : Try.prog.cellsOf 23 = Lay.size (List (Bool)) := by kernel_rfl
theorem op_23 : Opens Try.prog 23 (List (Bool)) := opens_slice Try.underlying23 op_4 c_4 (by decide)
theorem c_34 : Try.prog.cellsOf 34 = Lay.size ((Nm .i64) × (Nm .i64) × (List (Nm .u8)) × (Bool) × (List (Bool))) := by kernel_rfl
theorem op_34 : Opens Try.prog 34 ((Nm .i64) × (Nm .i64) × (List (Nm .u8)) × (Bool) × (List (Bool))) := opens_struct Try.underlying34 (opensF_cons rfl op_3 c_3 (opensF_cons rfl op_3 c_3 (opensF_cons rfl op_30 c_30 (opensF_cons rfl op_4 c_4 (opensF_one rfl op_23 c_23) rfl) rfl) rfl) rfl) c_34
theorem c_22 : Try.prog.cellsOf 22 = Lay.size (List ((Nm .i64) × (Nm .i64) × (List (Nm .u8)) × (Bool) × (List (Bool)))) := by kernel_rfl
theorem op_22 : Opens Try.prog 22 (List ((Nm .i64) × (Nm .i64) × (List (Nm .u8)) × (Bool) × (List (Bool)))) := opens_slice Try.underlying22 op_34 c_34 (by decide)
theorem lifted (os : Os) (started : os.Started) (H : Type) (enc : TypeId × Value → H) :
    ReturnsInHanded {} Try.checked os 3 .any (Rows.diskKeepsSpec.pre6 enc Try.prog Try.f3 Rows.diskKeepsRow.domain false) (Rows.diskKeepsSpec.post enc Try.prog Try.f3 false true false false) := by
  refine returnsInHanded_of_change (C := Try.checked) own started (by kernel_rfl) Try.func3
    (ChangeSpec.witness6 (enc := enc) (C := Try.checked) false ⟨#[], #[.slice none 0 0, .slice none 0 0, .slice none 0 0], []⟩ 8 (by kernel_rfl) (by kernel_rfl) (by kernel_rfl) (by kernel_rfl)) ?_
  intro W base args ds gs before hval0 hW hcnd _
  have hval : ∀ (j : Nat) t v, Try.f3.params[j]? = some t → args[j]? = some v → Value.okWide Try.prog W .any base t v := hval0
  have hW' := hW
  obtain ⟨p, q, hA0, hV, rfl, hfz, hnd⟩ := hW
  have hA : DataW.TrodAll enc Try.prog W 0 (fun _ => true) true Try.f3.params.toList args.toList ds p := hA0
  rw [Try.params3] at hA hval
  obtain ⟨v0, vs0, d0, ds0, p0, q0, hargs, rfl, rfl, h0, r0⟩ := trodAll_cons hA
  obtain ⟨v1, vs1, d1, ds1, p1, q1, rfl, rfl, rfl, h1, r1⟩ := trodAll_cons r0
  obtain ⟨v2, vs2, d2, ds2, p2, q2, rfl, rfl, rfl, h2, r2⟩ := trodAll_cons r1
  obtain ⟨rfl, rfl, rfl⟩ := trodAll_nil r2
  obtain rfl : args = #[v0, v1, v2] := by cases args; simp_all
  obtain ⟨rfl, rfl⟩ := trodVars_none hV
  have hlt : ∀ x ∈ p0 ++ p1 ++ p2, x.block < W.heap.size := fun x hx => hW'.lt x (by simpa using hx)
  have hb0 : ∀ x ∈ p0, x.block < W.heap.size := fun x hx => hlt x (by simp [hx])
  have hk0 : DataW.Trod enc Try.prog W 0 (fun _ => true) true 22 v0 d0 p0 := h0
  have hb1 : ∀ x ∈ p1, x.block < W.heap.size := fun x hx => hlt x (by simp [hx])
  have hk1 : DataW.Trod enc Try.prog W 0 (fun _ => true) true 22 v1 d1 p1 := h1
  have hb2 : ∀ x ∈ p2, x.block < W.heap.size := fun x hx => hlt x (by simp [hx])
  have hk2 : DataW.Trod enc Try.prog W 0 (fun _ => true) true 23 v2 d2 p2 := h2
  obtain ⟨A0, n0, c0, xs0, rfl, hn0, hc0, hA0, hl0⟩ := arg_slice op_22 Try.underlying22 (hval 0 22 v0 rfl rfl) h0 hb0
  obtain ⟨A1, n1, c1, xs1, rfl, hn1, hc1, hA1, hl1⟩ := arg_slice op_22 Try.underlying22 (hval 1 22 v1 rfl rfl) h1 hb1
  obtain ⟨A2, n2, c2, xs2, rfl, hn2, hc2, hA2, hl2⟩ := arg_slice op_23 Try.underlying23 (hval 2 23 v2 rfl rfl) h2 hb2
  clear hA0 hval0 hlt
  refine (law_DiskKeeps W A0 n0 c0 xs0 hn0 hc0 hA0 hl0 A1 n1 c1 xs1 hn1 hc1 hA1 hl1 A2 n2 c2 xs2 hn2 hc2 hA2 hl2).mono fun e W' ⟨he, hb⟩ => ?_
  subst he
  exact ⟨_, rfl, _, _, _, [], p0 ++ (p1 ++ (p2 ++ [])), [], hW', trodAll_mk1 (shut_bool Try.underlying4 _), trodAll_cons_mk (Below.trod laidOut (by kernel_rfl) (of_decide_eq_true (by kernel_rfl)) hk0 hb hb0) (trodAll_cons_mk (Below.trod laidOut (by kernel_rfl) (of_decide_eq_true (by kernel_rfl)) hk1 hb hb1) (trodAll_cons_mk (Below.trod laidOut (by kernel_rfl) (of_decide_eq_true (by kernel_rfl)) hk2 hb hb2) (trodAll_mk0))), rfl, hb.frame _, fun h => by cases h⟩
theorem holds : Rows.diskKeepsRow.holds Try.pinned (OpenSpec.ofChange Rows.diskKeepsSpec) :=
  OpenClaim.holds_of_wide 3 Try.f3 rfl rfl rfl rfl rfl rfl rfl ⟨rfl, rfl, rfl, rfl, rfl⟩ rfl rfl rfl rfl rfl (by kernel_rfl) Try.func3 (by kernel_rfl)
    (of_decide_eq_true (by kernel_rfl)) (by unfold Func.isWrapper; first | (rw [if_pos (by decide +kernel)]; kernel_rfl) | (rw [if_neg (by decide +kernel)]; exact ⟨rfl, rfl⟩))
    (fun os started H enc _ => lifted os started H enc)
/-- What was flushed and not written since survives every crash, and every other sector has its persistent state or what some pending write wrote: for all deeds and every crash. -/
theorem proved : Rows.DiskKeepsSaid := holds
#print axioms proved
end Go.Proofs.Ytdmfikedojgjbaa.diskKeepsP
