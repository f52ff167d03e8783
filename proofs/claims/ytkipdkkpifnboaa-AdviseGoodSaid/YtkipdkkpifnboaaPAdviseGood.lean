/-
  Choose of package advise gains, of two views, at least three quarters of what any two gain, and of three at least nineteen parts of twenty-seven of what any three gain.
-/
import Derived.Test.YtkipdkkpifnboaaRows
import Derived.Test.YtkipdkkpifnboaaOpen
import Derived.Test.YtkipdkkpifnboaaLAdviseGood
import Derived.WalkKit
import Derived.ProofKit
import Derived.Lay
import Derived.LaidMore
import Derived.Lib.LaidTab
import Derived.SevenTiedAt
import Derived.OpenVars
import Derived.Stop.Joined
namespace Go.Proofs.Ytkipdkkpifnboaa.adviseGoodP
open Go Go.ChangeShapes Go.WideShapes Go.ChangeAt Go.RowKit
set_option linter.unusedVariables false
theorem own : ownKnob Try.prog.godebug = none := by kernel_rfl
theorem laidOut : laidOutB Try.prog = true := by kernel_rfl
theorem c_3 : Try.prog.cellsOf 3 = Lay.size (Nm .i64) := by kernel_rfl
theorem op_3 : Opens Try.prog 3 (Nm .i64) := opens_int Try.underlying3
theorem c_2 : Try.prog.cellsOf 2 = Lay.size (Nm .i64) := by kernel_rfl
theorem op_2 : Opens Try.prog 2 (Nm .i64) := opens_int Try.underlying2
theorem c_22 : Try.prog.cellsOf 22 = Lay.size (List (Nm .i64)) := by kernel_rfl
theorem op_22 : Opens Try.prog 22 (List (Nm .i64)) := opens_slice Try.underlying22 op_2 c_2 (by decide)
theorem c_29 : Try.prog.cellsOf 29 = Lay.size (Nm .u32) := by kernel_rfl
theorem op_29 : Opens Try.prog 29 (Nm .u32) := opens_int Try.underlying29
theorem c_37 : Try.prog.cellsOf 37 = Lay.size (Vec 3 (Nm .u32)) := by kernel_rfl
theorem op_37 : Opens Try.prog 37 (Vec 3 (Nm .u32)) := opens_array Try.underlying37 op_29 c_29 c_37
set_option maxRecDepth 100000 in
theorem lifted (os : Os) (started : os.Started) (H : Type) (enc : TypeId × Value → H) :
    ReturnsInHanded {} Try.checked os 5 .any (Rows.adviseGoodSpec.pre6 enc Try.prog Try.f5 Rows.adviseGoodRow.domain false) (Rows.adviseGoodSpec.post enc Try.prog Try.f5 false true false false) := by
  refine returnsInHanded_of_change (C := Try.checked) own started (by kernel_rfl) Try.func5
    (ChangeSpec.witness6 (enc := enc) (C := Try.checked) false ⟨#[], #[.int .i64 0, .slice none 0 0, .agg #[.int .u32 0, .int .u32 0, .int .u32 0]], []⟩ 8 (by kernel_rfl) (by kernel_rfl) (by kernel_rfl) (by kernel_rfl)) ?_
  intro W base args ds gs before hval0 hW hcnd _
  have hval : ∀ (j : Nat) t v, Try.f5.params[j]? = some t → args[j]? = some v → Value.okWide Try.prog W .any base t v := hval0
  have hW' := hW
  obtain ⟨p, q, hA0, hV, rfl, hfz, hnd⟩ := hW
  have hA : DataW.TrodAll enc Try.prog W 0 (fun _ => true) true Try.f5.params.toList args.toList ds p := hA0
  rw [Try.params5] at hA hval
  obtain ⟨v0, vs0, d0, ds0, p0, q0, hargs, rfl, rfl, h0, r0⟩ := trodAll_cons hA
  obtain ⟨v1, vs1, d1, ds1, p1, q1, rfl, rfl, rfl, h1, r1⟩ := trodAll_cons r0
  obtain ⟨v2, vs2, d2, ds2, p2, q2, rfl, rfl, rfl, h2, r2⟩ := trodAll_cons r1
  obtain ⟨rfl, rfl, rfl⟩ := trodAll_nil r2
  obtain rfl : args = #[v0, v1, v2] := by cases args; simp_all
  obtain ⟨rfl, rfl⟩ := trodVars_none hV
  have hlt : ∀ x ∈ p0 ++ p1 ++ p2, x.block < W.heap.size := fun x hx => hW'.lt x (by simpa using hx)
  have hb0 : ∀ x ∈ p0, x.block < W.heap.size := fun x hx => hlt x (by simp [hx])
  have hk0 : DataW.Trod enc Try.prog W 0 (fun _ => true) true 3 v0 d0 p0 := h0
  have hb1 : ∀ x ∈ p1, x.block < W.heap.size := fun x hx => hlt x (by simp [hx])
  have hk1 : DataW.Trod enc Try.prog W 0 (fun _ => true) true 22 v1 d1 p1 := h1
  have hb2 : ∀ x ∈ p2, x.block < W.heap.size := fun x hx => hlt x (by simp [hx])
  have hk2 : DataW.Trod enc Try.prog W 0 (fun _ => true) true 37 v2 d2 p2 := h2
  obtain ⟨x0, rfl, rfl, rfl, w0⟩ := open_int Try.underlying3 (hval 0 3 v0 rfl rfl) h0
  obtain ⟨A1, n1, c1, xs1, rfl, hn1, hc1, hA1, hl1⟩ := arg_slice op_22 Try.underlying22 (hval 1 22 v1 rfl rfl) h1 hb1
  obtain ⟨vs2', a2, rfl, hl2⟩ := arg_array op_37 Try.underlying37 (hval 2 37 v2 rfl rfl) h2 hb2
  clear hA0 hval0 hlt
  refine (law_AdviseGood W ⟨x0, w0⟩ A1 n1 c1 xs1 hn1 hc1 hA1 hl1 vs2' a2 hl2).mono fun e W' ⟨he, hb⟩ => ?_
  subst he
  exact ⟨_, rfl, _, _, _, [], [] ++ (p1 ++ (p2 ++ [])), [], hW', trodAll_mk1 (shut_bool Try.underlying4 _), trodAll_cons_mk (Below.trod laidOut (by kernel_rfl) (of_decide_eq_true (by kernel_rfl)) hk0 hb hb0) (trodAll_cons_mk (Below.trod laidOut (by kernel_rfl) (of_decide_eq_true (by kernel_rfl)) hk1 hb hb1) (trodAll_cons_mk (Below.trod laidOut (by kernel_rfl) (of_decide_eq_true (by kernel_rfl)) hk2 hb hb2) (trodAll_mk0))), rfl, hb.frame _, fun h => by cases h⟩
theorem holds : Rows.adviseGoodRow.holds Try.pinned (OpenSpec.ofChange Rows.adviseGoodSpec) :=
  OpenClaim.holds_of_wide 5 Try.f5 rfl rfl rfl rfl rfl rfl rfl ⟨rfl, rfl, rfl, rfl, rfl⟩ rfl rfl rfl rfl rfl (by kernel_rfl) Try.func5 (by kernel_rfl)
    (of_decide_eq_true (by kernel_rfl)) (by unfold Func.isWrapper; first | (rw [if_pos (by decide +kernel)]; kernel_rfl) | (rw [if_neg (by decide +kernel)]; exact ⟨rfl, rfl⟩))
    (fun os started H enc _ => lifted os started H enc)
/-- Choose of package advise gains, of two views, at least three quarters of what any two gain, and of three at least nineteen parts of twenty-seven of what any three gain. -/
theorem proved : Rows.AdviseGoodSaid := holds
#print axioms proved
end Go.Proofs.Ytkipdkkpifnboaa.adviseGoodP
