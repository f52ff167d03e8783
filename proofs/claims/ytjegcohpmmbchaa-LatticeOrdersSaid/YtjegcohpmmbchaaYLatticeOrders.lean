/-
  Order returns the specified order of any sets.
-/
import Derived.LaidMore
import Derived.Lay
import Derived.Lib.LaidTab
import Derived.OpenVars
import Derived.ProofKit
import Derived.SevenTiedAt
import Derived.Stop.Joined
import Derived.Test.YtjegcohpmmbchaaRows
import Derived.WalkKit
import Derived.Test.YtjegcohpmmbchaaZLatticeOrders3
namespace Go.Proofs.Ytjegcohpmmbchaa.latticeOrdersP
open Go Go.ChangeShapes Go.WideShapes Go.ChangeAt Go.RowKit
set_option linter.unusedVariables false
set_option maxRecDepth 100000
theorem own : ownKnob Try.prog.godebug = none := by kernel_rfl
theorem laidOut : laidOutB Try.prog = true := by kernel_rfl
theorem c_30 : Try.prog.cellsOf 30 = Lay.size (Nm .u32) := by kernel_rfl
theorem op_30 : Opens Try.prog 30 (Nm .u32) := opens_int Try.underlying30
theorem c_22 : Try.prog.cellsOf 22 = Lay.size (List (Nm .u32)) := by kernel_rfl
theorem op_22 : Opens Try.prog 22 (List (Nm .u32)) := opens_slice Try.underlying22 op_30 c_30 (by decide)
theorem lifted (os : Os) (started : os.Started) (H : Type) (enc : TypeId × Value → H) :
    ReturnsInHanded {} Try.checked os 3 .any (Rows.latticeOrdersSpec.pre6 enc Try.prog Try.f3 Rows.latticeOrdersRow.domain false) (Rows.latticeOrdersSpec.post enc Try.prog Try.f3 false true false false) := by
  refine returnsInHanded_of_change (C := Try.checked) own started (by kernel_rfl) Try.func3
    (ChangeSpec.witness6 (enc := enc) (C := Try.checked) false ⟨#[], #[.slice none 0 0], []⟩ 8 (by kernel_rfl) (by kernel_rfl) (by kernel_rfl) (by kernel_rfl)) ?_
  intro W base args ds gs before hval0 hW hcnd _
  have hval : ∀ (j : Nat) t v, Try.f3.params[j]? = some t → args[j]? = some v → Value.okWide Try.prog W .any base t v := hval0
  have hW' := hW
  obtain ⟨p, q, hAT, hV, rfl, hfz, hnd⟩ := hW
  have hA : DataW.TrodAll enc Try.prog W 0 (fun _ => true) true Try.f3.params.toList args.toList ds p := hAT
  rw [Try.params3] at hA hval
  obtain ⟨v0, vs0, d0, ds0, p0, q0, hargs, rfl, rfl, h0, r0⟩ := trodAll_cons hA
  obtain ⟨rfl, rfl, rfl⟩ := trodAll_nil r0
  obtain rfl : args = #[v0] := by cases args; simp_all
  obtain ⟨rfl, rfl⟩ := trodVars_none hV
  have hlt : ∀ x ∈ p0, x.block < W.heap.size := fun x hx => hW'.lt x (by simpa using hx)
  have hb0 : ∀ x ∈ p0, x.block < W.heap.size := fun x hx => hlt x (by simp [hx])
  have hk0 : DataW.Trod enc Try.prog W 0 (fun _ => true) true 22 v0 d0 p0 := h0
  obtain ⟨A0, n0, c0, xs0, rfl, hn0, hc0, hA0, hl0⟩ := arg_slice op_22 Try.underlying22 (hval 0 22 v0 rfl rfl) h0 hb0
  clear hAT hval0 hlt
  refine (law_LatticeOrders W A0 n0 c0 xs0 hn0 hc0 hA0 hl0).mono fun e W' ⟨he, hb⟩ => ?_
  subst he
  exact ⟨_, rfl, _, _, _, [], p0 ++ [], [], hW', trodAll_mk1 (shut_bool Try.underlying4 _), trodAll_cons_mk (Below.trod laidOut (by kernel_rfl) (of_decide_eq_true (by kernel_rfl)) hk0 hb hb0) (trodAll_mk0), rfl, hb.frame _, fun h => by cases h⟩
theorem kMapsRowed : (mapsRowed Try.prog) = true := by kernel_rfl
theorem kStops : (Try.prog.stops == []) = true := by kernel_rfl
theorem kKnobs : (Try.prog.stopKnobs == []) = true := by kernel_rfl
theorem kInPlace : (Rows.latticeOrdersRow.inPlace == Try.prog.inPlace 3) = true := by kernel_rfl
theorem kUnfollowed : (Rows.latticeOrdersRow.unfollowed == Try.prog.unfollowed 3) = true := by kernel_rfl
theorem kRecurses : (Rows.latticeOrdersRow.recurses == Try.prog.recurses 3) = true := by kernel_rfl
theorem kNamed : (Rows.latticeOrdersRow.named == Try.prog.varsNamed 3) = true := by kernel_rfl
theorem kPlainKeys : (Rows.latticeOrdersRow.plainKeys == Try.prog.plainKeys) = true := by kernel_rfl
theorem kHeard : (Try.prog.stopsHeard) = true := by kernel_rfl
theorem kEnter : (Try.prog.mayEnter) = true := by kernel_rfl
theorem kLifted : (Rows.latticeOrdersRow.lifted == Try.prog.liftsFinal) = true := by kernel_rfl
theorem facts : joinedFacts Try.prog 3 Try.f3 Rows.latticeOrdersSpec Rows.latticeOrdersRow = true := by
  unfold joinedFacts
  rw [laidOut, kMapsRowed, kStops, kKnobs, kInPlace, kUnfollowed, kRecurses, kNamed, kPlainKeys, kHeard, kEnter, kLifted]
  kernel_rfl
theorem holds : Rows.latticeOrdersRow.holds Try.pinned (OpenSpec.ofChange Rows.latticeOrdersSpec) :=
  OpenClaim.holds_of_wide 3 Try.f3 rfl rfl rfl rfl rfl rfl rfl ⟨rfl, rfl, rfl, rfl, rfl⟩ rfl rfl rfl rfl rfl (by kernel_rfl) Try.func3 facts
    (of_decide_eq_true (by kernel_rfl)) (by unfold Func.isWrapper; first | (rw [if_pos (by decide +kernel)]; kernel_rfl) | (rw [if_neg (by decide +kernel)]; exact ⟨rfl, rfl⟩))
    (fun os started H enc _ => lifted os started H enc)
theorem proved : Rows.LatticeOrdersSaid := holds
#print axioms proved
end Go.Proofs.Ytjegcohpmmbchaa.latticeOrdersP
