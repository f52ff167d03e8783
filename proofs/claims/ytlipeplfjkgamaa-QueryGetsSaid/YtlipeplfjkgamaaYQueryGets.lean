/-
  Get returns the specified query or error for any bytes, and Put inverts it.
-/
import Derived.LaidMore
import Derived.Lay
import Derived.Lib.LaidTab
import Derived.OpenVars
import Derived.ProofKit
import Derived.SevenTiedAt
import Derived.Stop.Joined
import Derived.Test.YtlipeplfjkgamaaRows
import Derived.WalkKit
import Derived.Test.YtlipeplfjkgamaaZQueryGets6
namespace Go.Proofs.Ytlipeplfjkgamaa.queryGetsP
open Go Go.ChangeShapes Go.WideShapes Go.ChangeAt Go.RowKit
set_option linter.unusedVariables false
set_option maxRecDepth 100000
theorem own : ownKnob Try.prog.godebug = none := by kernel_rfl
theorem laidOut : laidOutB Try.prog = true := by kernel_rfl
theorem c_9 : Try.prog.cellsOf 9 = Lay.size (Str) := by kernel_rfl
theorem op_9 : Opens Try.prog 9 (Str) := opens_string Try.underlying9
theorem c_3 : Try.prog.cellsOf 3 = Lay.size (Nm .i64) := by kernel_rfl
theorem op_3 : Opens Try.prog 3 (Nm .i64) := opens_int Try.underlying3
theorem c_128 : Try.prog.cellsOf 128 = Lay.size ((Str) × (Nm .i64)) := by kernel_rfl
theorem op_128 : Opens Try.prog 128 ((Str) × (Nm .i64)) := opens_struct Try.underlying128 (opensF_cons rfl op_9 c_9 (opensF_one rfl op_3 c_3) rfl) c_128
theorem c_45 : Try.prog.cellsOf 45 = Lay.size (List ((Str) × (Nm .i64))) := by kernel_rfl
theorem op_45 : Opens Try.prog 45 (List ((Str) × (Nm .i64))) := opens_slice Try.underlying45 op_128 c_128 (by decide)
theorem c_46 : Try.prog.cellsOf 46 = Lay.size (List (Str)) := by kernel_rfl
theorem op_46 : Opens Try.prog 46 (List (Str)) := opens_slice Try.underlying46 op_9 c_9 (by decide)
theorem c_50 : Try.prog.cellsOf 50 = Lay.size (Nm .u32) := by kernel_rfl
theorem op_50 : Opens Try.prog 50 (Nm .u32) := opens_int Try.underlying50
theorem c_47 : Try.prog.cellsOf 47 = Lay.size (List (Nm .u32)) := by kernel_rfl
theorem op_47 : Opens Try.prog 47 (List (Nm .u32)) := opens_slice Try.underlying47 op_50 c_50 (by decide)
theorem c_49 : Try.prog.cellsOf 49 = Lay.size ((List ((Str) × (Nm .i64))) × (List (Str)) × (List (Str)) × (List (Nm .u32))) := by kernel_rfl
theorem op_49 : Opens Try.prog 49 ((List ((Str) × (Nm .i64))) × (List (Str)) × (List (Str)) × (List (Nm .u32))) := opens_struct Try.underlying49 (opensF_cons rfl op_45 c_45 (opensF_cons rfl op_46 c_46 (opensF_cons rfl op_46 c_46 (opensF_one rfl op_47 c_47) rfl) rfl) rfl) c_49
theorem c_5 : Try.prog.cellsOf 5 = Lay.size (Nm .u8) := by kernel_rfl
theorem op_5 : Opens Try.prog 5 (Nm .u8) := opens_int Try.underlying5
theorem c_30 : Try.prog.cellsOf 30 = Lay.size (List (Nm .u8)) := by kernel_rfl
theorem op_30 : Opens Try.prog 30 (List (Nm .u8)) := opens_slice Try.underlying30 op_5 c_5 (by decide)
theorem lifted (os : Os) (started : os.Started) (H : Type) (enc : TypeId × Value → H) :
    ReturnsInHanded {} Try.checked os 8 .any (Rows.queryGetsSpec.pre6 enc Try.prog Try.f8 Rows.queryGetsRow.domain false) (Rows.queryGetsSpec.post enc Try.prog Try.f8 false true false false) := by
  refine returnsInHanded_of_change (C := Try.checked) own started (by kernel_rfl) Try.func8
    (ChangeSpec.witness6 (enc := enc) (C := Try.checked) false ⟨#[], #[.agg #[.slice none 0 0, .slice none 0 0, .slice none 0 0, .slice none 0 0], .slice none 0 0], []⟩ 8 (by kernel_rfl) (by kernel_rfl) (by kernel_rfl) (by kernel_rfl)) ?_
  intro W base args ds gs before hval0 hW hcnd _
  have hval : ∀ (j : Nat) t v, Try.f8.params[j]? = some t → args[j]? = some v → Value.okWide Try.prog W .any base t v := hval0
  have hW' := hW
  obtain ⟨p, q, hAT, hV, rfl, hfz, hnd⟩ := hW
  have hA : DataW.TrodAll enc Try.prog W 0 (fun _ => true) true Try.f8.params.toList args.toList ds p := hAT
  rw [Try.params8] at hA hval
  obtain ⟨v0, vs0, d0, ds0, p0, q0, hargs, rfl, rfl, h0, r0⟩ := trodAll_cons hA
  obtain ⟨v1, vs1, d1, ds1, p1, q1, rfl, rfl, rfl, h1, r1⟩ := trodAll_cons r0
  obtain ⟨rfl, rfl, rfl⟩ := trodAll_nil r1
  obtain rfl : args = #[v0, v1] := by cases args; simp_all
  obtain ⟨rfl, rfl⟩ := trodVars_none hV
  have hlt : ∀ x ∈ p0 ++ p1, x.block < W.heap.size := fun x hx => hW'.lt x (by simpa using hx)
  have hb0 : ∀ x ∈ p0, x.block < W.heap.size := fun x hx => hlt x (by simp [hx])
  have hk0 : DataW.Trod enc Try.prog W 0 (fun _ => true) true 49 v0 d0 p0 := h0
  have hb1 : ∀ x ∈ p1, x.block < W.heap.size := fun x hx => hlt x (by simp [hx])
  have hk1 : DataW.Trod enc Try.prog W 0 (fun _ => true) true 30 v1 d1 p1 := h1
  obtain ⟨vs0', a0, rfl, hl0⟩ := arg_struct op_49 Try.underlying49 (hval 0 49 v0 rfl rfl) h0 hb0
  obtain ⟨A1, n1, c1, xs1, rfl, hn1, hc1, hA1, hl1⟩ := arg_slice op_30 Try.underlying30 (hval 1 30 v1 rfl rfl) h1 hb1
  clear hAT hval0 hlt
  refine (law_QueryGets W vs0' a0 hl0 A1 n1 c1 xs1 hn1 hc1 hA1 hl1).mono fun e W' ⟨he, hb⟩ => ?_
  subst he
  exact ⟨_, rfl, _, _, _, [], p0 ++ (p1 ++ []), [], hW', trodAll_mk1 (shut_bool Try.underlying4 _), trodAll_cons_mk (Below.trod laidOut (by kernel_rfl) (of_decide_eq_true (by kernel_rfl)) hk0 hb hb0) (trodAll_cons_mk (Below.trod laidOut (by kernel_rfl) (of_decide_eq_true (by kernel_rfl)) hk1 hb hb1) (trodAll_mk0)), rfl, hb.frame _, fun h => by cases h⟩
theorem kMapsRowed : (mapsRowed Try.prog) = true := by kernel_rfl
theorem kStops : (Try.prog.stops == []) = true := by kernel_rfl
theorem kKnobs : (Try.prog.stopKnobs == []) = true := by kernel_rfl
theorem kInPlace : (Rows.queryGetsRow.inPlace == Try.prog.inPlace 8) = true := by kernel_rfl
theorem kUnfollowed : (Rows.queryGetsRow.unfollowed == Try.prog.unfollowed 8) = true := by kernel_rfl
theorem kRecurses : (Rows.queryGetsRow.recurses == Try.prog.recurses 8) = true := by kernel_rfl
theorem kNamed : (Rows.queryGetsRow.named == Try.prog.varsNamed 8) = true := by kernel_rfl
theorem kPlainKeys : (Rows.queryGetsRow.plainKeys == Try.prog.plainKeys) = true := by kernel_rfl
theorem kHeard : (Try.prog.stopsHeard) = true := by kernel_rfl
theorem kEnter : (Try.prog.mayEnter) = true := by kernel_rfl
theorem kLifted : (Rows.queryGetsRow.lifted == Try.prog.liftsFinal) = true := by kernel_rfl
theorem facts : joinedFacts Try.prog 8 Try.f8 Rows.queryGetsSpec Rows.queryGetsRow = true := by
  unfold joinedFacts
  rw [laidOut, kMapsRowed, kStops, kKnobs, kInPlace, kUnfollowed, kRecurses, kNamed, kPlainKeys, kHeard, kEnter, kLifted]
  kernel_rfl
theorem holds : Rows.queryGetsRow.holds Try.pinned (OpenSpec.ofChange Rows.queryGetsSpec) :=
  OpenClaim.holds_of_wide 8 Try.f8 rfl rfl rfl rfl rfl rfl rfl ⟨rfl, rfl, rfl, rfl, rfl⟩ rfl rfl rfl rfl rfl (by kernel_rfl) Try.func8 facts
    (of_decide_eq_true (by kernel_rfl)) (by unfold Func.isWrapper; first | (rw [if_pos (by decide +kernel)]; kernel_rfl) | (rw [if_neg (by decide +kernel)]; exact ⟨rfl, rfl⟩))
    (fun os started H enc _ => lifted os started H enc)
theorem proved : Rows.QueryGetsSaid := holds
#print axioms proved
end Go.Proofs.Ytlipeplfjkgamaa.queryGetsP
