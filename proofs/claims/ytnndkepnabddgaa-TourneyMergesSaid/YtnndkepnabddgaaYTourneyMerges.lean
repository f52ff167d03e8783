/-
  Merge returns the specified cells or error for any lists of cells.
-/
import Derived.LaidMore
import Derived.Lay
import Derived.Lib.LaidTab
import Derived.OpenVars
import Derived.ProofKit
import Derived.SevenTiedAt
import Derived.Stop.Joined
import Derived.Test.YtnndkepnabddgaaRows
import Derived.WalkKit
import Derived.Test.YtnndkepnabddgaaZTourneyMerges6
namespace Go.Proofs.Ytnndkepnabddgaa.tourneyMergesP
open Go Go.ChangeShapes Go.WideShapes Go.ChangeAt Go.RowKit
set_option linter.unusedVariables false
set_option maxRecDepth 100000
theorem own : ownKnob Try.prog.godebug = none := by kernel_rfl
theorem laidOut : laidOutB Try.prog = true := by kernel_rfl
theorem c_44 : Try.prog.cellsOf 44 = Lay.size (Nm .u64) := by kernel_rfl
theorem op_44 : Opens Try.prog 44 (Nm .u64) := opens_int Try.underlying44
theorem c_2 : Try.prog.cellsOf 2 = Lay.size (Nm .i64) := by kernel_rfl
theorem op_2 : Opens Try.prog 2 (Nm .i64) := opens_int Try.underlying2
theorem c_96 : Try.prog.cellsOf 96 = Lay.size (Nm .u32) := by kernel_rfl
theorem op_96 : Opens Try.prog 96 (Nm .u32) := opens_int Try.underlying96
theorem c_67 : Try.prog.cellsOf 67 = Lay.size (List (Nm .u32)) := by kernel_rfl
theorem op_67 : Opens Try.prog 67 (List (Nm .u32)) := opens_slice Try.underlying67 op_96 c_96 (by decide)
theorem c_69 : Try.prog.cellsOf 69 = Lay.size ((Nm .i64) × (Nm .i64) × (List (Nm .u32)) × (Nm .i64) × (Nm .i64)) := by kernel_rfl
theorem op_69 : Opens Try.prog 69 ((Nm .i64) × (Nm .i64) × (List (Nm .u32)) × (Nm .i64) × (Nm .i64)) := opens_struct Try.underlying69 (opensF_cons rfl op_2 c_2 (opensF_cons rfl op_2 c_2 (opensF_cons rfl op_67 c_67 (opensF_cons rfl op_2 c_2 (opensF_one rfl op_2 c_2) rfl) rfl) rfl) rfl) c_69
theorem c_45 : Try.prog.cellsOf 45 = Lay.size (List ((Nm .i64) × (Nm .i64) × (List (Nm .u32)) × (Nm .i64) × (Nm .i64))) := by kernel_rfl
theorem op_45 : Opens Try.prog 45 (List ((Nm .i64) × (Nm .i64) × (List (Nm .u32)) × (Nm .i64) × (Nm .i64))) := opens_slice Try.underlying45 op_69 c_69 (by decide)
theorem c_5 : Try.prog.cellsOf 5 = Lay.size (Nm .u8) := by kernel_rfl
theorem op_5 : Opens Try.prog 5 (Nm .u8) := opens_int Try.underlying5
theorem c_37 : Try.prog.cellsOf 37 = Lay.size (List (Nm .u8)) := by kernel_rfl
theorem op_37 : Opens Try.prog 37 (List (Nm .u8)) := opens_slice Try.underlying37 op_5 c_5 (by decide)
theorem c_70 : Try.prog.cellsOf 70 = Lay.size (Fl) := by kernel_rfl
theorem op_70 : Opens Try.prog 70 (Fl) := opens_float Try.underlying70
theorem c_72 : Try.prog.cellsOf 72 = Lay.size ((List (Nm .u8)) × (Fl) × (Fl)) := by kernel_rfl
theorem op_72 : Opens Try.prog 72 ((List (Nm .u8)) × (Fl) × (Fl)) := opens_struct Try.underlying72 (opensF_cons rfl op_37 c_37 (opensF_cons rfl op_70 c_70 (opensF_one rfl op_70 c_70) rfl) rfl) c_72
theorem c_46 : Try.prog.cellsOf 46 = Lay.size (List ((List (Nm .u8)) × (Fl) × (Fl))) := by kernel_rfl
theorem op_46 : Opens Try.prog 46 (List ((List (Nm .u8)) × (Fl) × (Fl))) := opens_slice Try.underlying46 op_72 c_72 (by decide)
theorem c_48 : Try.prog.cellsOf 48 = Lay.size ((Nm .u64) × (Nm .i64) × (List ((Nm .i64) × (Nm .i64) × (List (Nm .u32)) × (Nm .i64) × (Nm .i64))) × (List ((List (Nm .u8)) × (Fl) × (Fl)))) := by kernel_rfl
theorem op_48 : Opens Try.prog 48 ((Nm .u64) × (Nm .i64) × (List ((Nm .i64) × (Nm .i64) × (List (Nm .u32)) × (Nm .i64) × (Nm .i64))) × (List ((List (Nm .u8)) × (Fl) × (Fl)))) := opens_struct Try.underlying48 (opensF_cons rfl op_44 c_44 (opensF_cons rfl op_2 c_2 (opensF_cons rfl op_45 c_45 (opensF_one rfl op_46 c_46) rfl) rfl) rfl) c_48
theorem c_25 : Try.prog.cellsOf 25 = Lay.size (List ((Nm .u64) × (Nm .i64) × (List ((Nm .i64) × (Nm .i64) × (List (Nm .u32)) × (Nm .i64) × (Nm .i64))) × (List ((List (Nm .u8)) × (Fl) × (Fl))))) := by kernel_rfl
theorem op_25 : Opens Try.prog 25 (List ((Nm .u64) × (Nm .i64) × (List ((Nm .i64) × (Nm .i64) × (List (Nm .u32)) × (Nm .i64) × (Nm .i64))) × (List ((List (Nm .u8)) × (Fl) × (Fl))))) := opens_slice Try.underlying25 op_48 c_48 (by decide)
theorem c_22 : Try.prog.cellsOf 22 = Lay.size (List (List ((Nm .u64) × (Nm .i64) × (List ((Nm .i64) × (Nm .i64) × (List (Nm .u32)) × (Nm .i64) × (Nm .i64))) × (List ((List (Nm .u8)) × (Fl) × (Fl)))))) := by kernel_rfl
theorem op_22 : Opens Try.prog 22 (List (List ((Nm .u64) × (Nm .i64) × (List ((Nm .i64) × (Nm .i64) × (List (Nm .u32)) × (Nm .i64) × (Nm .i64))) × (List ((List (Nm .u8)) × (Fl) × (Fl)))))) := opens_slice Try.underlying22 op_25 c_25 (by decide)
theorem lifted (os : Os) (started : os.Started) (H : Type) (enc : TypeId × Value → H) :
    ReturnsInHanded {} Try.checked os 3 .any (Rows.tourneyMergesSpec.pre6 enc Try.prog Try.f3 Rows.tourneyMergesRow.domain false) (Rows.tourneyMergesSpec.post enc Try.prog Try.f3 false true false false) := by
  refine returnsInHanded_of_change (C := Try.checked) own started (by kernel_rfl) Try.func3
    (ChangeSpec.witness6 (enc := enc) (C := Try.checked) false ⟨#[], #[.slice none 0 0], []⟩ 8 (by kernel_rfl) (by kernel_rfl) (by kernel_rfl) (by kernel_rfl)) ?_
  intro W base args ds gs before hval0 hW hcnd _
  have hval : ∀ (j : Nat) t v, Try.f3.params[j]? = some t → args[j]? = some v → Value.okWide Try.prog W .any base t v := hval0
  have hW' := hW
  obtain ⟨p, q, hAT, hV, rfl, hfz, hnd⟩ := hW
  have hA : DataW.TrodAll enc Try.prog W 0 (fun _ => true) true Try.f3.params.toList args.toList ds p := hAT
  rw [Try.params3] at hA hval
  obtain ⟨v0, vs0, d0, ds0, p0, q0, hargs, rfl, rfl, h0, r0⟩ := trodAll_cons hA
  obtain ⟨rfl, rfl, rfl⟩ := trodAll_nil r0
  obtain rfl : args = #[v0] := by cases args; simp_all
  obtain ⟨rfl, rfl⟩ := trodVars_none hV
  have hlt : ∀ x ∈ p0, x.block < W.heap.size := fun x hx => hW'.lt x (by simpa using hx)
  have hb0 : ∀ x ∈ p0, x.block < W.heap.size := fun x hx => hlt x (by simp [hx])
  have hk0 : DataW.Trod enc Try.prog W 0 (fun _ => true) true 22 v0 d0 p0 := h0
  obtain ⟨A0, n0, c0, xs0, rfl, hn0, hc0, hA0, hl0⟩ := arg_slice op_22 Try.underlying22 (hval 0 22 v0 rfl rfl) h0 hb0
  clear hAT hval0 hlt
  refine (law_TourneyMerges W A0 n0 c0 xs0 hn0 hc0 hA0 hl0).mono fun e W' ⟨he, hb⟩ => ?_
  subst he
  exact ⟨_, rfl, _, _, _, [], p0 ++ [], [], hW', trodAll_mk1 (shut_bool Try.underlying4 _), trodAll_cons_mk (Below.trod laidOut (by kernel_rfl) (of_decide_eq_true (by kernel_rfl)) hk0 hb hb0) (trodAll_mk0), rfl, hb.frame _, fun h => by cases h⟩
theorem kMapsRowed : (mapsRowed Try.prog) = true := by kernel_rfl
theorem kStops : (Try.prog.stops == []) = true := by kernel_rfl
theorem kKnobs : (Try.prog.stopKnobs == []) = true := by kernel_rfl
theorem kInPlace : (Rows.tourneyMergesRow.inPlace == Try.prog.inPlace 3) = true := by kernel_rfl
theorem kUnfollowed : (Rows.tourneyMergesRow.unfollowed == Try.prog.unfollowed 3) = true := by kernel_rfl
theorem kRecurses : (Rows.tourneyMergesRow.recurses == Try.prog.recurses 3) = true := by kernel_rfl
theorem kNamed : (Rows.tourneyMergesRow.named == Try.prog.varsNamed 3) = true := by kernel_rfl
theorem kPlainKeys : (Rows.tourneyMergesRow.plainKeys == Try.prog.plainKeys) = true := by kernel_rfl
theorem kHeard : (Try.prog.stopsHeard) = true := by kernel_rfl
theorem kEnter : (Try.prog.mayEnter) = true := by kernel_rfl
theorem kLifted : (Rows.tourneyMergesRow.lifted == Try.prog.liftsFinal) = true := by kernel_rfl
theorem facts : joinedFacts Try.prog 3 Try.f3 Rows.tourneyMergesSpec Rows.tourneyMergesRow = true := by
  unfold joinedFacts
  rw [laidOut, kMapsRowed, kStops, kKnobs, kInPlace, kUnfollowed, kRecurses, kNamed, kPlainKeys, kHeard, kEnter, kLifted]
  kernel_rfl
theorem holds : Rows.tourneyMergesRow.holds Try.pinned (OpenSpec.ofChange Rows.tourneyMergesSpec) :=
  OpenClaim.holds_of_wide 3 Try.f3 rfl rfl rfl rfl rfl rfl rfl ⟨rfl, rfl, rfl, rfl, rfl⟩ rfl rfl rfl rfl rfl (by kernel_rfl) Try.func3 facts
    (of_decide_eq_true (by kernel_rfl)) (by unfold Func.isWrapper; first | (rw [if_pos (by decide +kernel)]; kernel_rfl) | (rw [if_neg (by decide +kernel)]; exact ⟨rfl, rfl⟩))
    (fun os started H enc _ => lifted os started H enc)
theorem proved : Rows.TourneyMergesSaid := holds
#print axioms proved
end Go.Proofs.Ytnndkepnabddgaa.tourneyMergesP
