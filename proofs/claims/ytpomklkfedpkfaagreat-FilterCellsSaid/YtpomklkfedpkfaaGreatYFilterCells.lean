/-
  For any schema, any set, any list of cells and any filters, filter.Cells returns the specified cells or error.
-/
import Derived.LaidMore
import Derived.Lay
import Derived.Lib.LaidTab
import Derived.OpenVars
import Derived.ProofKit
import Derived.SevenTiedAt
import Derived.Stop.Joined
import Derived.Test.YtpomklkfedpkfaaGreatRows
import Derived.WalkKit
import Derived.Test.YtpomklkfedpkfaaGreatZFilterCells6
namespace Go.Proofs.YtpomklkfedpkfaaGreat.filterCellsP
open Go Go.ChangeShapes Go.WideShapes Go.ChangeAt Go.RowKit
set_option linter.unusedVariables false
set_option maxRecDepth 100000
theorem own : ownKnob Tryz.prog.godebug = none := by kernel_rfl
theorem laidOut : laidOutB Tryz.prog = true := by kernel_rfl
theorem c_9 : Tryz.prog.cellsOf 9 = Lay.size (Str) := by kernel_rfl
theorem op_9 : Opens Tryz.prog 9 (Str) := opens_string Tryz.underlying9
theorem c_3 : Tryz.prog.cellsOf 3 = Lay.size (Nm .i64) := by kernel_rfl
theorem op_3 : Opens Tryz.prog 3 (Nm .i64) := opens_int Tryz.underlying3
theorem c_54 : Tryz.prog.cellsOf 54 = Lay.size ((Str) × (Nm .i64)) := by kernel_rfl
theorem op_54 : Opens Tryz.prog 54 ((Str) × (Nm .i64)) := opens_struct Tryz.underlying54 (opensF_cons rfl op_9 c_9 (opensF_one rfl op_3 c_3) rfl) c_54
theorem c_22 : Tryz.prog.cellsOf 22 = Lay.size (List ((Str) × (Nm .i64))) := by kernel_rfl
theorem op_22 : Opens Tryz.prog 22 (List ((Str) × (Nm .i64))) := opens_slice Tryz.underlying22 op_54 c_54 (by decide)
theorem c_23 : Tryz.prog.cellsOf 23 = Lay.size (List (Str)) := by kernel_rfl
theorem op_23 : Opens Tryz.prog 23 (List (Str)) := opens_slice Tryz.underlying23 op_9 c_9 (by decide)
theorem c_27 : Tryz.prog.cellsOf 27 = Lay.size (Nm .u32) := by kernel_rfl
theorem op_27 : Opens Tryz.prog 27 (Nm .u32) := opens_int Tryz.underlying27
theorem c_24 : Tryz.prog.cellsOf 24 = Lay.size (List (Nm .u32)) := by kernel_rfl
theorem op_24 : Opens Tryz.prog 24 (List (Nm .u32)) := opens_slice Tryz.underlying24 op_27 c_27 (by decide)
theorem c_26 : Tryz.prog.cellsOf 26 = Lay.size ((List ((Str) × (Nm .i64))) × (List (Str)) × (List (Str)) × (List (Nm .u32))) := by kernel_rfl
theorem op_26 : Opens Tryz.prog 26 ((List ((Str) × (Nm .i64))) × (List (Str)) × (List (Str)) × (List (Nm .u32))) := opens_struct Tryz.underlying26 (opensF_cons rfl op_22 c_22 (opensF_cons rfl op_23 c_23 (opensF_cons rfl op_23 c_23 (opensF_one rfl op_24 c_24) rfl) rfl) rfl) c_26
theorem c_44 : Tryz.prog.cellsOf 44 = Lay.size (List (Nm .i64)) := by kernel_rfl
theorem op_44 : Opens Tryz.prog 44 (List (Nm .i64)) := opens_slice Tryz.underlying44 op_3 c_3 (by decide)
theorem c_46 : Tryz.prog.cellsOf 46 = Lay.size ((Nm .i64) × (List (Nm .i64))) := by kernel_rfl
theorem op_46 : Opens Tryz.prog 46 ((Nm .i64) × (List (Nm .i64))) := opens_struct Tryz.underlying46 (opensF_cons rfl op_3 c_3 (opensF_one rfl op_44 c_44) rfl) c_46
theorem c_28 : Tryz.prog.cellsOf 28 = Lay.size (List ((Nm .i64) × (List (Nm .i64)))) := by kernel_rfl
theorem op_28 : Opens Tryz.prog 28 (List ((Nm .i64) × (List (Nm .i64)))) := opens_slice Tryz.underlying28 op_46 c_46 (by decide)
theorem c_48 : Tryz.prog.cellsOf 48 = Lay.size (Nm .u64) := by kernel_rfl
theorem op_48 : Opens Tryz.prog 48 (Nm .u64) := opens_int Tryz.underlying48
theorem c_2 : Tryz.prog.cellsOf 2 = Lay.size (Nm .i64) := by kernel_rfl
theorem op_2 : Opens Tryz.prog 2 (Nm .i64) := opens_int Tryz.underlying2
theorem c_70 : Tryz.prog.cellsOf 70 = Lay.size ((Nm .i64) × (Nm .i64) × (List (Nm .u32)) × (Nm .i64) × (Nm .i64)) := by kernel_rfl
theorem op_70 : Opens Tryz.prog 70 ((Nm .i64) × (Nm .i64) × (List (Nm .u32)) × (Nm .i64) × (Nm .i64)) := opens_struct Tryz.underlying70 (opensF_cons rfl op_2 c_2 (opensF_cons rfl op_2 c_2 (opensF_cons rfl op_24 c_24 (opensF_cons rfl op_2 c_2 (opensF_one rfl op_2 c_2) rfl) rfl) rfl) rfl) c_70
theorem c_49 : Tryz.prog.cellsOf 49 = Lay.size (List ((Nm .i64) × (Nm .i64) × (List (Nm .u32)) × (Nm .i64) × (Nm .i64))) := by kernel_rfl
theorem op_49 : Opens Tryz.prog 49 (List ((Nm .i64) × (Nm .i64) × (List (Nm .u32)) × (Nm .i64) × (Nm .i64))) := opens_slice Tryz.underlying49 op_70 c_70 (by decide)
theorem c_5 : Tryz.prog.cellsOf 5 = Lay.size (Nm .u8) := by kernel_rfl
theorem op_5 : Opens Tryz.prog 5 (Nm .u8) := opens_int Tryz.underlying5
theorem c_71 : Tryz.prog.cellsOf 71 = Lay.size (List (Nm .u8)) := by kernel_rfl
theorem op_71 : Opens Tryz.prog 71 (List (Nm .u8)) := opens_slice Tryz.underlying71 op_5 c_5 (by decide)
theorem c_72 : Tryz.prog.cellsOf 72 = Lay.size (Fl) := by kernel_rfl
theorem op_72 : Opens Tryz.prog 72 (Fl) := opens_float Tryz.underlying72
theorem c_74 : Tryz.prog.cellsOf 74 = Lay.size ((List (Nm .u8)) × (Fl) × (Fl)) := by kernel_rfl
theorem op_74 : Opens Tryz.prog 74 ((List (Nm .u8)) × (Fl) × (Fl)) := opens_struct Tryz.underlying74 (opensF_cons rfl op_71 c_71 (opensF_cons rfl op_72 c_72 (opensF_one rfl op_72 c_72) rfl) rfl) c_74
theorem c_50 : Tryz.prog.cellsOf 50 = Lay.size (List ((List (Nm .u8)) × (Fl) × (Fl))) := by kernel_rfl
theorem op_50 : Opens Tryz.prog 50 (List ((List (Nm .u8)) × (Fl) × (Fl))) := opens_slice Tryz.underlying50 op_74 c_74 (by decide)
theorem c_52 : Tryz.prog.cellsOf 52 = Lay.size ((Nm .u64) × (Nm .i64) × (List ((Nm .i64) × (Nm .i64) × (List (Nm .u32)) × (Nm .i64) × (Nm .i64))) × (List ((List (Nm .u8)) × (Fl) × (Fl)))) := by kernel_rfl
theorem op_52 : Opens Tryz.prog 52 ((Nm .u64) × (Nm .i64) × (List ((Nm .i64) × (Nm .i64) × (List (Nm .u32)) × (Nm .i64) × (Nm .i64))) × (List ((List (Nm .u8)) × (Fl) × (Fl)))) := opens_struct Tryz.underlying52 (opensF_cons rfl op_48 c_48 (opensF_cons rfl op_2 c_2 (opensF_cons rfl op_49 c_49 (opensF_one rfl op_50 c_50) rfl) rfl) rfl) c_52
theorem c_29 : Tryz.prog.cellsOf 29 = Lay.size (List ((Nm .u64) × (Nm .i64) × (List ((Nm .i64) × (Nm .i64) × (List (Nm .u32)) × (Nm .i64) × (Nm .i64))) × (List ((List (Nm .u8)) × (Fl) × (Fl))))) := by kernel_rfl
theorem op_29 : Opens Tryz.prog 29 (List ((Nm .u64) × (Nm .i64) × (List ((Nm .i64) × (Nm .i64) × (List (Nm .u32)) × (Nm .i64) × (Nm .i64))) × (List ((List (Nm .u8)) × (Fl) × (Fl))))) := opens_slice Tryz.underlying29 op_52 c_52 (by decide)
theorem c_31 : Tryz.prog.cellsOf 31 = Lay.size ((List ((Nm .i64) × (List (Nm .i64)))) × (List ((Nm .u64) × (Nm .i64) × (List ((Nm .i64) × (Nm .i64) × (List (Nm .u32)) × (Nm .i64) × (Nm .i64))) × (List ((List (Nm .u8)) × (Fl) × (Fl)))))) := by kernel_rfl
theorem op_31 : Opens Tryz.prog 31 ((List ((Nm .i64) × (List (Nm .i64)))) × (List ((Nm .u64) × (Nm .i64) × (List ((Nm .i64) × (Nm .i64) × (List (Nm .u32)) × (Nm .i64) × (Nm .i64))) × (List ((List (Nm .u8)) × (Fl) × (Fl)))))) := opens_struct Tryz.underlying31 (opensF_cons rfl op_28 c_28 (opensF_one rfl op_29 c_29) rfl) c_31
theorem lifted (os : Os) (started : os.Started) (H : Type) (enc : TypeId × Value → H) :
    ReturnsInHanded {} Tryz.checked os 3 .any (Rows.filterCellsSpec.pre6 enc Tryz.prog Tryz.f3 Rows.filterCellsRow.domain false) (Rows.filterCellsSpec.post enc Tryz.prog Tryz.f3 false true false false) := by
  refine returnsInHanded_of_change (C := Tryz.checked) own started (by kernel_rfl) Tryz.func3
    (ChangeSpec.witness6 (enc := enc) (C := Tryz.checked) false ⟨#[], #[.agg #[.slice none 0 0, .slice none 0 0, .slice none 0 0, .slice none 0 0], .int .u32 0, .agg #[.slice none 0 0, .slice none 0 0]], []⟩ 8 (by kernel_rfl) (by kernel_rfl) (by kernel_rfl) (by kernel_rfl)) ?_
  intro W base args ds gs before hval0 hW hcnd _
  have hval : ∀ (j : Nat) t v, Tryz.f3.params[j]? = some t → args[j]? = some v → Value.okWide Tryz.prog W .any base t v := hval0
  have hW' := hW
  obtain ⟨p, q, hAT, hV, rfl, hfz, hnd⟩ := hW
  have hA : DataW.TrodAll enc Tryz.prog W 0 (fun _ => true) true Tryz.f3.params.toList args.toList ds p := hAT
  rw [Tryz.params3] at hA hval
  obtain ⟨v0, vs0, d0, ds0, p0, q0, hargs, rfl, rfl, h0, r0⟩ := trodAll_cons hA
  obtain ⟨v1, vs1, d1, ds1, p1, q1, rfl, rfl, rfl, h1, r1⟩ := trodAll_cons r0
  obtain ⟨v2, vs2, d2, ds2, p2, q2, rfl, rfl, rfl, h2, r2⟩ := trodAll_cons r1
  obtain ⟨rfl, rfl, rfl⟩ := trodAll_nil r2
  obtain rfl : args = #[v0, v1, v2] := by cases args; simp_all
  obtain ⟨rfl, rfl⟩ := trodVars_none hV
  have hlt : ∀ x ∈ p0 ++ p1 ++ p2, x.block < W.heap.size := fun x hx => hW'.lt x (by simpa using hx)
  have hb0 : ∀ x ∈ p0, x.block < W.heap.size := fun x hx => hlt x (by simp [hx])
  have hk0 : DataW.Trod enc Tryz.prog W 0 (fun _ => true) true 26 v0 d0 p0 := h0
  have hb1 : ∀ x ∈ p1, x.block < W.heap.size := fun x hx => hlt x (by simp [hx])
  have hk1 : DataW.Trod enc Tryz.prog W 0 (fun _ => true) true 27 v1 d1 p1 := h1
  have hb2 : ∀ x ∈ p2, x.block < W.heap.size := fun x hx => hlt x (by simp [hx])
  have hk2 : DataW.Trod enc Tryz.prog W 0 (fun _ => true) true 31 v2 d2 p2 := h2
  obtain ⟨vs0', a0, rfl, hl0⟩ := arg_struct op_26 Tryz.underlying26 (hval 0 26 v0 rfl rfl) h0 hb0
  obtain ⟨x1, rfl, rfl, rfl, w1⟩ := open_int Tryz.underlying27 (hval 1 27 v1 rfl rfl) h1
  obtain ⟨vs2', a2, rfl, hl2⟩ := arg_struct op_31 Tryz.underlying31 (hval 2 31 v2 rfl rfl) h2 hb2
  clear hAT hval0 hlt
  refine (law_FilterCells W vs0' a0 hl0 ⟨x1, w1⟩ vs2' a2 hl2).mono fun e W' ⟨he, hb⟩ => ?_
  subst he
  exact ⟨_, rfl, _, _, _, [], p0 ++ ([] ++ (p2 ++ [])), [], hW', trodAll_mk1 (shut_bool Tryz.underlying4 _), trodAll_cons_mk (Below.trod laidOut (by kernel_rfl) (of_decide_eq_true (by kernel_rfl)) hk0 hb hb0) (trodAll_cons_mk (Below.trod laidOut (by kernel_rfl) (of_decide_eq_true (by kernel_rfl)) hk1 hb hb1) (trodAll_cons_mk (Below.trod laidOut (by kernel_rfl) (of_decide_eq_true (by kernel_rfl)) hk2 hb hb2) (trodAll_mk0))), rfl, hb.frame _, fun h => by cases h⟩
theorem kMapsRowed : (mapsRowed Tryz.prog) = true := by kernel_rfl
theorem kStops : (Tryz.prog.stops == []) = true := by kernel_rfl
theorem kKnobs : (Tryz.prog.stopKnobs == []) = true := by kernel_rfl
theorem kInPlace : (Rows.filterCellsRow.inPlace == Tryz.prog.inPlace 3) = true := by kernel_rfl
theorem kUnfollowed : (Rows.filterCellsRow.unfollowed == Tryz.prog.unfollowed 3) = true := by kernel_rfl
theorem kRecurses : (Rows.filterCellsRow.recurses == Tryz.prog.recurses 3) = true := by kernel_rfl
theorem kNamed : (Rows.filterCellsRow.named == Tryz.prog.varsNamed 3) = true := by kernel_rfl
theorem kPlainKeys : (Rows.filterCellsRow.plainKeys == Tryz.prog.plainKeys) = true := by kernel_rfl
theorem kHeard : (Tryz.prog.stopsHeard) = true := by kernel_rfl
theorem kEnter : (Tryz.prog.mayEnter) = true := by kernel_rfl
theorem kLifted : (Rows.filterCellsRow.lifted == Tryz.prog.liftsFinal) = true := by kernel_rfl
theorem facts : joinedFacts Tryz.prog 3 Tryz.f3 Rows.filterCellsSpec Rows.filterCellsRow = true := by
  unfold joinedFacts
  rw [laidOut, kMapsRowed, kStops, kKnobs, kInPlace, kUnfollowed, kRecurses, kNamed, kPlainKeys, kHeard, kEnter, kLifted]
  kernel_rfl
theorem holds : Rows.filterCellsRow.holds Tryz.pinned (OpenSpec.ofChange Rows.filterCellsSpec) :=
  OpenClaim.holds_of_wide 3 Tryz.f3 rfl rfl rfl rfl rfl rfl rfl ⟨rfl, rfl, rfl, rfl, rfl⟩ rfl rfl rfl rfl rfl (by kernel_rfl) Tryz.func3 facts
    (of_decide_eq_true (by kernel_rfl)) (by unfold Func.isWrapper; first | (rw [if_pos (by decide +kernel)]; kernel_rfl) | (rw [if_neg (by decide +kernel)]; exact ⟨rfl, rfl⟩))
    (fun os started H enc _ => lifted os started H enc)
theorem proved : Rows.FilterCellsSaid := holds
#print axioms proved
end Go.Proofs.YtpomklkfedpkfaaGreat.filterCellsP
