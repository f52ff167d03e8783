/-
  For any schema, any two lists of filters and any list of cells: applying the filters one list after the other, in either order, gives the same as applying both at once.
-/
import Derived.LaidMore
import Derived.Lay
import Derived.Lib.LaidTab
import Derived.OpenVars
import Derived.ProofKit
import Derived.SevenTiedAt
import Derived.Stop.Joined
import Derived.Test.YtpomklkfedpkfaaRows
import Derived.WalkKit
import Derived.Test.YtpomklkfedpkfaaZFilterTwice5
namespace Go.Proofs.Ytpomklkfedpkfaa.filterTwiceP
open Go Go.ChangeShapes Go.WideShapes Go.ChangeAt Go.RowKit
set_option linter.unusedVariables false
set_option maxRecDepth 100000
theorem own : ownKnob Try.prog.godebug = none := by kernel_rfl
theorem laidOut : laidOutB Try.prog = true := by kernel_rfl
theorem c_9 : Try.prog.cellsOf 9 = Lay.size (Str) := by kernel_rfl
theorem op_9 : Opens Try.prog 9 (Str) := opens_string Try.underlying9
theorem c_3 : Try.prog.cellsOf 3 = Lay.size (Nm .i64) := by kernel_rfl
theorem op_3 : Opens Try.prog 3 (Nm .i64) := opens_int Try.underlying3
theorem c_78 : Try.prog.cellsOf 78 = Lay.size ((Str) × (Nm .i64)) := by kernel_rfl
theorem op_78 : Opens Try.prog 78 ((Str) × (Nm .i64)) := opens_struct Try.underlying78 (opensF_cons rfl op_9 c_9 (opensF_one rfl op_3 c_3) rfl) c_78
theorem c_43 : Try.prog.cellsOf 43 = Lay.size (List ((Str) × (Nm .i64))) := by kernel_rfl
theorem op_43 : Opens Try.prog 43 (List ((Str) × (Nm .i64))) := opens_slice Try.underlying43 op_78 c_78 (by decide)
theorem c_44 : Try.prog.cellsOf 44 = Lay.size (List (Str)) := by kernel_rfl
theorem op_44 : Opens Try.prog 44 (List (Str)) := opens_slice Try.underlying44 op_9 c_9 (by decide)
theorem c_53 : Try.prog.cellsOf 53 = Lay.size (Nm .u32) := by kernel_rfl
theorem op_53 : Opens Try.prog 53 (Nm .u32) := opens_int Try.underlying53
theorem c_45 : Try.prog.cellsOf 45 = Lay.size (List (Nm .u32)) := by kernel_rfl
theorem op_45 : Opens Try.prog 45 (List (Nm .u32)) := opens_slice Try.underlying45 op_53 c_53 (by decide)
theorem c_47 : Try.prog.cellsOf 47 = Lay.size ((List ((Str) × (Nm .i64))) × (List (Str)) × (List (Str)) × (List (Nm .u32))) := by kernel_rfl
theorem op_47 : Opens Try.prog 47 ((List ((Str) × (Nm .i64))) × (List (Str)) × (List (Str)) × (List (Nm .u32))) := opens_struct Try.underlying47 (opensF_cons rfl op_43 c_43 (opensF_cons rfl op_44 c_44 (opensF_cons rfl op_44 c_44 (opensF_one rfl op_45 c_45) rfl) rfl) rfl) c_47
theorem c_74 : Try.prog.cellsOf 74 = Lay.size (List (Nm .i64)) := by kernel_rfl
theorem op_74 : Opens Try.prog 74 (List (Nm .i64)) := opens_slice Try.underlying74 op_3 c_3 (by decide)
theorem c_76 : Try.prog.cellsOf 76 = Lay.size ((Nm .i64) × (List (Nm .i64))) := by kernel_rfl
theorem op_76 : Opens Try.prog 76 ((Nm .i64) × (List (Nm .i64))) := opens_struct Try.underlying76 (opensF_cons rfl op_3 c_3 (opensF_one rfl op_74 c_74) rfl) c_76
theorem c_48 : Try.prog.cellsOf 48 = Lay.size (List ((Nm .i64) × (List (Nm .i64)))) := by kernel_rfl
theorem op_48 : Opens Try.prog 48 (List ((Nm .i64) × (List (Nm .i64)))) := opens_slice Try.underlying48 op_76 c_76 (by decide)
theorem c_36 : Try.prog.cellsOf 36 = Lay.size (Nm .u64) := by kernel_rfl
theorem op_36 : Opens Try.prog 36 (Nm .u64) := opens_int Try.underlying36
theorem c_2 : Try.prog.cellsOf 2 = Lay.size (Nm .i64) := by kernel_rfl
theorem op_2 : Opens Try.prog 2 (Nm .i64) := opens_int Try.underlying2
theorem c_90 : Try.prog.cellsOf 90 = Lay.size ((Nm .i64) × (Nm .i64) × (List (Nm .u32)) × (Nm .i64) × (Nm .i64)) := by kernel_rfl
theorem op_90 : Opens Try.prog 90 ((Nm .i64) × (Nm .i64) × (List (Nm .u32)) × (Nm .i64) × (Nm .i64)) := opens_struct Try.underlying90 (opensF_cons rfl op_2 c_2 (opensF_cons rfl op_2 c_2 (opensF_cons rfl op_45 c_45 (opensF_cons rfl op_2 c_2 (opensF_one rfl op_2 c_2) rfl) rfl) rfl) rfl) c_90
theorem c_58 : Try.prog.cellsOf 58 = Lay.size (List ((Nm .i64) × (Nm .i64) × (List (Nm .u32)) × (Nm .i64) × (Nm .i64))) := by kernel_rfl
theorem op_58 : Opens Try.prog 58 (List ((Nm .i64) × (Nm .i64) × (List (Nm .u32)) × (Nm .i64) × (Nm .i64))) := opens_slice Try.underlying58 op_90 c_90 (by decide)
theorem c_5 : Try.prog.cellsOf 5 = Lay.size (Nm .u8) := by kernel_rfl
theorem op_5 : Opens Try.prog 5 (Nm .u8) := opens_int Try.underlying5
theorem c_91 : Try.prog.cellsOf 91 = Lay.size (List (Nm .u8)) := by kernel_rfl
theorem op_91 : Opens Try.prog 91 (List (Nm .u8)) := opens_slice Try.underlying91 op_5 c_5 (by decide)
theorem c_92 : Try.prog.cellsOf 92 = Lay.size (Fl) := by kernel_rfl
theorem op_92 : Opens Try.prog 92 (Fl) := opens_float Try.underlying92
theorem c_94 : Try.prog.cellsOf 94 = Lay.size ((List (Nm .u8)) × (Fl) × (Fl)) := by kernel_rfl
theorem op_94 : Opens Try.prog 94 ((List (Nm .u8)) × (Fl) × (Fl)) := opens_struct Try.underlying94 (opensF_cons rfl op_91 c_91 (opensF_cons rfl op_92 c_92 (opensF_one rfl op_92 c_92) rfl) rfl) c_94
theorem c_59 : Try.prog.cellsOf 59 = Lay.size (List ((List (Nm .u8)) × (Fl) × (Fl))) := by kernel_rfl
theorem op_59 : Opens Try.prog 59 (List ((List (Nm .u8)) × (Fl) × (Fl))) := opens_slice Try.underlying59 op_94 c_94 (by decide)
theorem c_61 : Try.prog.cellsOf 61 = Lay.size ((Nm .u64) × (Nm .i64) × (List ((Nm .i64) × (Nm .i64) × (List (Nm .u32)) × (Nm .i64) × (Nm .i64))) × (List ((List (Nm .u8)) × (Fl) × (Fl)))) := by kernel_rfl
theorem op_61 : Opens Try.prog 61 ((Nm .u64) × (Nm .i64) × (List ((Nm .i64) × (Nm .i64) × (List (Nm .u32)) × (Nm .i64) × (Nm .i64))) × (List ((List (Nm .u8)) × (Fl) × (Fl)))) := opens_struct Try.underlying61 (opensF_cons rfl op_36 c_36 (opensF_cons rfl op_2 c_2 (opensF_cons rfl op_58 c_58 (opensF_one rfl op_59 c_59) rfl) rfl) rfl) c_61
theorem c_22 : Try.prog.cellsOf 22 = Lay.size (List ((Nm .u64) × (Nm .i64) × (List ((Nm .i64) × (Nm .i64) × (List (Nm .u32)) × (Nm .i64) × (Nm .i64))) × (List ((List (Nm .u8)) × (Fl) × (Fl))))) := by kernel_rfl
theorem op_22 : Opens Try.prog 22 (List ((Nm .u64) × (Nm .i64) × (List ((Nm .i64) × (Nm .i64) × (List (Nm .u32)) × (Nm .i64) × (Nm .i64))) × (List ((List (Nm .u8)) × (Fl) × (Fl))))) := opens_slice Try.underlying22 op_61 c_61 (by decide)
theorem c_50 : Try.prog.cellsOf 50 = Lay.size ((List ((Nm .i64) × (List (Nm .i64)))) × (List ((Nm .u64) × (Nm .i64) × (List ((Nm .i64) × (Nm .i64) × (List (Nm .u32)) × (Nm .i64) × (Nm .i64))) × (List ((List (Nm .u8)) × (Fl) × (Fl)))))) := by kernel_rfl
theorem op_50 : Opens Try.prog 50 ((List ((Nm .i64) × (List (Nm .i64)))) × (List ((Nm .u64) × (Nm .i64) × (List ((Nm .i64) × (Nm .i64) × (List (Nm .u32)) × (Nm .i64) × (Nm .i64))) × (List ((List (Nm .u8)) × (Fl) × (Fl)))))) := opens_struct Try.underlying50 (opensF_cons rfl op_48 c_48 (opensF_one rfl op_22 c_22) rfl) c_50
theorem lifted (os : Os) (started : os.Started) (H : Type) (enc : TypeId × Value → H) :
    ReturnsInHanded {} Try.checked os 5 .any (Rows.filterTwiceSpec.pre6 enc Try.prog Try.f5 Rows.filterTwiceRow.domain false) (Rows.filterTwiceSpec.post enc Try.prog Try.f5 false true false false) := by
  refine returnsInHanded_of_change (C := Try.checked) own started (by kernel_rfl) Try.func5
    (ChangeSpec.witness6 (enc := enc) (C := Try.checked) false ⟨#[], #[.agg #[.slice none 0 0, .slice none 0 0, .slice none 0 0, .slice none 0 0], .agg #[.slice none 0 0, .slice none 0 0], .agg #[.slice none 0 0, .slice none 0 0]], []⟩ 8 (by kernel_rfl) (by kernel_rfl) (by kernel_rfl) (by kernel_rfl)) ?_
  intro W base args ds gs before hval0 hW hcnd _
  have hval : ∀ (j : Nat) t v, Try.f5.params[j]? = some t → args[j]? = some v → Value.okWide Try.prog W .any base t v := hval0
  have hW' := hW
  obtain ⟨p, q, hAT, hV, rfl, hfz, hnd⟩ := hW
  have hA : DataW.TrodAll enc Try.prog W 0 (fun _ => true) true Try.f5.params.toList args.toList ds p := hAT
  rw [Try.params5] at hA hval
  obtain ⟨v0, vs0, d0, ds0, p0, q0, hargs, rfl, rfl, h0, r0⟩ := trodAll_cons hA
  obtain ⟨v1, vs1, d1, ds1, p1, q1, rfl, rfl, rfl, h1, r1⟩ := trodAll_cons r0
  obtain ⟨v2, vs2, d2, ds2, p2, q2, rfl, rfl, rfl, h2, r2⟩ := trodAll_cons r1
  obtain ⟨rfl, rfl, rfl⟩ := trodAll_nil r2
  obtain rfl : args = #[v0, v1, v2] := by cases args; simp_all
  obtain ⟨rfl, rfl⟩ := trodVars_none hV
  have hlt : ∀ x ∈ p0 ++ p1 ++ p2, x.block < W.heap.size := fun x hx => hW'.lt x (by simpa using hx)
  have hb0 : ∀ x ∈ p0, x.block < W.heap.size := fun x hx => hlt x (by simp [hx])
  have hk0 : DataW.Trod enc Try.prog W 0 (fun _ => true) true 47 v0 d0 p0 := h0
  have hb1 : ∀ x ∈ p1, x.block < W.heap.size := fun x hx => hlt x (by simp [hx])
  have hk1 : DataW.Trod enc Try.prog W 0 (fun _ => true) true 50 v1 d1 p1 := h1
  have hb2 : ∀ x ∈ p2, x.block < W.heap.size := fun x hx => hlt x (by simp [hx])
  have hk2 : DataW.Trod enc Try.prog W 0 (fun _ => true) true 50 v2 d2 p2 := h2
  obtain ⟨vs0', a0, rfl, hl0⟩ := arg_struct op_47 Try.underlying47 (hval 0 47 v0 rfl rfl) h0 hb0
  obtain ⟨vs1', a1, rfl, hl1⟩ := arg_struct op_50 Try.underlying50 (hval 1 50 v1 rfl rfl) h1 hb1
  obtain ⟨vs2', a2, rfl, hl2⟩ := arg_struct op_50 Try.underlying50 (hval 2 50 v2 rfl rfl) h2 hb2
  clear hAT hval0 hlt
  refine (law_FilterTwice W vs0' a0 hl0 vs1' a1 hl1 vs2' a2 hl2).mono fun e W' ⟨he, hb⟩ => ?_
  subst he
  exact ⟨_, rfl, _, _, _, [], p0 ++ (p1 ++ (p2 ++ [])), [], hW', trodAll_mk1 (shut_bool Try.underlying4 _), trodAll_cons_mk (Below.trod laidOut (by kernel_rfl) (of_decide_eq_true (by kernel_rfl)) hk0 hb hb0) (trodAll_cons_mk (Below.trod laidOut (by kernel_rfl) (of_decide_eq_true (by kernel_rfl)) hk1 hb hb1) (trodAll_cons_mk (Below.trod laidOut (by kernel_rfl) (of_decide_eq_true (by kernel_rfl)) hk2 hb hb2) (trodAll_mk0))), rfl, hb.frame _, fun h => by cases h⟩
theorem kMapsRowed : (mapsRowed Try.prog) = true := by kernel_rfl
theorem kStops : (Try.prog.stops == []) = true := by kernel_rfl
theorem kKnobs : (Try.prog.stopKnobs == []) = true := by kernel_rfl
theorem kInPlace : (Rows.filterTwiceRow.inPlace == Try.prog.inPlace 5) = true := by kernel_rfl
theorem kUnfollowed : (Rows.filterTwiceRow.unfollowed == Try.prog.unfollowed 5) = true := by kernel_rfl
theorem kRecurses : (Rows.filterTwiceRow.recurses == Try.prog.recurses 5) = true := by kernel_rfl
theorem kNamed : (Rows.filterTwiceRow.named == Try.prog.varsNamed 5) = true := by kernel_rfl
theorem kPlainKeys : (Rows.filterTwiceRow.plainKeys == Try.prog.plainKeys) = true := by kernel_rfl
theorem kHeard : (Try.prog.stopsHeard) = true := by kernel_rfl
theorem kEnter : (Try.prog.mayEnter) = true := by kernel_rfl
theorem kLifted : (Rows.filterTwiceRow.lifted == Try.prog.liftsFinal) = true := by kernel_rfl
theorem facts : joinedFacts Try.prog 5 Try.f5 Rows.filterTwiceSpec Rows.filterTwiceRow = true := by
  unfold joinedFacts
  rw [laidOut, kMapsRowed, kStops, kKnobs, kInPlace, kUnfollowed, kRecurses, kNamed, kPlainKeys, kHeard, kEnter, kLifted]
  kernel_rfl
theorem holds : Rows.filterTwiceRow.holds Try.pinned (OpenSpec.ofChange Rows.filterTwiceSpec) :=
  OpenClaim.holds_of_wide 5 Try.f5 rfl rfl rfl rfl rfl rfl rfl ⟨rfl, rfl, rfl, rfl, rfl⟩ rfl rfl rfl rfl rfl (by kernel_rfl) Try.func5 facts
    (of_decide_eq_true (by kernel_rfl)) (by unfold Func.isWrapper; first | (rw [if_pos (by decide +kernel)]; kernel_rfl) | (rw [if_neg (by decide +kernel)]; exact ⟨rfl, rfl⟩))
    (fun os started H enc _ => lifted os started H enc)
theorem proved : Rows.FilterTwiceSaid := holds
#print axioms proved
end Go.Proofs.Ytpomklkfedpkfaa.filterTwiceP
