/-
  Keys stand in the rows' order: for any two rows and any order of at most twenty columns, Key, Less and Same answer as the reference says.
-/
import Derived.LaidMore
import Derived.Lay
import Derived.Lib.LaidTab
import Derived.OpenVars
import Derived.ProofKit
import Derived.SevenTiedAt
import Derived.Stop.Joined
import Derived.Test.YtjleobcbgldhmaaRows
import Derived.WalkKit
import Derived.Test.YtjleobcbgldhmaaZOrderKeys3
namespace Go.Proofs.Ytjleobcbgldhmaa.orderKeysP
open Go Go.ChangeShapes Go.WideShapes Go.ChangeAt Go.RowKit
set_option linter.unusedVariables false
set_option maxRecDepth 100000
theorem own : ownKnob Try.prog.godebug = none := by kernel_rfl
theorem laidOut : laidOutB Try.prog = true := by kernel_rfl
theorem c_3 : Try.prog.cellsOf 3 = Lay.size (Nm .i64) := by kernel_rfl
theorem op_3 : Opens Try.prog 3 (Nm .i64) := opens_int Try.underlying3
theorem c_4 : Try.prog.cellsOf 4 = Lay.size (Bool) := by kernel_rfl
theorem op_4 : Opens Try.prog 4 (Bool) := opens_bool Try.underlying4
theorem c_37 : Try.prog.cellsOf 37 = Lay.size ((Nm .i64) × (Bool)) := by kernel_rfl
theorem op_37 : Opens Try.prog 37 ((Nm .i64) × (Bool)) := opens_struct Try.underlying37 (opensF_cons rfl op_3 c_3 (opensF_one rfl op_4 c_4) rfl) c_37
theorem c_22 : Try.prog.cellsOf 22 = Lay.size (List ((Nm .i64) × (Bool))) := by kernel_rfl
theorem op_22 : Opens Try.prog 22 (List ((Nm .i64) × (Bool))) := opens_slice Try.underlying22 op_37 c_37 (by decide)
theorem c_23 : Try.prog.cellsOf 23 = Lay.size (List (Nm .i64)) := by kernel_rfl
theorem op_23 : Opens Try.prog 23 (List (Nm .i64)) := opens_slice Try.underlying23 op_3 c_3 (by decide)
theorem c_2 : Try.prog.cellsOf 2 = Lay.size (Nm .i64) := by kernel_rfl
theorem op_2 : Opens Try.prog 2 (Nm .i64) := opens_int Try.underlying2
theorem c_38 : Try.prog.cellsOf 38 = Lay.size (Fl) := by kernel_rfl
theorem op_38 : Opens Try.prog 38 (Fl) := opens_float Try.underlying38
theorem c_40 : Try.prog.cellsOf 40 = Lay.size ((Bool) × (Nm .i64) × (Fl)) := by kernel_rfl
theorem op_40 : Opens Try.prog 40 ((Bool) × (Nm .i64) × (Fl)) := opens_struct Try.underlying40 (opensF_cons rfl op_4 c_4 (opensF_cons rfl op_2 c_2 (opensF_one rfl op_38 c_38) rfl) rfl) c_40
theorem c_24 : Try.prog.cellsOf 24 = Lay.size (List ((Bool) × (Nm .i64) × (Fl))) := by kernel_rfl
theorem op_24 : Opens Try.prog 24 (List ((Bool) × (Nm .i64) × (Fl))) := opens_slice Try.underlying24 op_40 c_40 (by decide)
theorem c_26 : Try.prog.cellsOf 26 = Lay.size ((List (Nm .i64)) × (List ((Bool) × (Nm .i64) × (Fl)))) := by kernel_rfl
theorem op_26 : Opens Try.prog 26 ((List (Nm .i64)) × (List ((Bool) × (Nm .i64) × (Fl)))) := opens_struct Try.underlying26 (opensF_cons rfl op_23 c_23 (opensF_one rfl op_24 c_24) rfl) c_26
theorem lifted (os : Os) (started : os.Started) (H : Type) (enc : TypeId × Value → H) :
    ReturnsInHanded {} Try.checked os 3 .any (Rows.orderKeysSpec.pre6 enc Try.prog Try.f3 Rows.orderKeysRow.domain false) (Rows.orderKeysSpec.post enc Try.prog Try.f3 false true false false) := by
  refine returnsInHanded_of_change (C := Try.checked) own started (by kernel_rfl) Try.func3
    (ChangeSpec.witness6 (enc := enc) (C := Try.checked) false ⟨#[], #[.slice none 0 0, .agg #[.slice none 0 0, .slice none 0 0], .agg #[.slice none 0 0, .slice none 0 0]], []⟩ 8 (by kernel_rfl) (by kernel_rfl) (by kernel_rfl) (by kernel_rfl)) ?_
  intro W base args ds gs before hval0 hW hcnd _
  have hval : ∀ (j : Nat) t v, Try.f3.params[j]? = some t → args[j]? = some v → Value.okWide Try.prog W .any base t v := hval0
  have hW' := hW
  obtain ⟨p, q, hAT, hV, rfl, hfz, hnd⟩ := hW
  have hA : DataW.TrodAll enc Try.prog W 0 (fun _ => true) true Try.f3.params.toList args.toList ds p := hAT
  rw [Try.params3] at hA hval
  obtain ⟨v0, vs0, d0, ds0, p0, q0, hargs, rfl, rfl, h0, r0⟩ := trodAll_cons hA
  obtain ⟨v1, vs1, d1, ds1, p1, q1, rfl, rfl, rfl, h1, r1⟩ := trodAll_cons r0
  obtain ⟨v2, vs2, d2, ds2, p2, q2, rfl, rfl, rfl, h2, r2⟩ := trodAll_cons r1
  obtain ⟨rfl, rfl, rfl⟩ := trodAll_nil r2
  obtain rfl : args = #[v0, v1, v2] := by cases args; simp_all
  obtain ⟨rfl, rfl⟩ := trodVars_none hV
  have hlt : ∀ x ∈ p0 ++ p1 ++ p2, x.block < W.heap.size := fun x hx => hW'.lt x (by simpa using hx)
  have hb0 : ∀ x ∈ p0, x.block < W.heap.size := fun x hx => hlt x (by simp [hx])
  have hk0 : DataW.Trod enc Try.prog W 0 (fun _ => true) true 22 v0 d0 p0 := h0
  have hb1 : ∀ x ∈ p1, x.block < W.heap.size := fun x hx => hlt x (by simp [hx])
  have hk1 : DataW.Trod enc Try.prog W 0 (fun _ => true) true 26 v1 d1 p1 := h1
  have hb2 : ∀ x ∈ p2, x.block < W.heap.size := fun x hx => hlt x (by simp [hx])
  have hk2 : DataW.Trod enc Try.prog W 0 (fun _ => true) true 26 v2 d2 p2 := h2
  obtain ⟨A0, n0, c0, xs0, rfl, hn0, hc0, hA0, hl0⟩ := arg_slice op_22 Try.underlying22 (hval 0 22 v0 rfl rfl) h0 hb0
  obtain ⟨vs1', a1, rfl, hl1⟩ := arg_struct op_26 Try.underlying26 (hval 1 26 v1 rfl rfl) h1 hb1
  obtain ⟨vs2', a2, rfl, hl2⟩ := arg_struct op_26 Try.underlying26 (hval 2 26 v2 rfl rfl) h2 hb2
  clear hAT hval0 hlt
  refine (law_OrderKeys W A0 n0 c0 xs0 hn0 hc0 hA0 hl0 vs1' a1 hl1 vs2' a2 hl2).mono fun e W' ⟨he, hb⟩ => ?_
  subst he
  exact ⟨_, rfl, _, _, _, [], p0 ++ (p1 ++ (p2 ++ [])), [], hW', trodAll_mk1 (shut_bool Try.underlying4 _), trodAll_cons_mk (Below.trod laidOut (by kernel_rfl) (of_decide_eq_true (by kernel_rfl)) hk0 hb hb0) (trodAll_cons_mk (Below.trod laidOut (by kernel_rfl) (of_decide_eq_true (by kernel_rfl)) hk1 hb hb1) (trodAll_cons_mk (Below.trod laidOut (by kernel_rfl) (of_decide_eq_true (by kernel_rfl)) hk2 hb hb2) (trodAll_mk0))), rfl, hb.frame _, fun h => by cases h⟩
theorem kMapsRowed : (mapsRowed Try.prog) = true := by kernel_rfl
theorem kStops : (Try.prog.stops == []) = true := by kernel_rfl
theorem kKnobs : (Try.prog.stopKnobs == []) = true := by kernel_rfl
theorem kInPlace : (Rows.orderKeysRow.inPlace == Try.prog.inPlace 3) = true := by kernel_rfl
theorem kUnfollowed : (Rows.orderKeysRow.unfollowed == Try.prog.unfollowed 3) = true := by kernel_rfl
theorem kRecurses : (Rows.orderKeysRow.recurses == Try.prog.recurses 3) = true := by kernel_rfl
theorem kNamed : (Rows.orderKeysRow.named == Try.prog.varsNamed 3) = true := by kernel_rfl
theorem kPlainKeys : (Rows.orderKeysRow.plainKeys == Try.prog.plainKeys) = true := by kernel_rfl
theorem kHeard : (Try.prog.stopsHeard) = true := by kernel_rfl
theorem kEnter : (Try.prog.mayEnter) = true := by kernel_rfl
theorem kLifted : (Rows.orderKeysRow.lifted == Try.prog.liftsFinal) = true := by kernel_rfl
theorem facts : joinedFacts Try.prog 3 Try.f3 Rows.orderKeysSpec Rows.orderKeysRow = true := by
  unfold joinedFacts
  rw [laidOut, kMapsRowed, kStops, kKnobs, kInPlace, kUnfollowed, kRecurses, kNamed, kPlainKeys, kHeard, kEnter, kLifted]
  kernel_rfl
theorem holds : Rows.orderKeysRow.holds Try.pinned (OpenSpec.ofChange Rows.orderKeysSpec) :=
  OpenClaim.holds_of_wide 3 Try.f3 rfl rfl rfl rfl rfl rfl rfl ⟨rfl, rfl, rfl, rfl, rfl⟩ rfl rfl rfl rfl rfl (by kernel_rfl) Try.func3 facts
    (of_decide_eq_true (by kernel_rfl)) (by unfold Func.isWrapper; first | (rw [if_pos (by decide +kernel)]; kernel_rfl) | (rw [if_neg (by decide +kernel)]; exact ⟨rfl, rfl⟩))
    (fun os started H enc _ => lifted os started H enc)
theorem proved : Rows.OrderKeysSaid := holds
#print axioms proved
end Go.Proofs.Ytjleobcbgldhmaa.orderKeysP
