/-
  Any asks of a space of any size come to what the reference says: for every size, list of live pages and asks.
-/
import Derived.Test.YtdmfikedojgjbaaRows
import Derived.Test.YtdmfikedojgjbaaOpen
import Derived.Test.YtdmfikedojgjbaaLFreeDoes
import Derived.WalkKit
import Derived.ProofKit
import Derived.Lay
import Derived.LaidMore
import Derived.Lib.LaidTab
import Derived.SevenTiedAt
import Derived.OpenVars
import Derived.Stop.Joined
namespace Go.Proofs.Ytdmfikedojgjbaa.freeDoesP
open Go Go.ChangeShapes Go.WideShapes Go.ChangeAt Go.RowKit
set_option linter.unusedVariables false
set_option maxRecDepth 100000
theorem own : ownKnob Try.prog.godebug = none := by kernel_rfl
theorem laidOut : laidOutB Try.prog = true := by kernel_rfl
theorem c_3 : Try.prog.cellsOf 3 = Lay.size (Nm .i64) := by kernel_rfl
theorem op_3 : Opens Try.prog 3 (Nm .i64) := opens_int Try.underlying3
theorem c_62 : Try.prog.cellsOf 62 = Lay.size (List (Nm .i64)) := by kernel_rfl
theorem op_62 : Opens Try.prog 62 (List (Nm .i64)) := opens_slice Try.underlying62 op_3 c_3 (by decide)
theorem c_76 : Try.prog.cellsOf 76 = Lay.size ((Nm .i64) × (List (Nm .i64))) := by kernel_rfl
theorem op_76 : Opens Try.prog 76 ((Nm .i64) × (List (Nm .i64))) := opens_struct Try.underlying76 (opensF_cons rfl op_3 c_3 (opensF_one rfl op_62 c_62) rfl) c_76
theorem c_69 : Try.prog.cellsOf 69 = Lay.size (List ((Nm .i64) × (List (Nm .i64)))) := by kernel_rfl
theorem op_69 : Opens Try.prog 69 (List ((Nm .i64) × (List (Nm .i64)))) := opens_slice Try.underlying69 op_76 c_76 (by decide)
theorem lifted (os : Os) (started : os.Started) (H : Type) (enc : TypeId × Value → H) :
    ReturnsInHanded {} Try.checked os 9 .any (Rows.freeDoesSpec.pre6 enc Try.prog Try.f9 Rows.freeDoesRow.domain false) (Rows.freeDoesSpec.post enc Try.prog Try.f9 false true false false) := by
  refine returnsInHanded_of_change (C := Try.checked) own started (by kernel_rfl) Try.func9
    (ChangeSpec.witness6 (enc := enc) (C := Try.checked) false ⟨#[], #[.int .i64 0, .slice none 0 0, .slice none 0 0], []⟩ 8 (by kernel_rfl) (by kernel_rfl) (by kernel_rfl) (by kernel_rfl)) ?_
  intro W base args ds gs before hval0 hW hcnd _
  have hval : ∀ (j : Nat) t v, Try.f9.params[j]? = some t → args[j]? = some v → Value.okWide Try.prog W .any base t v := hval0
  have hW' := hW
  obtain ⟨p, q, hA0, hV, rfl, hfz, hnd⟩ := hW
  have hA : DataW.TrodAll enc Try.prog W 0 (fun _ => true) true Try.f9.params.toList args.toList ds p := hA0
  rw [Try.params9] at hA hval
  obtain ⟨v0, vs0, d0, ds0, p0, q0, hargs, rfl, rfl, h0, r0⟩ := trodAll_cons hA
  obtain ⟨v1, vs1, d1, ds1, p1, q1, rfl, rfl, rfl, h1, r1⟩ := trodAll_cons r0
  obtain ⟨v2, vs2, d2, ds2, p2, q2, rfl, rfl, rfl, h2, r2⟩ := trodAll_cons r1
  obtain ⟨rfl, rfl, rfl⟩ := trodAll_nil r2
  obtain rfl : args = #[v0, v1, v2] := by cases args; simp_all
  obtain ⟨rfl, rfl⟩ := trodVars_none hV
  have hlt : ∀ x ∈ p0 ++ p1 ++ p2, x.block < W.heap.size := fun x hx => hW'.lt x (by simpa using hx)
  have hb0 : ∀ x ∈ p0, x.block < W.heap.size := fun x hx => hlt x (by simp [hx])
  have hk0 : DataW.Trod enc Try.prog W 0 (fun _ => true) true 3 v0 d0 p0 := h0
  have hb1 : ∀ x ∈ p1, x.block < W.heap.size := fun x hx => hlt x (by simp [hx])
  have hk1 : DataW.Trod enc Try.prog W 0 (fun _ => true) true 62 v1 d1 p1 := h1
  have hb2 : ∀ x ∈ p2, x.block < W.heap.size := fun x hx => hlt x (by simp [hx])
  have hk2 : DataW.Trod enc Try.prog W 0 (fun _ => true) true 69 v2 d2 p2 := h2
  obtain ⟨x0, rfl, rfl, rfl, w0⟩ := open_int Try.underlying3 (hval 0 3 v0 rfl rfl) h0
  obtain ⟨A1, n1, c1, xs1, rfl, hn1, hc1, hA1, hl1⟩ := arg_slice op_62 Try.underlying62 (hval 1 62 v1 rfl rfl) h1 hb1
  obtain ⟨A2, n2, c2, xs2, rfl, hn2, hc2, hA2, hl2⟩ := arg_slice op_69 Try.underlying69 (hval 2 69 v2 rfl rfl) h2 hb2
  clear hA0 hval0 hlt
  refine (law_FreeDoes W ⟨x0, w0⟩ A1 n1 c1 xs1 hn1 hc1 hA1 hl1 A2 n2 c2 xs2 hn2 hc2 hA2 hl2).mono fun e W' ⟨he, hb⟩ => ?_
  subst he
  exact ⟨_, rfl, _, _, _, [], [] ++ (p1 ++ (p2 ++ [])), [], hW', trodAll_mk1 (shut_bool Try.underlying4 _), trodAll_cons_mk (Below.trod laidOut (by kernel_rfl) (of_decide_eq_true (by kernel_rfl)) hk0 hb hb0) (trodAll_cons_mk (Below.trod laidOut (by kernel_rfl) (of_decide_eq_true (by kernel_rfl)) hk1 hb hb1) (trodAll_cons_mk (Below.trod laidOut (by kernel_rfl) (of_decide_eq_true (by kernel_rfl)) hk2 hb hb2) (trodAll_mk0))), rfl, hb.frame _, fun h => by cases h⟩
theorem holds : Rows.freeDoesRow.holds Try.pinned (OpenSpec.ofChange Rows.freeDoesSpec) :=
  OpenClaim.holds_of_wide 9 Try.f9 rfl rfl rfl rfl rfl rfl rfl ⟨rfl, rfl, rfl, rfl, rfl⟩ rfl rfl rfl rfl rfl (by kernel_rfl) Try.func9 (by kernel_rfl)
    (of_decide_eq_true (by kernel_rfl)) (by unfold Func.isWrapper; first | (rw [if_pos (by decide +kernel)]; kernel_rfl) | (rw [if_neg (by decide +kernel)]; exact ⟨rfl, rfl⟩))
    (fun os started H enc _ => lifted os started H enc)
/-- Any asks of a space of any size come to what the reference says: for every size, list of live pages and asks. -/
theorem proved : Rows.FreeDoesSaid := holds
#print axioms proved
end Go.Proofs.Ytdmfikedojgjbaa.freeDoesP
