/-
  Any operations on the given log of four sectors return the specified records, surviving data, errors and disk contents.
-/
import Derived.LaidMore
import Derived.Lay
import Derived.Lib.LaidTab
import Derived.OpenVars
import Derived.ProofKit
import Derived.SevenTiedAt
import Derived.Stop.Joined
import Derived.Test.YtjdimgigbgafbaaDoorCards
import Derived.Test.YtjdimgigbgafbaaDoorRows
import Derived.Test.YtjdimgigbgafbaaDoorTie
import Derived.WalkKit
import Derived.Test.YtjdimgigbgafbaaDoorZLogDoes6
namespace Go.Proofs.YtjdimgigbgafbaaDoor.logDoesP
open Go Go.ChangeShapes Go.WideShapes Go.ChangeAt Go.RowKit
set_option linter.unusedVariables false
set_option maxRecDepth 100000
theorem own : ownKnob Tryd.prog.godebug = none := by kernel_rfl
theorem laidOut : laidOutB Tryd.prog = true := by kernel_rfl
theorem c_3 : Tryd.prog.cellsOf 3 = Lay.size (Nm .i64) := by kernel_rfl
theorem op_3 : Opens Tryd.prog 3 (Nm .i64) := opens_int Tryd.underlying3
theorem c_5 : Tryd.prog.cellsOf 5 = Lay.size (Nm .u8) := by kernel_rfl
theorem op_5 : Opens Tryd.prog 5 (Nm .u8) := opens_int Tryd.underlying5
theorem c_4 : Tryd.prog.cellsOf 4 = Lay.size (Bool) := by kernel_rfl
theorem op_4 : Opens Tryd.prog 4 (Bool) := opens_bool Tryd.underlying4
theorem c_45 : Tryd.prog.cellsOf 45 = Lay.size (List (Bool)) := by kernel_rfl
theorem op_45 : Opens Tryd.prog 45 (List (Bool)) := opens_slice Tryd.underlying45 op_4 c_4 (by decide)
theorem c_47 : Tryd.prog.cellsOf 47 = Lay.size ((Nm .i64) × (Nm .i64) × (Nm .u8) × (List (Bool))) := by kernel_rfl
theorem op_47 : Opens Tryd.prog 47 ((Nm .i64) × (Nm .i64) × (Nm .u8) × (List (Bool))) := opens_struct Tryd.underlying47 (opensF_cons rfl op_3 c_3 (opensF_cons rfl op_3 c_3 (opensF_cons rfl op_5 c_5 (opensF_one rfl op_45 c_45) rfl) rfl) rfl) c_47
theorem c_22 : Tryd.prog.cellsOf 22 = Lay.size (List ((Nm .i64) × (Nm .i64) × (Nm .u8) × (List (Bool)))) := by kernel_rfl
theorem op_22 : Opens Tryd.prog 22 (List ((Nm .i64) × (Nm .i64) × (Nm .u8) × (List (Bool)))) := opens_slice Tryd.underlying22 op_47 c_47 (by decide)
theorem c_23 : Tryd.prog.cellsOf 23 = Lay.size (Nm .u32) := by kernel_rfl
theorem op_23 : Opens Tryd.prog 23 (Nm .u32) := opens_int Tryd.underlying23
def laidL : List (String × DataW Unit) := [("bushel/crc.step", Rows.laid_bushel_crc_step)]
theorem laidL_tabs (W : World) (h : laidMetH Tryd.prog laidL W) : Tab W := by
  rw [MakeChecks.laidMetH_plain _ _ _ (by kernel_rfl)] at h
  have ht : Lib.TabIs Tryd.prog W "bushel/crc.step" .u32 (Crc.tab.map fun n : Nat => (n : Int)) := Lib.tabIs_of_head (g := 0) (by kernel_rfl) (by kernel_rfl) Tryd.underlying137 Tryd.underlying23 (by kernel_rfl) (by kernel_rfl) (rest := []) h
  intro j hj
  have h16 : Crc.tab.length = 16 := rfl
  have := ht.cell (g := 0) (by kernel_rfl) j (by rw [List.length_map, h16]; exact hj)
  rw [this]
  simp [List.getD, show j < Crc.tab.length from hj]
theorem lifted (os : Os) (started : os.Started) (H : Type) (enc : TypeId × Value → H) :
    ReturnsInHanded {} Tryd.checked os 3 .any (fun w args => (Rows.logDoesSpec.pre enc Tryd.prog Tryd.f3 [] false w args ∧ laidMetH Tryd.prog laidL w) ∧ sizedMet enc Tryd.prog Tryd.f3 (OpenSpec.ofChange Rows.logDoesSpec) false w args) (Rows.logDoesSpec.post enc Tryd.prog Tryd.f3 false true false false) := by
  refine returnsInHanded_of_change_and (C := Tryd.checked) (X := fun w _ => laidMetH Tryd.prog laidL w) (fun _ _ _ hh h => h.of_heap hh) own started (by kernel_rfl) Tryd.func3
    (ChangeSpec.witness_shaped (enc := enc) (C := Tryd.checked) (os := os) (X := fun w _ => laidMetH Tryd.prog laidL w) false (World.laidAll Tryd.prog os laidL) #[.slice none 0 0, .int .u32 0] 8 (World.laidAll_os _ _ _)
      (World.shaped_of_ZipB (by kernel_rfl) (by kernel_rfl)) (by kernel_rfl) (by kernel_rfl) (by kernel_rfl)
      (by rw [MakeChecks.laidMetH_plain _ _ _ (by kernel_rfl)]; exact laidMet_laidAll _ (by kernel_rfl) (by kernel_rfl))) ?_
  intro W base args ds gs before hval0 hW _ _ hL _
  have hval : ∀ (j : Nat) t v, Tryd.f3.params[j]? = some t → args[j]? = some v → Value.okWide Tryd.prog W .any base t v := hval0
  have hW' := hW
  obtain ⟨p, q, hAT, hV, rfl, hfz, hnd⟩ := hW
  have hA : DataW.TrodAll enc Tryd.prog W 0 (fun _ => true) true Tryd.f3.params.toList args.toList ds p := hAT
  rw [Tryd.params3] at hA hval
  obtain ⟨v0, vs0, d0, ds0, p0, q0, hargs, rfl, rfl, h0, r0⟩ := trodAll_cons hA
  obtain ⟨v1, vs1, d1, ds1, p1, q1, rfl, rfl, rfl, h1, r1⟩ := trodAll_cons r0
  obtain ⟨rfl, rfl, rfl⟩ := trodAll_nil r1
  obtain rfl : args = #[v0, v1] := by cases args; simp_all
  obtain ⟨rfl, rfl⟩ := trodVars_none hV
  have hlt : ∀ x ∈ p0 ++ p1, x.block < W.heap.size := fun x hx => hW'.lt x (by simpa using hx)
  have hb0 : ∀ x ∈ p0, x.block < W.heap.size := fun x hx => hlt x (by simp [hx])
  have hk0 : DataW.Trod enc Tryd.prog W 0 (fun _ => true) true 22 v0 d0 p0 := h0
  have hb1 : ∀ x ∈ p1, x.block < W.heap.size := fun x hx => hlt x (by simp [hx])
  have hk1 : DataW.Trod enc Tryd.prog W 0 (fun _ => true) true 23 v1 d1 p1 := h1
  obtain ⟨A0, n0, c0, xs0, rfl, hn0, hc0, hA0, hl0⟩ := arg_slice op_22 Tryd.underlying22 (hval 0 22 v0 rfl rfl) h0 hb0
  obtain ⟨x1, rfl, rfl, rfl, w1⟩ := open_int Tryd.underlying23 (hval 1 23 v1 rfl rfl) h1
  clear hAT hval0 hlt
  have hT := laidL_tabs W hL
  refine (law_LogDoes W hT A0 n0 c0 xs0 hn0 hc0 hA0 hl0 ⟨x1, w1⟩).mono fun e W' ⟨he, hb⟩ => ?_
  subst he
  exact ⟨_, rfl, _, _, _, [], p0 ++ ([] ++ []), [], hW', trodAll_mk1 (shut_bool Tryd.underlying4 _), trodAll_cons_mk (Below.trod laidOut (by kernel_rfl) (of_decide_eq_true (by kernel_rfl)) hk0 hb hb0) (trodAll_cons_mk (Below.trod laidOut (by kernel_rfl) (of_decide_eq_true (by kernel_rfl)) hk1 hb hb1) (trodAll_mk0)), rfl, hb.frame _, fun h => by cases h⟩
theorem kMapsRowed : (mapsRowed Tryd.prog) = true := by kernel_rfl
theorem kStops : (Tryd.prog.stops == []) = true := by kernel_rfl
theorem kKnobs : (Tryd.prog.stopKnobs == []) = true := by kernel_rfl
theorem kInPlace : (Rows.logDoesRow.inPlace == Tryd.prog.inPlace 3) = true := by kernel_rfl
theorem kUnfollowed : (Rows.logDoesRow.unfollowed == Tryd.prog.unfollowed 3) = true := by kernel_rfl
theorem kRecurses : (Rows.logDoesRow.recurses == Tryd.prog.recurses 3) = true := by kernel_rfl
theorem kNamed : (Rows.logDoesRow.named == Tryd.prog.varsNamed 3) = true := by kernel_rfl
theorem kPlainKeys : (Rows.logDoesRow.plainKeys == Tryd.prog.plainKeys) = true := by kernel_rfl
theorem kHeard : (Tryd.prog.stopsHeard) = true := by kernel_rfl
theorem kEnter : (Tryd.prog.mayEnter) = true := by kernel_rfl
theorem kLifted : (Rows.logDoesRow.lifted == Tryd.prog.liftsFinal) = true := by kernel_rfl
theorem facts : joinedFacts Tryd.prog 3 Tryd.f3 Rows.logDoesSpec Rows.logDoesRow = true := by
  unfold joinedFacts
  rw [laidOut, kMapsRowed, kStops, kKnobs, kInPlace, kUnfollowed, kRecurses, kNamed, kPlainKeys, kHeard, kEnter, kLifted]
  kernel_rfl
theorem holds : Rows.logDoesRow.holds Tryd.pinned (OpenSpec.ofChange Rows.logDoesSpec) :=
  OpenClaim.holds_of_wide 3 Tryd.f3 rfl rfl rfl rfl rfl rfl rfl ⟨rfl, rfl, rfl, rfl, rfl⟩ rfl rfl rfl rfl rfl (by kernel_rfl) Tryd.func3 facts
    (of_decide_eq_true (by kernel_rfl)) (by unfold Func.isWrapper; first | (rw [if_pos (by decide +kernel)]; kernel_rfl) | (rw [if_neg (by decide +kernel)]; exact ⟨rfl, rfl⟩))
    (fun os started H enc _ => lifted os started H enc)
theorem proved : Rows.LogDoesCardSaid :=
  Claim7.holds_tied_plain_at .later [] [.data] true (true, "f63feafa4a0de6dec7dce46cdeb064020cdbf5f36c4e0c2c7cecbbfd01a2cd45") false holds (fun _ h => by cases h) (by kernel_rfl) (fun _ h => by cases h) logDoes_row_tie rfl ⟨rfl, rfl⟩ (by kernel_rfl) rfl
    (fun f fn hf hfn => by
      obtain rfl : f = 3 := Option.some.inj ((show Tryd.prog.funcNamed "bushel/bushellaw22.LogDoes" = some 3 by kernel_rfl).symm.trans hf) |>.symm
      obtain rfl : fn = Tryd.f3 := (Option.some.inj (Tryd.func3.symm.trans hfn)).symm
      exact ⟨by kernel_rfl, fun j t ht => by
        rw [Tryd.params3] at ht
        have hm : t ∈ ([22, 23] : List TypeId) := by simpa using Array.mem_of_getElem? ht
        have hall : (([22, 23] : List TypeId).all fun u => !Tryd.prog.wantsStandIn u) = true := by kernel_rfl
        exact (show Tryd.prog.wantsStandIn t = false by simpa using List.all_eq_true.1 hall t hm)⟩)
    (by kernel_rfl)
#print axioms proved
end Go.Proofs.YtjdimgigbgafbaaDoor.logDoesP
