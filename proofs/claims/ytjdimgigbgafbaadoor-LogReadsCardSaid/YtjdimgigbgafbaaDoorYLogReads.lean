/-
  Open of the given log returns the specified records or error for any sheets in the sectors of a log, and records appended after them are found.
-/
import Derived.LaidMore
import Derived.Lay
import Derived.Lib.LaidTab
import Derived.OpenVars
import Derived.ProofKit
import Derived.SevenTiedAt
import Derived.Stop.Joined
import Derived.Test.YtjdimgigbgafbaaDoorCards
import Derived.Test.YtjdimgigbgafbaaDoorRows
import Derived.Test.YtjdimgigbgafbaaDoorTie
import Derived.WalkKit
import Derived.Test.YtjdimgigbgafbaaDoorZLogReads5
namespace Go.Proofs.YtjdimgigbgafbaaDoor.logReadsP
open Go Go.ChangeShapes Go.WideShapes Go.ChangeAt Go.RowKit
set_option linter.unusedVariables false
set_option maxRecDepth 100000
theorem own : ownKnob Tryd.prog.godebug = none := by kernel_rfl
theorem laidOut : laidOutB Tryd.prog = true := by kernel_rfl
theorem c_3 : Tryd.prog.cellsOf 3 = Lay.size (Nm .i64) := by kernel_rfl
theorem op_3 : Opens Tryd.prog 3 (Nm .i64) := opens_int Tryd.underlying3
theorem c_35 : Tryd.prog.cellsOf 35 = Lay.size (Nm .u64) := by kernel_rfl
theorem op_35 : Opens Tryd.prog 35 (Nm .u64) := opens_int Tryd.underlying35
theorem c_70 : Tryd.prog.cellsOf 70 = Lay.size (Nm .u16) := by kernel_rfl
theorem op_70 : Opens Tryd.prog 70 (Nm .u16) := opens_int Tryd.underlying70
theorem c_5 : Tryd.prog.cellsOf 5 = Lay.size (Nm .u8) := by kernel_rfl
theorem op_5 : Opens Tryd.prog 5 (Nm .u8) := opens_int Tryd.underlying5
theorem c_39 : Tryd.prog.cellsOf 39 = Lay.size (List (Nm .u8)) := by kernel_rfl
theorem op_39 : Opens Tryd.prog 39 (List (Nm .u8)) := opens_slice Tryd.underlying39 op_5 c_5 (by decide)
theorem c_4 : Tryd.prog.cellsOf 4 = Lay.size (Bool) := by kernel_rfl
theorem op_4 : Opens Tryd.prog 4 (Bool) := opens_bool Tryd.underlying4
theorem c_72 : Tryd.prog.cellsOf 72 = Lay.size ((Nm .i64) × (Nm .u64) × (Nm .u64) × (Nm .u16) × (Nm .u64) × (List (Nm .u8)) × (Bool)) := by kernel_rfl
theorem op_72 : Opens Tryd.prog 72 ((Nm .i64) × (Nm .u64) × (Nm .u64) × (Nm .u16) × (Nm .u64) × (List (Nm .u8)) × (Bool)) := opens_struct Tryd.underlying72 (opensF_cons rfl op_3 c_3 (opensF_cons rfl op_35 c_35 (opensF_cons rfl op_35 c_35 (opensF_cons rfl op_70 c_70 (opensF_cons rfl op_35 c_35 (opensF_cons rfl op_39 c_39 (opensF_one rfl op_4 c_4) rfl) rfl) rfl) rfl) rfl) rfl) c_72
theorem c_68 : Tryd.prog.cellsOf 68 = Lay.size (List ((Nm .i64) × (Nm .u64) × (Nm .u64) × (Nm .u16) × (Nm .u64) × (List (Nm .u8)) × (Bool))) := by kernel_rfl
theorem op_68 : Opens Tryd.prog 68 (List ((Nm .i64) × (Nm .u64) × (Nm .u64) × (Nm .u16) × (Nm .u64) × (List (Nm .u8)) × (Bool))) := opens_slice Tryd.underlying68 op_72 c_72 (by decide)
theorem c_69 : Tryd.prog.cellsOf 69 = Lay.size (Vec 2 (Nm .i64)) := by kernel_rfl
theorem op_69 : Opens Tryd.prog 69 (Vec 2 (Nm .i64)) := opens_array Tryd.underlying69 op_3 c_3 c_69
def laidL : List (String × DataW Unit) := [("bushel/crc.step", Rows.laid_bushel_crc_step)]
theorem laidL_tabs (W : World) (h : laidMetH Tryd.prog laidL W) : Tab W := by
  rw [MakeChecks.laidMetH_plain _ _ _ (by kernel_rfl)] at h
  have ht : Lib.TabIs Tryd.prog W "bushel/crc.step" .u32 (Crc.tab.map fun n : Nat => (n : Int)) := Lib.tabIs_of_head (g := 0) (by kernel_rfl) (by kernel_rfl) Tryd.underlying137 Tryd.underlying23 (by kernel_rfl) (by kernel_rfl) (rest := []) h
  intro j hj
  have h16 : Crc.tab.length = 16 := rfl
  have := ht.cell (g := 0) (by kernel_rfl) j (by rw [List.length_map, h16]; exact hj)
  rw [this]
  simp [List.getD, show j < Crc.tab.length from hj]
theorem lifted (os : Os) (started : os.Started) (H : Type) (enc : TypeId × Value → H) :
    ReturnsInHanded {} Tryd.checked os 4 .any (fun w args => (Rows.logReadsSpec.pre enc Tryd.prog Tryd.f4 [] false w args ∧ laidMetH Tryd.prog laidL w) ∧ sizedMet enc Tryd.prog Tryd.f4 (OpenSpec.ofChange Rows.logReadsSpec) false w args) (Rows.logReadsSpec.post enc Tryd.prog Tryd.f4 false true false false) := by
  refine returnsInHanded_of_change_and (C := Tryd.checked) (X := fun w _ => laidMetH Tryd.prog laidL w) (fun _ _ _ hh h => h.of_heap hh) own started (by kernel_rfl) Tryd.func4
    (ChangeSpec.witness_shaped (enc := enc) (C := Tryd.checked) (os := os) (X := fun w _ => laidMetH Tryd.prog laidL w) false (World.laidAll Tryd.prog os laidL) #[.slice none 0 0, .agg #[.int .i64 0, .int .i64 0], .int .u64 0] 8 (World.laidAll_os _ _ _)
      (World.shaped_of_ZipB (by kernel_rfl) (by kernel_rfl)) (by kernel_rfl) (by kernel_rfl) (by kernel_rfl)
      (by rw [MakeChecks.laidMetH_plain _ _ _ (by kernel_rfl)]; exact laidMet_laidAll _ (by kernel_rfl) (by kernel_rfl))) ?_
  intro W base args ds gs before hval0 hW _ _ hL _
  have hval : ∀ (j : Nat) t v, Tryd.f4.params[j]? = some t → args[j]? = some v → Value.okWide Tryd.prog W .any base t v := hval0
  have hW' := hW
  obtain ⟨p, q, hAT, hV, rfl, hfz, hnd⟩ := hW
  have hA : DataW.TrodAll enc Tryd.prog W 0 (fun _ => true) true Tryd.f4.params.toList args.toList ds p := hAT
  rw [Tryd.params4] at hA hval
  obtain ⟨v0, vs0, d0, ds0, p0, q0, hargs, rfl, rfl, h0, r0⟩ := trodAll_cons hA
  obtain ⟨v1, vs1, d1, ds1, p1, q1, rfl, rfl, rfl, h1, r1⟩ := trodAll_cons r0
  obtain ⟨v2, vs2, d2, ds2, p2, q2, rfl, rfl, rfl, h2, r2⟩ := trodAll_cons r1
  obtain ⟨rfl, rfl, rfl⟩ := trodAll_nil r2
  obtain rfl : args = #[v0, v1, v2] := by cases args; simp_all
  obtain ⟨rfl, rfl⟩ := trodVars_none hV
  have hlt : ∀ x ∈ p0 ++ p1 ++ p2, x.block < W.heap.size := fun x hx => hW'.lt x (by simpa using hx)
  have hb0 : ∀ x ∈ p0, x.block < W.heap.size := fun x hx => hlt x (by simp [hx])
  have hk0 : DataW.Trod enc Tryd.prog W 0 (fun _ => true) true 68 v0 d0 p0 := h0
  have hb1 : ∀ x ∈ p1, x.block < W.heap.size := fun x hx => hlt x (by simp [hx])
  have hk1 : DataW.Trod enc Tryd.prog W 0 (fun _ => true) true 69 v1 d1 p1 := h1
  have hb2 : ∀ x ∈ p2, x.block < W.heap.size := fun x hx => hlt x (by simp [hx])
  have hk2 : DataW.Trod enc Tryd.prog W 0 (fun _ => true) true 35 v2 d2 p2 := h2
  obtain ⟨A0, n0, c0, xs0, rfl, hn0, hc0, hA0, hl0⟩ := arg_slice op_68 Tryd.underlying68 (hval 0 68 v0 rfl rfl) h0 hb0
  obtain ⟨vs1', a1, rfl, hl1⟩ := arg_array op_69 Tryd.underlying69 (hval 1 69 v1 rfl rfl) h1 hb1
  obtain ⟨x2, rfl, rfl, rfl, w2⟩ := open_int Tryd.underlying35 (hval 2 35 v2 rfl rfl) h2
  clear hAT hval0 hlt
  have hT := laidL_tabs W hL
  refine (law_LogReads W hT A0 n0 c0 xs0 hn0 hc0 hA0 hl0 vs1' a1 hl1 ⟨x2, w2⟩).mono fun e W' ⟨he, hb⟩ => ?_
  subst he
  exact ⟨_, rfl, _, _, _, [], p0 ++ (p1 ++ ([] ++ [])), [], hW', trodAll_mk1 (shut_bool Tryd.underlying4 _), trodAll_cons_mk (Below.trod laidOut (by kernel_rfl) (of_decide_eq_true (by kernel_rfl)) hk0 hb hb0) (trodAll_cons_mk (Below.trod laidOut (by kernel_rfl) (of_decide_eq_true (by kernel_rfl)) hk1 hb hb1) (trodAll_cons_mk (Below.trod laidOut (by kernel_rfl) (of_decide_eq_true (by kernel_rfl)) hk2 hb hb2) (trodAll_mk0))), rfl, hb.frame _, fun h => by cases h⟩
theorem kMapsRowed : (mapsRowed Tryd.prog) = true := by kernel_rfl
theorem kStops : (Tryd.prog.stops == []) = true := by kernel_rfl
theorem kKnobs : (Tryd.prog.stopKnobs == []) = true := by kernel_rfl
theorem kInPlace : (Rows.logReadsRow.inPlace == Tryd.prog.inPlace 4) = true := by kernel_rfl
theorem kUnfollowed : (Rows.logReadsRow.unfollowed == Tryd.prog.unfollowed 4) = true := by kernel_rfl
theorem kRecurses : (Rows.logReadsRow.recurses == Tryd.prog.recurses 4) = true := by kernel_rfl
theorem kNamed : (Rows.logReadsRow.named == Tryd.prog.varsNamed 4) = true := by kernel_rfl
theorem kPlainKeys : (Rows.logReadsRow.plainKeys == Tryd.prog.plainKeys) = true := by kernel_rfl
theorem kHeard : (Tryd.prog.stopsHeard) = true := by kernel_rfl
theorem kEnter : (Tryd.prog.mayEnter) = true := by kernel_rfl
theorem kLifted : (Rows.logReadsRow.lifted == Tryd.prog.liftsFinal) = true := by kernel_rfl
theorem facts : joinedFacts Tryd.prog 4 Tryd.f4 Rows.logReadsSpec Rows.logReadsRow = true := by
  unfold joinedFacts
  rw [laidOut, kMapsRowed, kStops, kKnobs, kInPlace, kUnfollowed, kRecurses, kNamed, kPlainKeys, kHeard, kEnter, kLifted]
  kernel_rfl
theorem holds : Rows.logReadsRow.holds Tryd.pinned (OpenSpec.ofChange Rows.logReadsSpec) :=
  OpenClaim.holds_of_wide 4 Tryd.f4 rfl rfl rfl rfl rfl rfl rfl ⟨rfl, rfl, rfl, rfl, rfl⟩ rfl rfl rfl rfl rfl (by kernel_rfl) Tryd.func4 facts
    (of_decide_eq_true (by kernel_rfl)) (by unfold Func.isWrapper; first | (rw [if_pos (by decide +kernel)]; kernel_rfl) | (rw [if_neg (by decide +kernel)]; exact ⟨rfl, rfl⟩))
    (fun os started H enc _ => lifted os started H enc)
theorem proved : Rows.LogReadsCardSaid :=
  Claim7.holds_tied_plain_at .later [] [.data] true (true, "f63feafa4a0de6dec7dce46cdeb064020cdbf5f36c4e0c2c7cecbbfd01a2cd45") false holds (fun _ h => by cases h) (by kernel_rfl) (fun _ h => by cases h) logReads_row_tie rfl ⟨rfl, rfl⟩ (by kernel_rfl) rfl
    (fun f fn hf hfn => by
      obtain rfl : f = 4 := Option.some.inj ((show Tryd.prog.funcNamed "bushel/bushellaw22.LogReads" = some 4 by kernel_rfl).symm.trans hf) |>.symm
      obtain rfl : fn = Tryd.f4 := (Option.some.inj (Tryd.func4.symm.trans hfn)).symm
      exact ⟨by kernel_rfl, fun j t ht => by
        rw [Tryd.params4] at ht
        have hm : t ∈ ([68, 69, 35] : List TypeId) := by simpa using Array.mem_of_getElem? ht
        have hall : (([68, 69, 35] : List TypeId).all fun u => !Tryd.prog.wantsStandIn u) = true := by kernel_rfl
        exact (show Tryd.prog.wantsStandIn t = false by simpa using List.all_eq_true.1 hall t hm)⟩)
    (by kernel_rfl)
#print axioms proved
end Go.Proofs.YtjdimgigbgafbaaDoor.logReadsP
