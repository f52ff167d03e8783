/-
  manifest.Choose returns the specified manifest of any two sectors, and prefers the larger Version in either slot.
-/
import Derived.Test.YtlohbkcedpkjaaaDoorRows
import Derived.Test.YtlohbkcedpkjaaaDoorTie
import Derived.Test.YtlohbkcedpkjaaaDoorCards
import Derived.Test.YtlohbkcedpkjaaaDoorBase
import Derived.Test.YtlohbkcedpkjaaaDoorLManifestChooses
import Derived.WalkKit
import Derived.ProofKit
import Derived.Lay
import Derived.LaidMore
import Derived.Lib.LaidTab
import Derived.SevenTiedAt
import Derived.OpenVars
import Derived.Stop.Joined
namespace Go.Proofs.YtlohbkcedpkjaaaDoor.manifestChoosesP
open Go Go.ChangeShapes Go.WideShapes Go.ChangeAt Go.RowKit
set_option linter.unusedVariables false
set_option maxRecDepth 100000
theorem own : ownKnob Tryd.prog.godebug = none := by kernel_rfl
theorem laidOut : laidOutB Tryd.prog = true := by kernel_rfl
theorem c_5 : Tryd.prog.cellsOf 5 = Lay.size (Nm .u8) := by kernel_rfl
theorem op_5 : Opens Tryd.prog 5 (Nm .u8) := opens_int Tryd.underlying5
theorem c_23 : Tryd.prog.cellsOf 23 = Lay.size (List (Nm .u8)) := by kernel_rfl
theorem op_23 : Opens Tryd.prog 23 (List (Nm .u8)) := opens_slice Tryd.underlying23 op_5 c_5 (by decide)
theorem c_22 : Tryd.prog.cellsOf 22 = Lay.size (Nm .u64) := by kernel_rfl
theorem op_22 : Opens Tryd.prog 22 (Nm .u64) := opens_int Tryd.underlying22
theorem c_3 : Tryd.prog.cellsOf 3 = Lay.size (Nm .i64) := by kernel_rfl
theorem op_3 : Opens Tryd.prog 3 (Nm .i64) := opens_int Tryd.underlying3
theorem c_59 : Tryd.prog.cellsOf 59 = Lay.size ((Nm .i64) × (Nm .i64)) := by kernel_rfl
theorem op_59 : Opens Tryd.prog 59 ((Nm .i64) × (Nm .i64)) := opens_struct Tryd.underlying59 (opensF_cons rfl op_3 c_3 (opensF_one rfl op_3 c_3) rfl) c_59
theorem c_28 : Tryd.prog.cellsOf 28 = Lay.size (List ((Nm .i64) × (Nm .i64))) := by kernel_rfl
theorem op_28 : Opens Tryd.prog 28 (List ((Nm .i64) × (Nm .i64))) := opens_slice Tryd.underlying28 op_59 c_59 (by decide)
theorem c_30 : Tryd.prog.cellsOf 30 = Lay.size ((Nm .u64) × (Nm .u64) × (Nm .u64) × (Nm .i64) × (List ((Nm .i64) × (Nm .i64)))) := by kernel_rfl
theorem op_30 : Opens Tryd.prog 30 ((Nm .u64) × (Nm .u64) × (Nm .u64) × (Nm .i64) × (List ((Nm .i64) × (Nm .i64)))) := opens_struct Tryd.underlying30 (opensF_cons rfl op_22 c_22 (opensF_cons rfl op_22 c_22 (opensF_cons rfl op_22 c_22 (opensF_cons rfl op_3 c_3 (opensF_one rfl op_28 c_28) rfl) rfl) rfl) rfl) c_30
theorem c_38 : Tryd.prog.cellsOf 38 = Lay.size (Vec 2 ((Nm .u64) × (Nm .u64) × (Nm .u64) × (Nm .i64) × (List ((Nm .i64) × (Nm .i64))))) := by kernel_rfl
theorem op_38 : Opens Tryd.prog 38 (Vec 2 ((Nm .u64) × (Nm .u64) × (Nm .u64) × (Nm .i64) × (List ((Nm .i64) × (Nm .i64))))) := opens_array Tryd.underlying38 op_30 c_30 c_38
def laidL : List (String × DataW Unit) := [("bushel/crc.step", Rows.laid_bushel_crc_step)]
theorem laidL_tabs (W : World) (h : laidMetH Tryd.prog laidL W) : Tab W := by
  rw [MakeChecks.laidMetH_plain _ _ _ (by kernel_rfl)] at h
  have ht : Lib.TabIs Tryd.prog W "bushel/crc.step" .u32 (Crc.tab.map fun n : Nat => (n : Int)) := Lib.tabIs_of_head (g := 0) (by kernel_rfl) (by kernel_rfl) Tryd.underlying120 Tryd.underlying61 (by kernel_rfl) (by kernel_rfl) (rest := []) h
  intro j hj
  have h16 : Crc.tab.length = 16 := rfl
  have := ht.cell (g := 0) (by kernel_rfl) j (by rw [List.length_map, h16]; exact hj)
  rw [this]
  simp [List.getD, show j < Crc.tab.length from hj]
theorem lifted (os : Os) (started : os.Started) (H : Type) (enc : TypeId × Value → H) :
    ReturnsInHanded {} Tryd.checked os 4 .any (fun w args => (Rows.manifestChoosesSpec.pre enc Tryd.prog Tryd.f4 [] false w args ∧ laidMetH Tryd.prog laidL w) ∧ sizedMet enc Tryd.prog Tryd.f4 (OpenSpec.ofChange Rows.manifestChoosesSpec) false w args) (Rows.manifestChoosesSpec.post enc Tryd.prog Tryd.f4 false true false false) := by
  refine returnsInHanded_of_change_and (C := Tryd.checked) (X := fun w _ => laidMetH Tryd.prog laidL w) (fun _ _ _ hh h => h.of_heap hh) own started (by kernel_rfl) Tryd.func4
    (ChangeSpec.witness_shaped (enc := enc) (C := Tryd.checked) (os := os) (X := fun w _ => laidMetH Tryd.prog laidL w) false (World.laidAll Tryd.prog os laidL) #[.slice none 0 0, .slice none 0 0, .agg #[.int .u64 0, .int .u64 0, .int .u64 0, .int .i64 0, .slice none 0 0, .int .u64 0, .int .u64 0, .int .u64 0, .int .i64 0, .slice none 0 0]] 8 (World.laidAll_os _ _ _)
      (World.shaped_of_ZipB (by kernel_rfl) (by kernel_rfl)) (by kernel_rfl) (by kernel_rfl) (by kernel_rfl)
      (by rw [MakeChecks.laidMetH_plain _ _ _ (by kernel_rfl)]; exact laidMet_laidAll _ (by kernel_rfl) (by kernel_rfl))) ?_
  intro W base args ds gs before hval0 hW _ _ hL _
  have hval : ∀ (j : Nat) t v, Tryd.f4.params[j]? = some t → args[j]? = some v → Value.okWide Tryd.prog W .any base t v := hval0
  have hW' := hW
  obtain ⟨p, q, hA0, hV, rfl, hfz, hnd⟩ := hW
  have hA : DataW.TrodAll enc Tryd.prog W 0 (fun _ => true) true Tryd.f4.params.toList args.toList ds p := hA0
  rw [Tryd.params4] at hA hval
  obtain ⟨v0, vs0, d0, ds0, p0, q0, hargs, rfl, rfl, h0, r0⟩ := trodAll_cons hA
  obtain ⟨v1, vs1, d1, ds1, p1, q1, rfl, rfl, rfl, h1, r1⟩ := trodAll_cons r0
  obtain ⟨v2, vs2, d2, ds2, p2, q2, rfl, rfl, rfl, h2, r2⟩ := trodAll_cons r1
  obtain ⟨rfl, rfl, rfl⟩ := trodAll_nil r2
  obtain rfl : args = #[v0, v1, v2] := by cases args; simp_all
  obtain ⟨rfl, rfl⟩ := trodVars_none hV
  have hlt : ∀ x ∈ p0 ++ p1 ++ p2, x.block < W.heap.size := fun x hx => hW'.lt x (by simpa using hx)
  have hb0 : ∀ x ∈ p0, x.block < W.heap.size := fun x hx => hlt x (by simp [hx])
  have hk0 : DataW.Trod enc Tryd.prog W 0 (fun _ => true) true 23 v0 d0 p0 := h0
  have hb1 : ∀ x ∈ p1, x.block < W.heap.size := fun x hx => hlt x (by simp [hx])
  have hk1 : DataW.Trod enc Tryd.prog W 0 (fun _ => true) true 23 v1 d1 p1 := h1
  have hb2 : ∀ x ∈ p2, x.block < W.heap.size := fun x hx => hlt x (by simp [hx])
  have hk2 : DataW.Trod enc Tryd.prog W 0 (fun _ => true) true 38 v2 d2 p2 := h2
  obtain ⟨A0, n0, c0, xs0, rfl, hn0, hc0, hA0, hl0⟩ := arg_slice op_23 Tryd.underlying23 (hval 0 23 v0 rfl rfl) h0 hb0
  obtain ⟨A1, n1, c1, xs1, rfl, hn1, hc1, hA1, hl1⟩ := arg_slice op_23 Tryd.underlying23 (hval 1 23 v1 rfl rfl) h1 hb1
  obtain ⟨vs2', a2, rfl, hl2⟩ := arg_array op_38 Tryd.underlying38 (hval 2 38 v2 rfl rfl) h2 hb2
  clear hA0 hval0 hlt
  have hT := laidL_tabs W hL
  refine (law_ManifestChooses W hT A0 n0 c0 xs0 hn0 hc0 hA0 hl0 A1 n1 c1 xs1 hn1 hc1 hA1 hl1 vs2' a2 hl2).mono fun e W' ⟨he, hb⟩ => ?_
  subst he
  exact ⟨_, rfl, _, _, _, [], p0 ++ (p1 ++ (p2 ++ [])), [], hW', trodAll_mk1 (shut_bool Tryd.underlying4 _), trodAll_cons_mk (Below.trod laidOut (by kernel_rfl) (of_decide_eq_true (by kernel_rfl)) hk0 hb hb0) (trodAll_cons_mk (Below.trod laidOut (by kernel_rfl) (of_decide_eq_true (by kernel_rfl)) hk1 hb hb1) (trodAll_cons_mk (Below.trod laidOut (by kernel_rfl) (of_decide_eq_true (by kernel_rfl)) hk2 hb hb2) (trodAll_mk0))), rfl, hb.frame _, fun h => by cases h⟩
theorem holds : Rows.manifestChoosesRow.holds Tryd.pinned (OpenSpec.ofChange Rows.manifestChoosesSpec) :=
  OpenClaim.holds_of_wide 4 Tryd.f4 rfl rfl rfl rfl rfl rfl rfl ⟨rfl, rfl, rfl, rfl, rfl⟩ rfl rfl rfl rfl rfl (by kernel_rfl) Tryd.func4 (by kernel_rfl)
    (of_decide_eq_true (by kernel_rfl)) (by unfold Func.isWrapper; first | (rw [if_pos (by decide +kernel)]; kernel_rfl) | (rw [if_neg (by decide +kernel)]; exact ⟨rfl, rfl⟩))
    (fun os started H enc _ => lifted os started H enc)
/-- manifest.Choose returns the specified manifest of any two sectors, and prefers the larger Version in either slot. -/
theorem proved : Rows.ManifestChoosesCardSaid :=
  Claim7.holds_tied_plain_at .later [] [.data] true (true, "6fc25b0f9070b2d37a1b60a6322dad2730bd4857873dc6b1d058e867066edba7") false holds (fun _ h => by cases h) (by kernel_rfl) (fun _ h => by cases h) manifestChooses_row_tie rfl ⟨rfl, rfl⟩ (by kernel_rfl) rfl
    (fun f fn hf hfn => by
      obtain rfl : f = 4 := Option.some.inj ((show Tryd.prog.funcNamed "bushel/bushellaw23.ManifestChooses" = some 4 by kernel_rfl).symm.trans hf) |>.symm
      obtain rfl : fn = Tryd.f4 := (Option.some.inj (Tryd.func4.symm.trans hfn)).symm
      exact ⟨by kernel_rfl, fun j t ht => by
        rw [Tryd.params4] at ht
        have hm : t ∈ ([23, 23, 38] : List TypeId) := by simpa using Array.mem_of_getElem? ht
        have hall : (([23, 23, 38] : List TypeId).all fun u => !Tryd.prog.wantsStandIn u) = true := by kernel_rfl
        exact (show Tryd.prog.wantsStandIn t = false by simpa using List.all_eq_true.1 hall t hm)⟩)
    (by kernel_rfl)
#print axioms proved
end Go.Proofs.YtlohbkcedpkjaaaDoor.manifestChoosesP
