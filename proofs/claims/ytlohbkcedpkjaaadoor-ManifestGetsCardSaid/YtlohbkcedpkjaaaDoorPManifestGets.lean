/-
  manifest.Get returns the specified manifest or error for the sector of any sheet and for any bytes.
-/
import Derived.Test.YtlohbkcedpkjaaaDoorRows
import Derived.Test.YtlohbkcedpkjaaaDoorTie
import Derived.Test.YtlohbkcedpkjaaaDoorCards
import Derived.Test.YtlohbkcedpkjaaaDoorBase
import Derived.Test.YtlohbkcedpkjaaaDoorLManifestGets
import Derived.WalkKit
import Derived.ProofKit
import Derived.Lay
import Derived.LaidMore
import Derived.Lib.LaidTab
import Derived.SevenTiedAt
import Derived.OpenVars
import Derived.Stop.Joined
namespace Go.Proofs.YtlohbkcedpkjaaaDoor.manifestGetsP
open Go Go.ChangeShapes Go.WideShapes Go.ChangeAt Go.RowKit
set_option linter.unusedVariables false
set_option maxRecDepth 100000
theorem own : ownKnob Tryd.prog.godebug = none := by kernel_rfl
theorem laidOut : laidOutB Tryd.prog = true := by kernel_rfl
theorem c_3 : Tryd.prog.cellsOf 3 = Lay.size (Nm .i64) := by kernel_rfl
theorem op_3 : Opens Tryd.prog 3 (Nm .i64) := opens_int Tryd.underlying3
theorem c_22 : Tryd.prog.cellsOf 22 = Lay.size (Nm .u64) := by kernel_rfl
theorem op_22 : Opens Tryd.prog 22 (Nm .u64) := opens_int Tryd.underlying22
theorem c_5 : Tryd.prog.cellsOf 5 = Lay.size (Nm .u8) := by kernel_rfl
theorem op_5 : Opens Tryd.prog 5 (Nm .u8) := opens_int Tryd.underlying5
theorem c_23 : Tryd.prog.cellsOf 23 = Lay.size (List (Nm .u8)) := by kernel_rfl
theorem op_23 : Opens Tryd.prog 23 (List (Nm .u8)) := opens_slice Tryd.underlying23 op_5 c_5 (by decide)
theorem c_25 : Tryd.prog.cellsOf 25 = Lay.size ((Nm .i64) × (Nm .u64) × (Nm .u64) × (List (Nm .u8))) := by kernel_rfl
theorem op_25 : Opens Tryd.prog 25 ((Nm .i64) × (Nm .u64) × (Nm .u64) × (List (Nm .u8))) := opens_struct Tryd.underlying25 (opensF_cons rfl op_3 c_3 (opensF_cons rfl op_22 c_22 (opensF_cons rfl op_22 c_22 (opensF_one rfl op_23 c_23) rfl) rfl) rfl) c_25
def laidL : List (String × DataW Unit) := [("bushel/crc.step", Rows.laid_bushel_crc_step)]
theorem laidL_tabs (W : World) (h : laidMetH Tryd.prog laidL W) : Tab W := by
  rw [MakeChecks.laidMetH_plain _ _ _ (by kernel_rfl)] at h
  have ht : Lib.TabIs Tryd.prog W "bushel/crc.step" .u32 (Crc.tab.map fun n : Nat => (n : Int)) := Lib.tabIs_of_head (g := 0) (by kernel_rfl) (by kernel_rfl) Tryd.underlying120 Tryd.underlying61 (by kernel_rfl) (by kernel_rfl) (rest := []) h
  intro j hj
  have h16 : Crc.tab.length = 16 := rfl
  have := ht.cell (g := 0) (by kernel_rfl) j (by rw [List.length_map, h16]; exact hj)
  rw [this]
  simp [List.getD, show j < Crc.tab.length from hj]
theorem lifted (os : Os) (started : os.Started) (H : Type) (enc : TypeId × Value → H) :
    ReturnsInHanded {} Tryd.checked os 3 .any (fun w args => (Rows.manifestGetsSpec.pre enc Tryd.prog Tryd.f3 [] false w args ∧ laidMetH Tryd.prog laidL w) ∧ sizedMet enc Tryd.prog Tryd.f3 (OpenSpec.ofChange Rows.manifestGetsSpec) false w args) (Rows.manifestGetsSpec.post enc Tryd.prog Tryd.f3 false true false false) := by
  refine returnsInHanded_of_change_and (C := Tryd.checked) (X := fun w _ => laidMetH Tryd.prog laidL w) (fun _ _ _ hh h => h.of_heap hh) own started (by kernel_rfl) Tryd.func3
    (ChangeSpec.witness_shaped (enc := enc) (C := Tryd.checked) (os := os) (X := fun w _ => laidMetH Tryd.prog laidL w) false (World.laidAll Tryd.prog os laidL) #[.agg #[.int .i64 0, .int .u64 0, .int .u64 0, .slice none 0 0], .slice none 0 0] 8 (World.laidAll_os _ _ _)
      (World.shaped_of_ZipB (by kernel_rfl) (by kernel_rfl)) (by kernel_rfl) (by kernel_rfl) (by kernel_rfl)
      (by rw [MakeChecks.laidMetH_plain _ _ _ (by kernel_rfl)]; exact laidMet_laidAll _ (by kernel_rfl) (by kernel_rfl))) ?_
  intro W base args ds gs before hval0 hW _ _ hL _
  have hval : ∀ (j : Nat) t v, Tryd.f3.params[j]? = some t → args[j]? = some v → Value.okWide Tryd.prog W .any base t v := hval0
  have hW' := hW
  obtain ⟨p, q, hA0, hV, rfl, hfz, hnd⟩ := hW
  have hA : DataW.TrodAll enc Tryd.prog W 0 (fun _ => true) true Tryd.f3.params.toList args.toList ds p := hA0
  rw [Tryd.params3] at hA hval
  obtain ⟨v0, vs0, d0, ds0, p0, q0, hargs, rfl, rfl, h0, r0⟩ := trodAll_cons hA
  obtain ⟨v1, vs1, d1, ds1, p1, q1, rfl, rfl, rfl, h1, r1⟩ := trodAll_cons r0
  obtain ⟨rfl, rfl, rfl⟩ := trodAll_nil r1
  obtain rfl : args = #[v0, v1] := by cases args; simp_all
  obtain ⟨rfl, rfl⟩ := trodVars_none hV
  have hlt : ∀ x ∈ p0 ++ p1, x.block < W.heap.size := fun x hx => hW'.lt x (by simpa using hx)
  have hb0 : ∀ x ∈ p0, x.block < W.heap.size := fun x hx => hlt x (by simp [hx])
  have hk0 : DataW.Trod enc Tryd.prog W 0 (fun _ => true) true 25 v0 d0 p0 := h0
  have hb1 : ∀ x ∈ p1, x.block < W.heap.size := fun x hx => hlt x (by simp [hx])
  have hk1 : DataW.Trod enc Tryd.prog W 0 (fun _ => true) true 23 v1 d1 p1 := h1
  obtain ⟨vs0', a0, rfl, hl0⟩ := arg_struct op_25 Tryd.underlying25 (hval 0 25 v0 rfl rfl) h0 hb0
  obtain ⟨A1, n1, c1, xs1, rfl, hn1, hc1, hA1, hl1⟩ := arg_slice op_23 Tryd.underlying23 (hval 1 23 v1 rfl rfl) h1 hb1
  clear hA0 hval0 hlt
  have hT := laidL_tabs W hL
  refine (law_ManifestGets W hT vs0' a0 hl0 A1 n1 c1 xs1 hn1 hc1 hA1 hl1).mono fun e W' ⟨he, hb⟩ => ?_
  subst he
  exact ⟨_, rfl, _, _, _, [], p0 ++ (p1 ++ []), [], hW', trodAll_mk1 (shut_bool Tryd.underlying4 _), trodAll_cons_mk (Below.trod laidOut (by kernel_rfl) (of_decide_eq_true (by kernel_rfl)) hk0 hb hb0) (trodAll_cons_mk (Below.trod laidOut (by kernel_rfl) (of_decide_eq_true (by kernel_rfl)) hk1 hb hb1) (trodAll_mk0)), rfl, hb.frame _, fun h => by cases h⟩
theorem holds : Rows.manifestGetsRow.holds Tryd.pinned (OpenSpec.ofChange Rows.manifestGetsSpec) :=
  OpenClaim.holds_of_wide 3 Tryd.f3 rfl rfl rfl rfl rfl rfl rfl ⟨rfl, rfl, rfl, rfl, rfl⟩ rfl rfl rfl rfl rfl (by kernel_rfl) Tryd.func3 (by kernel_rfl)
    (of_decide_eq_true (by kernel_rfl)) (by unfold Func.isWrapper; first | (rw [if_pos (by decide +kernel)]; kernel_rfl) | (rw [if_neg (by decide +kernel)]; exact ⟨rfl, rfl⟩))
    (fun os started H enc _ => lifted os started H enc)
/-- manifest.Get returns the specified manifest or error for the sector of any sheet and for any bytes. -/
theorem proved : Rows.ManifestGetsCardSaid :=
  Claim7.holds_tied_plain_at .later [] [.data] true (true, "6fc25b0f9070b2d37a1b60a6322dad2730bd4857873dc6b1d058e867066edba7") false holds (fun _ h => by cases h) (by kernel_rfl) (fun _ h => by cases h) manifestGets_row_tie rfl ⟨rfl, rfl⟩ (by kernel_rfl) rfl
    (fun f fn hf hfn => by
      obtain rfl : f = 3 := Option.some.inj ((show Tryd.prog.funcNamed "bushel/bushellaw23.ManifestGets" = some 3 by kernel_rfl).symm.trans hf) |>.symm
      obtain rfl : fn = Tryd.f3 := (Option.some.inj (Tryd.func3.symm.trans hfn)).symm
      exact ⟨by kernel_rfl, fun j t ht => by
        rw [Tryd.params3] at ht
        have hm : t ∈ ([25, 23] : List TypeId) := by simpa using Array.mem_of_getElem? ht
        have hall : (([25, 23] : List TypeId).all fun u => !Tryd.prog.wantsStandIn u) = true := by kernel_rfl
        exact (show Tryd.prog.wantsStandIn t = false by simpa using List.all_eq_true.1 hall t hm)⟩)
    (by kernel_rfl)
#print axioms proved
end Go.Proofs.YtlohbkcedpkjaaaDoor.manifestGetsP
