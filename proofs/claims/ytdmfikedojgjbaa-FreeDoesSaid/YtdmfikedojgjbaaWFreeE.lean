/-
  The reference's Do; the law's is; awake; spaces that are none.
-/
import Derived.Test.YtdmfikedojgjbaaWFreeD
import Derived.Test.YtdmfikedojgjbaaRowsOf
namespace Go.Proofs.Ytdmfikedojgjbaa
set_option maxRecDepth 100000
open Go.RowKit H
set_option linter.unusedVariables false
theorem rfdo {w : World} {N : Nat} (A : Option Addr) (c : Nat) (R : List Int) (ho : w.ownsRow N 3 1 (.slice A R.length c) R.length (nums .i64 R)) (hN : N ≤ w.heap.size) (hm : R.length ≤ 1000000) (a : Int) (lA : Option Addr) (ln lc : Nat) (live : List Int) (hr : Reads w w.heap.size 1 lA ln (nums .i64 live)) (hn : ln ≤ 1000000) (hlv : ∀ x ∈ live, -9223372036854775808 ≤ x ∧ x ≤ 9223372036854775807) :
    Calls Try.prog 40 #[rsv A R.length c, .agg #[.int .i64 a, .slice lA ln lc]] w fun e w' => ∃ A' c', e = .returned (.tuple #[rsv A' (doF R a live).1.length c', .int .i64 (doF R a live).2.1, .int .i64 (doF R a live).2.2]) ∧ w'.ownsRow N 3 1 (.slice A' (doF R a live).1.length c') (doF R a live).1.length (nums .i64 (doF R a live).1) ∧ Ext w w' ∧ ∀ g, Value.ownBlock (.slice A' (doF R a live).1.length c') = some g → Value.ownBlock (.slice A R.length c) = some g ∨ w.heap.size ≤ g := by
  have hll : live.length = ln := by have := hr.1; simpa [nums] using this
  have hra := Reads.of_own ho
  refine enter Try.func40 rfl (by kernel_rfl) ?_
  refine J.seq ?_
  refine J.region ?_
  -- box
  refine L.boxA (l := [_]) rfl rfl ?_
  intro b2 w2 hb2 hs2 hk2 he2
  -- box
  refine L.boxA (l := [_, _]) rfl rfl ?_
  intro b3 w3 hb3 hs3 hk3 he3
  -- alloc
  refine L.alloc rfl zr_71 ?_
  intro b4 w4 hb4 hs4 hk4 he4
  replace hk2 := (hk2.ext he3).ext he4
  replace hk3 := hk3.ext he4
  have he04 := (he2.trans he3).trans he4
  have n24 : some b2 ≠ some b4 := by intro e; injection e with e; omega
  have n34 : some b3 ≠ some b4 := by intro e; injection e with e; omega
  have g4 : ∀ g, some b4 = some g → w.heap.size ≤ g := by intro g hg; injection hg with hg; omega
  refine L.va rfl (X.assign (by conv => lhs; whnf)) ?_
  refine L.va rfl (X.assign (by conv => lhs; whnf)) ?_
  refine L.nil ?_
  refine J.seq ?_
  refine J.region ?_
  -- buildSlice
  refine L.bslice (vs := []) rfl Evs.nil rfl rfl rfl rfl Try.underlying62 sz_3 zr_3 (by decide) ?_
  intro b5 w5 hb5 hs5 hk5 he5
  have ho5 : w5.ownsRow w.heap.size 3 1 (.slice (some ⟨b5, 0, none⟩) 0 0) 0 (nums .i64 []) := blk_own1 (q := 0) hk5 (by omega : w.heap.size ≤ b5) (by decide) rfl
  have he05 := he04.trans he5
  have hk25 := hk2.ext he5
  have hk35 := hk3.ext he5
  have hk45 := hk4.ext he5
  have hR5 := hra.ext he05
  refine L.va rfl (X.fieldAddr rfl Try.underlying71 rfl sz_62 (by decide)) ?_
  refine L.va rfl (X.load rfl sc_62 (by first | exact Ld.blk hk25 rfl)) ?_
  -- append
  refine L.appendQ (q := R.length) (ys := R) rfl rfl rfl Try.underlying62 el_3 (ho5) (hR5) (by omega) (by simp) (by unfold maxLen; omega) (by omega) ?_
  intro kA kc w6 ho6 hg6 hbl6 hor6
  have n5 : ∀ {b : Nat}, b ≠ b5 → some b ≠ Value.ownBlock (.slice (some ⟨b5, 0, none⟩) 0 0) := fun hb e => by
    have e : some _ = some b5 := e
    injection e with e
    exact hb e
  have hk26 := hk25.grown hg6 (n5 (by omega))
  have hk36 := hk35.grown hg6 (n5 (by omega))
  have hk46 := hk45.grown hg6 (n5 (by omega))
  have he06 : Ext w w6 := he05.grw hg6 (fun g hg => (ho5.lt g hg).1)
  have hrK := Reads.of_own ho6
  refine L.va rfl (X.assign (by conv => lhs; whnf)) ?_
  refine L.nil ?_
  refine J.seq ?_
  refine J.seq ?_
  refine J.region ?_
  refine L.va rfl (X.fieldAddr rfl Try.underlying76 rfl sz_3 (by decide)) ?_
  refine L.va rfl (X.load rfl sc_3 (by first | exact Ld.blk hk26 rfl | exact Ld.blk hk36 rfl | exact Ld.num hrK (by omega))) ?_
  refine L.va rfl (X.eql rfl rfl) ?_
  refine L.nil ?_
  -- cond
  refine J.dec rfl (fun h0 => ?_) (fun h0 => ?_)
  · refine J.seq ?_
    refine J.seq ?_
    refine J.region ?_
    refine L.va rfl (X.assign (by conv => lhs; whnf)) ?_
    refine L.nil ?_
    refine J.block ?_
    -- loop
    refine J.loop (X := Nat) [5, 6, 8, 20, 21, 22, 23, 24, 25, 26, 27, 28, 29, 30, 31, 32, 33, 34, 35, 36, 37] (fun i => [(8, .int .i64 (i : Int))]) (fun i w' => w' = w6 ∧ i ≤ R.length ∧ ∀ j, j < i → R.getD j 0 ≠ 0) (fun i => R.length - i) (0) (At1 (by first | rfl | exact at_int rfl (by omega) | exact at_slice rfl (by omega) | exact at_int rfl (by simp))) ?_ ?_
    · exact ⟨rfl, Nat.zero_le _, fun j hj => absurd hj (Nat.not_lt_zero _)⟩
    · rintro i g w7 ⟨rfl, hi, hall⟩
      refine J.seq ?_
      refine J.seq ?_
      refine J.region ?_
      refine L.va rfl (X.move (by conv => lhs; whnf)) ?_
      refine L.va rfl (X.move (by conv => lhs; whnf)) ?_
      refine L.va rfl (X.len rfl Try.underlying62) ?_
      refine L.va rfl (X.lss rfl rfl) ?_
      refine L.nil ?_
      -- cond
      refine J.dec rfl (fun hlt => ?_) (fun hlt => ?_)
      · have hil : i < R.length := by omega
        refine J.skip ?_
        refine J.seq ?_
        refine J.block ?_
        refine J.seq ?_
        refine J.region ?_
        refine L.va rfl (X.move (by conv => lhs; whnf)) ?_
        refine L.va rfl (X.move (by conv => lhs; whnf)) ?_
        refine L.va rfl ((by first | exact X.index1n rfl rfl Try.underlying62 sz_3 (by first | exact Option.some_ne_none _ | exact hrK.some_ (by omega)) (by omega) | exact X.index1 rfl rfl Try.underlying62 sz_3 (by first | exact Option.some_ne_none _ | exact hrK.some_ (by omega)) (by omega))) ?_
        refine L.va rfl (X.load rfl sc_3 (by first | exact Ld.blk hk26 rfl | exact Ld.blk hk36 rfl | exact Ld.num hrK (by omega))) ?_
        refine L.va rfl (X.eql rfl rfl) ?_
        refine L.nil ?_
        -- cond
        refine J.dec rfl (fun hz => ?_) (fun hz => ?_)
        · have hff := ffree_eq hil hz hall
          have eD : doF R a live = (R.set i 2, ((i : Nat) : Int) + 1, 0) := by unfold doF; rw [if_pos h0, if_pos (by omega), hff]
          rw [eD]
          refine J.seq ?_
          refine J.region ?_
          refine L.va rfl (X.move (by conv => lhs; whnf)) ?_
          refine L.va rfl (X.move (by conv => lhs; whnf)) ?_
          refine L.va rfl ((by first | exact X.index1n rfl rfl Try.underlying62 sz_3 (by first | exact Option.some_ne_none _ | exact hrK.some_ (by omega)) (by omega) | exact X.index1 rfl rfl Try.underlying62 sz_3 (by first | exact Option.some_ne_none _ | exact hrK.some_ (by omega)) (by omega))) ?_
          -- store
          refine L.storeON rfl rfl (by conv => lhs; whnf) sz_3 (ho6) (by omega) ?_
          intro w8 ho8 hg8 hbl8 hs8
          have hk48 := hk46.grown hg8 (fun e => own_blk_ne ho6 hk46 (by decide) e.symm)
          refine L.nil ?_
          refine J.seq ?_
          refine J.region ?_
          refine L.va rfl (X.move (by conv => lhs; whnf)) ?_
          refine L.va rfl (X.build (l := [_]) (Evs.cons (by conv => lhs; whnf) Evs.nil) (bld_run Try.underlying71 (bp_71 Try.underlying71) zr_71 rfl)) ?_
          refine L.va rfl (X.move (by conv => lhs; whnf)) ?_
          refine L.va rfl (X.add rfl rfl (by omega)) ?_
          -- store
          refine L.storeAgg (vs := [_]) rfl rfl rfl rfl sz_71 (hk48) rfl ?_
          intro w9 hk9 hg9 hs9
          refine L.va rfl (X.assign (by conv => lhs; whnf)) ?_
          refine L.va rfl (X.assign (by conv => lhs; whnf)) ?_
          refine L.nil ?_
          -- ret
          refine J.ret ?_
          refine inB_ret <|  thn_ret <|  thn_ret <|  inB_ret <|  thn_ret <|  thn_ret <| ?_
          -- results [['ResultVar.cell', 4, 71], ['ResultVar.tmp', 5], ['ResultVar.tmp', 6]]
          have he8 : Ext w w8 := he06.grw hg8 (fun g hg => (ho6.lt g hg).1)
          refine finCTT rfl (run_cell hk9 Try.underlying71 rfl (by kernel_rfl)) ?_
          refine ⟨kA, kc, ?_, ?_, he8.grw hg9 g4, fun g hg => .inr ?_⟩
          · dsimp only
            rw [List.length_set]
            rfl
          · dsimp only
            rw [List.length_set]
            exact (ho8.kept hg9 (.inr (own_blk_ne ho8 hk48 (by decide)))).mono hN
          · dsimp only at hg
            rw [List.length_set] at hg
            exact (ho6.lt g hg).1
        · refine J.skip ?_
          refine J.region ?_
          refine L.va rfl (X.move (by conv => lhs; whnf)) ?_
          refine L.va rfl (X.add rfl rfl (by omega)) ?_
          refine L.va rfl (X.assign (by conv => lhs; whnf)) ?_
          refine L.nil ?_
          -- loopend
          refine ⟨i + 1, At1 (by first | rfl | exact at_int rfl (by omega) | exact at_slice rfl (by omega) | exact at_int rfl (by simp)), (by (iterate 12 refine Agr.lk rfl ?_); exact Agr.lk rfl (Agr.hav rfl Agr.rfl')), ?_⟩
          refine ⟨⟨rfl, by omega, fun j hj => ?_⟩, by omega⟩
          rcases Nat.lt_or_ge j i with hj2 | hj2
          · exact hall j hj2
          · obtain rfl : j = i := by omega
            exact hz
      · have hff := ffree_none (R := R) (fun j hj => hall j (by omega))
        have eD : doF R a live = (R, 0, 12) := by unfold doF; rw [if_pos h0, if_neg (by omega)]
        rw [eD]
        refine J.exit ?_
        refine J.seq ?_
        refine J.region ?_
        refine L.va rfl ((by first | exact X.loadAgg rfl (range_l hk26) Try.underlying71 rfl (by kernel_rfl) | exact X.loadAgg rfl (range_blk hk26) Try.underlying71 rfl (by kernel_rfl) | exact X.loadAgg rfl (range_l hk36) Try.underlying71 rfl (by kernel_rfl) | exact X.loadAgg rfl (range_blk hk36) Try.underlying71 rfl (by kernel_rfl))) ?_
        -- store
        refine L.storeAgg (vs := [_]) rfl rfl rfl rfl sz_71 (hk46) rfl ?_
        intro w8 hk8 hg8 hs8
        refine L.va rfl (X.assign (by conv => lhs; whnf)) ?_
        refine L.va rfl (X.assign (by conv => lhs; whnf)) ?_
        refine L.nil ?_
        -- ret
        refine J.ret ?_
        refine thn_ret <| ?_
        -- results [['ResultVar.cell', 4, 71], ['ResultVar.tmp', 5], ['ResultVar.tmp', 6]]
        have he8 : Ext w w8 := he06.grw hg8 g4
        refine finCTT rfl (run_cell hk8 Try.underlying71 rfl (by kernel_rfl)) ?_
        exact ⟨A, c, rfl, ho.ext he8, he8, fun g hg => .inl hg⟩
  · refine J.skip ?_
    refine J.seq ?_
    refine J.seq ?_
    refine J.region ?_
    refine L.va rfl (X.fieldAddr rfl Try.underlying76 rfl sz_3 (by decide)) ?_
    refine L.va rfl (X.load rfl sc_3 (by first | exact Ld.blk hk26 rfl | exact Ld.blk hk36 rfl | exact Ld.num hrK (by omega))) ?_
    refine L.va rfl (X.eql rfl rfl) ?_
    refine L.nil ?_
    -- cond
    refine J.dec rfl (fun h2 => ?_) (fun h2 => ?_)
    · have eD : doF R a live = (dropR R, 0, 0) := by unfold doF; rw [if_neg h0, if_pos h2]
      have hdl : (dropR R).length = R.length := by simp [dropR]
      rw [eD]
      refine J.seq ?_
      refine J.seq ?_
      refine J.region ?_
      refine L.va rfl (X.assign (by conv => lhs; whnf)) ?_
      refine L.nil ?_
      refine J.block ?_
      -- loop
      refine J.loop (X := Nat) [9, 42, 43, 44, 45, 46, 47, 48, 49, 50, 51, 52, 53, 54, 55] (fun i => [(9, .int .i64 (i : Int))]) (fun i w' => i ≤ R.length ∧ w'.ownsRow w.heap.size 3 1 (.slice kA R.length kc) R.length (nums .i64 (dpI R i)) ∧ Blk w' b4 71 #[.slice none 0 0] ∧ Ext w w') (fun i => R.length - i) (0) (At1 (by first | rfl | exact at_int rfl (by omega) | exact at_slice rfl (by omega) | exact at_int rfl (by simp))) ?_ ?_
      · exact ⟨Nat.zero_le _, by rw [show dpI R 0 = R by simp [dpI, dropR]]; exact ho6, hk46, he06⟩
      · rintro i g w7 ⟨hi, ho7, hk47, he7⟩
        have hr7 := Reads.of_own ho7
        refine J.seq ?_
        refine J.seq ?_
        refine J.region ?_
        refine L.va rfl (X.move (by conv => lhs; whnf)) ?_
        refine L.va rfl (X.move (by conv => lhs; whnf)) ?_
        refine L.va rfl (X.len rfl Try.underlying62) ?_
        refine L.va rfl (X.lss rfl rfl) ?_
        refine L.nil ?_
        -- cond
        refine J.dec rfl (fun hlt => ?_) (fun hlt => ?_)
        · have hil : i < R.length := by omega
          have hst := dpI_succ R hil
          have hat := dpI_at R hil
          refine J.skip ?_
          refine J.seq ?_
          refine J.block ?_
          refine J.seq ?_
          refine J.region ?_
          refine L.va rfl (X.move (by conv => lhs; whnf)) ?_
          refine L.va rfl (X.move (by conv => lhs; whnf)) ?_
          refine L.va rfl ((by first | exact X.index1n rfl rfl Try.underlying62 sz_3 (by first | exact Option.some_ne_none _ | exact hr7.some_ (by omega)) (by omega) | exact X.index1 rfl rfl Try.underlying62 sz_3 (by first | exact Option.some_ne_none _ | exact hr7.some_ (by omega)) (by omega))) ?_
          refine L.va rfl (X.load rfl sc_3 (by first | exact Ld.num hr7 (by omega))) ?_
          refine L.va rfl (X.eql rfl rfl) ?_
          refine L.nil ?_
          -- cond
          refine J.dec rfl (fun hz => ?_) (fun hz => ?_)
          · rw [if_pos (by rw [← hat]; exact hz)] at hst
            refine J.region ?_
            refine L.va rfl (X.move (by conv => lhs; whnf)) ?_
            refine L.va rfl (X.move (by conv => lhs; whnf)) ?_
            refine L.va rfl ((by first | exact X.index1n rfl rfl Try.underlying62 sz_3 (by first | exact Option.some_ne_none _ | exact hr7.some_ (by omega)) (by omega) | exact X.index1 rfl rfl Try.underlying62 sz_3 (by first | exact Option.some_ne_none _ | exact hr7.some_ (by omega)) (by omega))) ?_
            -- store
            refine L.storeON rfl rfl (by conv => lhs; whnf) sz_3 (ho7) (by omega) ?_
            intro w8 ho8 hg8 hbl8 hs8
            rw [← hst] at ho8
            have hk48 := hk47.grown hg8 (fun e => own_blk_ne ho7 hk47 (by decide) e.symm)
            refine L.nil ?_
            refine J.region ?_
            refine L.va rfl (X.move (by conv => lhs; whnf)) ?_
            refine L.va rfl (X.add rfl rfl (by omega)) ?_
            refine L.va rfl (X.assign (by conv => lhs; whnf)) ?_
            refine L.nil ?_
            -- loopend
            refine ⟨i + 1, At1 (by first | rfl | exact at_int rfl (by omega) | exact at_slice rfl (by omega) | exact at_int rfl (by simp)), (by (iterate 15 refine Agr.lk rfl ?_); exact Agr.lk rfl (Agr.hav rfl Agr.rfl')), ?_⟩
            exact ⟨⟨by omega, ho8, hk48, he7.grw hg8 (fun g hg => (ho7.lt g hg).1)⟩, by omega⟩
          · rw [if_neg (by rw [← hat]; exact hz)] at hst
            refine J.skip ?_
            refine J.region ?_
            refine L.va rfl (X.move (by conv => lhs; whnf)) ?_
            refine L.va rfl (X.add rfl rfl (by omega)) ?_
            refine L.va rfl (X.assign (by conv => lhs; whnf)) ?_
            refine L.nil ?_
            -- loopend
            refine ⟨i + 1, At1 (by first | rfl | exact at_int rfl (by omega) | exact at_slice rfl (by omega) | exact at_int rfl (by simp)), (by (iterate 12 refine Agr.lk rfl ?_); exact Agr.lk rfl (Agr.hav rfl Agr.rfl')), ?_⟩
            exact ⟨⟨by omega, by rw [hst]; exact ho7, hk47, he7⟩, by omega⟩
        · obtain rfl : i = R.length := by omega
          rw [dpI_all] at ho7
          refine J.exit ?_
          refine J.seq ?_
          refine J.region ?_
          refine L.va rfl (X.move (by conv => lhs; whnf)) ?_
          refine L.va rfl (X.build (l := [_]) (Evs.cons (by conv => lhs; whnf) Evs.nil) (bld_run Try.underlying71 (bp_71 Try.underlying71) zr_71 rfl)) ?_
          -- store
          refine L.storeAgg (vs := [_]) rfl rfl rfl rfl sz_71 (hk47) rfl ?_
          intro w8 hk8 hg8 hs8
          refine L.va rfl (X.assign (by conv => lhs; whnf)) ?_
          refine L.va rfl (X.assign (by conv => lhs; whnf)) ?_
          refine L.nil ?_
          -- ret
          refine J.ret ?_
          refine thn_ret <| ?_
          -- results [['ResultVar.cell', 4, 71], ['ResultVar.tmp', 5], ['ResultVar.tmp', 6]]
          refine finCTT rfl (run_cell hk8 Try.underlying71 rfl (by kernel_rfl)) ?_
          refine ⟨kA, kc, ?_, ?_, he7.grw hg8 g4, fun g hg => .inr ?_⟩
          · dsimp only
            rw [hdl]
            rfl
          · dsimp only
            rw [hdl]
            exact (ho7.kept hg8 (.inr (own_blk_ne ho7 hk47 (by decide)))).mono hN
          · dsimp only at hg
            rw [hdl] at hg
            exact (ho7.lt g hg).1
    · have eD : doF R a live = if okLive R live = true then (mark (List.replicate R.length 0) live, 0, 0) else (R, 0, 11) := by unfold doF; rw [if_neg h0, if_neg h2]
      rw [eD]
      refine J.skip ?_
      refine J.seq ?_
      refine J.region ?_
      refine L.va rfl (X.move (by conv => lhs; whnf)) ?_
      refine L.va rfl (X.len rfl Try.underlying62) ?_
      -- makeSlice
      refine L.make (q := R.length) (c := R.length) rfl rfl rfl Try.underlying62 el_3 (by omega) ?_
      intro b7 w7 hb7 hs7 hk7 he7
      rw [made_nums] at hk7
      have ho7 : w7.ownsRow w.heap.size 3 1 (.slice (some ⟨b7, 0, none⟩) R.length R.length) R.length (nums .i64 (List.replicate R.length 0)) := by
        have := blk_own1 (q := R.length) hk7 (by have := he06.le; omega : w.heap.size ≤ b7) (by unfold maxLen; omega) (by simp [nums])
        exact this
      have hkK : ∀ g, Value.ownBlock (.slice kA R.length kc) = some g → g < w6.heap.size := fun g hg => (ho6.lt g hg).2
      have hk27 := hk26.ext he7
      have hk37 := hk36.ext he7
      have hk47 := hk46.ext he7
      have ho67 := ho6.ext he7
      refine L.va rfl (X.assign (by conv => lhs; whnf)) ?_
      refine L.nil ?_
      refine J.seq ?_
      refine J.seq ?_
      refine J.region ?_
      refine L.va rfl (X.assign (by conv => lhs; whnf)) ?_
      refine L.nil ?_
      refine J.block ?_
      -- loop
      refine J.loop (X := Nat) [5, 6, 11, 12, 61, 62, 63, 64, 65, 66, 67, 68, 69, 70, 71, 72, 73, 74, 75, 76, 77, 78, 79, 80, 81, 82, 83, 84, 85, 86, 87, 88, 89, 90, 91, 92, 93] (fun i => [(11, .int .i64 (i : Int))]) (fun i w' => i ≤ ln ∧ w'.ownsRow w.heap.size 3 1 (.slice (some ⟨b7, 0, none⟩) R.length R.length) R.length (nums .i64 (mark (List.replicate R.length 0) (live.take i))) ∧ Blk w' b2 71 #[.slice A R.length c] ∧ Blk w' b3 76 #[.int .i64 a, .slice lA ln lc] ∧ Blk w' b4 71 #[.slice none 0 0] ∧ w'.ownsRow w.heap.size 3 1 (.slice kA R.length kc) R.length (nums .i64 R) ∧ Ext w w' ∧ (∀ j, j < i → 1 ≤ live.getD j 0 ∧ live.getD j 0 ≤ (R.length : Int) ∧ R.getD ((live.getD j 0).toNat - 1) 0 ≠ 0)) (fun i => ln - i) (0) (At1 (by first | rfl | exact at_int rfl (by omega) | exact at_slice rfl (by omega) | exact at_int rfl (by simp))) ?_ ?_
      · exact ⟨Nat.zero_le _, ho7, hk27, hk37, hk47, ho67, he06.trans he7, fun j hj => absurd hj (Nat.not_lt_zero _)⟩
      · rintro i g w8 ⟨hi, ho8, hk28, hk38, hk48, hoK, he8, hall⟩
        have hr8 := hr.ext he8
        have hrK8 := Reads.of_own hoK
        refine J.seq ?_
        refine J.seq ?_
        refine J.region ?_
        refine L.va rfl (X.move (by conv => lhs; whnf)) ?_
        refine L.va rfl (X.fieldAddr rfl Try.underlying76 rfl sz_62 (by decide)) ?_
        refine L.va rfl (X.load rfl sc_62 (by first | exact Ld.num hr8 (by omega) | exact Ld.num hrK8 (by omega) | exact Ld.blk hk28 rfl | exact Ld.blk hk38 rfl)) ?_
        refine L.va rfl (X.len rfl Try.underlying62) ?_
        refine L.va rfl (X.lss rfl rfl) ?_
        refine L.nil ?_
        -- cond
        refine J.dec rfl (fun hlt => ?_) (fun hlt => ?_)
        · have hil : i < ln := by omega
          have hbad : ¬ (1 ≤ live.getD i 0 ∧ live.getD i 0 ≤ (R.length : Int) ∧ R.getD ((live.getD i 0).toNat - 1) 0 ≠ 0) → okLive R live ≠ true := fun hb ht => hb (okLive_at.1 ht i (by omega))
          have hbnd := hlv _ (show live.getD i 0 ∈ live by
            have : live.getD i 0 = live[i]'(by omega) := by simp [List.getD, show i < live.length by omega]
            rw [this]
            exact List.getElem_mem _)
          refine J.skip ?_
          refine J.seq ?_
          refine J.block ?_
          refine J.seq ?_
          refine J.region ?_
          refine L.va rfl (X.fieldAddr rfl Try.underlying76 rfl sz_62 (by decide)) ?_
          refine L.va rfl (X.load rfl sc_62 (by first | exact Ld.num hr8 (by omega) | exact Ld.num hrK8 (by omega) | exact Ld.blk hk28 rfl | exact Ld.blk hk38 rfl)) ?_
          refine L.va rfl (X.move (by conv => lhs; whnf)) ?_
          refine L.va rfl ((by first | exact X.index1n rfl rfl Try.underlying62 sz_3 (by first | exact Option.some_ne_none _ | exact hr8.some_ (by omega) | exact hrK8.some_ (by omega)) (by omega) | exact X.index1 rfl rfl Try.underlying62 sz_3 (by first | exact Option.some_ne_none _ | exact hr8.some_ (by omega) | exact hrK8.some_ (by omega)) (by omega))) ?_
          refine L.va rfl (X.load rfl sc_3 (by first | exact Ld.num hr8 (by omega) | exact Ld.num hrK8 (by omega) | exact Ld.blk hk28 rfl | exact Ld.blk hk38 rfl)) ?_
          refine L.va rfl (X.assign (by conv => lhs; whnf)) ?_
          refine L.nil ?_
          -- until
          refine J.cut (X := Unit) [5, 6, 73, 74, 75, 76, 77, 78, 79, 80, 81, 82, 83, 84, 85, 86, 87, 88, 89] (fun _ => []) (fun _ w' => w' = w8 ∧ 1 ≤ live.getD i 0 ∧ live.getD i 0 ≤ (R.length : Int) ∧ R.getD ((live.getD i 0).toNat - 1) 0 ≠ 0) ?_ ?_
          · refine J.seq ?_
            refine J.region ?_
            refine L.va rfl (X.move (by conv => lhs; whnf)) ?_
            refine L.va rfl (X.lss rfl rfl) ?_
            refine L.va rfl (X.move (by conv => lhs; whnf)) ?_
            -- case t75
            refine L.caseDec (k := 75) rfl (fun h1 => ?_) (fun h1 => ?_)
            · rw [if_neg (hbad (by omega))]
              refine L.no rfl ?_
              refine L.no rfl ?_
              refine L.no rfl ?_
              refine L.no rfl ?_
              refine L.va rfl (X.pickT rfl (by conv => lhs; whnf)) ?_
              refine L.va rfl (X.move (by conv => lhs; whnf)) ?_
              refine L.no rfl ?_
              refine L.no rfl ?_
              refine L.no rfl ?_
              refine L.no rfl ?_
              refine L.no rfl ?_
              refine L.no rfl ?_
              refine L.va rfl (X.pickT rfl (by conv => lhs; whnf)) ?_
              refine L.nil ?_
              -- cond
              refine J.iteT rfl ?_
              refine J.seq ?_
              refine J.region ?_
              refine L.va rfl ((by first | exact X.loadAgg rfl (range_l hk28) Try.underlying71 rfl (by kernel_rfl) | exact X.loadAgg rfl (range_blk hk28) Try.underlying71 rfl (by kernel_rfl) | exact X.loadAgg rfl (range_l hk38) Try.underlying71 rfl (by kernel_rfl) | exact X.loadAgg rfl (range_blk hk38) Try.underlying71 rfl (by kernel_rfl))) ?_
              -- store
              refine L.storeAgg (vs := [_]) rfl rfl rfl rfl sz_71 (hk48) rfl ?_
              intro w9 hk9 hg9 hs9
              refine L.va rfl (X.assign (by conv => lhs; whnf)) ?_
              refine L.va rfl (X.assign (by conv => lhs; whnf)) ?_
              refine L.nil ?_
              -- ret
              refine J.ret ?_
              refine thn_ret <|  inB_ret <|  thn_ret <|  thn_ret <|  inB_ret <|  thn_ret <| ?_
              -- results [['ResultVar.cell', 4, 71], ['ResultVar.tmp', 5], ['ResultVar.tmp', 6]]
              have he9 : Ext w w9 := he8.grw hg9 g4
              refine finCTT rfl (run_cell hk9 Try.underlying71 rfl (by kernel_rfl)) ?_
              exact ⟨A, c, rfl, ho.ext he9, he9, fun g hg => .inl hg⟩
            · refine L.va rfl (X.move (by conv => lhs; whnf)) ?_
              refine L.va rfl (X.move (by conv => lhs; whnf)) ?_
              refine L.va rfl (X.len rfl Try.underlying62) ?_
              refine L.va rfl (X.gtr rfl rfl) ?_
              refine L.va rfl (X.pickF rfl (by conv => lhs; whnf)) ?_
              refine L.va rfl (X.move (by conv => lhs; whnf)) ?_
              -- case t81
              refine L.caseDec (k := 81) rfl (fun h3 => ?_) (fun h3 => ?_)
              · rw [if_neg (hbad (by omega))]
                refine L.no rfl ?_
                refine L.no rfl ?_
                refine L.no rfl ?_
                refine L.no rfl ?_
                refine L.no rfl ?_
                refine L.no rfl ?_
                refine L.va rfl (X.pickT rfl (by conv => lhs; whnf)) ?_
                refine L.nil ?_
                -- cond
                refine J.iteT rfl ?_
                refine J.seq ?_
                refine J.region ?_
                refine L.va rfl ((by first | exact X.loadAgg rfl (range_l hk28) Try.underlying71 rfl (by kernel_rfl) | exact X.loadAgg rfl (range_blk hk28) Try.underlying71 rfl (by kernel_rfl) | exact X.loadAgg rfl (range_l hk38) Try.underlying71 rfl (by kernel_rfl) | exact X.loadAgg rfl (range_blk hk38) Try.underlying71 rfl (by kernel_rfl))) ?_
                -- store
                refine L.storeAgg (vs := [_]) rfl rfl rfl rfl sz_71 (hk48) rfl ?_
                intro w9 hk9 hg9 hs9
                refine L.va rfl (X.assign (by conv => lhs; whnf)) ?_
                refine L.va rfl (X.assign (by conv => lhs; whnf)) ?_
                refine L.nil ?_
                -- ret
                refine J.ret ?_
                refine thn_ret <|  inB_ret <|  thn_ret <|  thn_ret <|  inB_ret <|  thn_ret <| ?_
                -- results [['ResultVar.cell', 4, 71], ['ResultVar.tmp', 5], ['ResultVar.tmp', 6]]
                have he9 : Ext w w9 := he8.grw hg9 g4
                refine finCTT rfl (run_cell hk9 Try.underlying71 rfl (by kernel_rfl)) ?_
                exact ⟨A, c, rfl, ho.ext he9, he9, fun g hg => .inl hg⟩
              · have e1 : (live.getD i 0 - 1).toNat = (live.getD i 0).toNat - 1 := by omega
                refine L.va rfl (X.move (by conv => lhs; whnf)) ?_
                refine L.va rfl (X.move (by conv => lhs; whnf)) ?_
                refine L.va rfl (X.sub rfl rfl (by omega)) ?_
                refine L.va rfl ((by first | exact X.index1n rfl rfl Try.underlying62 sz_3 (by first | exact Option.some_ne_none _ | exact hr8.some_ (by omega) | exact hrK8.some_ (by omega)) (by omega) | exact X.index1 rfl rfl Try.underlying62 sz_3 (by first | exact Option.some_ne_none _ | exact hr8.some_ (by omega) | exact hrK8.some_ (by omega)) (by omega))) ?_
                refine L.va rfl (X.load rfl sc_3 (by first | exact Ld.num hr8 (by omega) | exact Ld.num hrK8 (by omega) | exact Ld.blk hk28 rfl | exact Ld.blk hk38 rfl)) ?_
                refine L.va rfl (X.eql rfl rfl) ?_
                refine L.va rfl (X.pickF rfl (by conv => lhs; whnf)) ?_
                refine L.nil ?_
                -- cond
                rw [e1]
                refine J.dec rfl (fun hz => ?_) (fun hz => ?_)
                · rw [if_neg (hbad (fun hh => hh.2.2 hz))]
                  refine J.seq ?_
                  refine J.region ?_
                  refine L.va rfl ((by first | exact X.loadAgg rfl (range_l hk28) Try.underlying71 rfl (by kernel_rfl) | exact X.loadAgg rfl (range_blk hk28) Try.underlying71 rfl (by kernel_rfl) | exact X.loadAgg rfl (range_l hk38) Try.underlying71 rfl (by kernel_rfl) | exact X.loadAgg rfl (range_blk hk38) Try.underlying71 rfl (by kernel_rfl))) ?_
                  -- store
                  refine L.storeAgg (vs := [_]) rfl rfl rfl rfl sz_71 (hk48) rfl ?_
                  intro w9 hk9 hg9 hs9
                  refine L.va rfl (X.assign (by conv => lhs; whnf)) ?_
                  refine L.va rfl (X.assign (by conv => lhs; whnf)) ?_
                  refine L.nil ?_
                  -- ret
                  refine J.ret ?_
                  refine thn_ret <|  inB_ret <|  thn_ret <|  thn_ret <|  inB_ret <|  thn_ret <| ?_
                  -- results [['ResultVar.cell', 4, 71], ['ResultVar.tmp', 5], ['ResultVar.tmp', 6]]
                  have he9 : Ext w w9 := he8.grw hg9 g4
                  refine finCTT rfl (run_cell hk9 Try.underlying71 rfl (by kernel_rfl)) ?_
                  exact ⟨A, c, rfl, ho.ext he9, he9, fun g hg => .inl hg⟩
                · refine J.skip ?_
                  -- cutend
                  refine ⟨(), At0 , (by (iterate 18 refine Agr.lk rfl ?_); exact Agr.rfl'), ?_⟩
                  exact ⟨rfl, by omega, by omega, hz⟩
          · rintro ⟨⟩ g w9 ⟨rfl, a1, a2, a3⟩
            have hst := mark_take (List.replicate R.length (0 : Int)) live (i := i) (by omega)
            have e1 : (live.getD i 0 - 1).toNat = (live.getD i 0).toNat - 1 := by omega
            rw [← e1] at hst
            refine J.region ?_
            refine L.va rfl (X.move (by conv => lhs; whnf)) ?_
            refine L.va rfl (X.move (by conv => lhs; whnf)) ?_
            refine L.va rfl (X.sub rfl rfl (by omega)) ?_
            refine L.va rfl ((by first | exact X.index1n rfl rfl Try.underlying62 sz_3 (by first | exact Option.some_ne_none _ | exact hr8.some_ (by omega) | exact hrK8.some_ (by omega)) (by omega) | exact X.index1 rfl rfl Try.underlying62 sz_3 (by first | exact Option.some_ne_none _ | exact hr8.some_ (by omega) | exact hrK8.some_ (by omega)) (by omega))) ?_
            -- store
            refine L.storeON rfl rfl (by conv => lhs; whnf) sz_3 (ho8) (by omega) ?_
            intro w10 ho10 hg10 hbl10 hs10
            rw [← hst] at ho10
            have hn7 : ∀ {b : Nat} {t : TypeId} {cs : Array Value}, Blk w9 b t cs → t ≠ 3 → some b ≠ Value.ownBlock (.slice (some ⟨b7, 0, none⟩) R.length R.length) := fun hb ht e => own_blk_ne ho8 hb (fun e => ht e.symm) e.symm
            have hoK10 := hoK.kept hg10 (by
              cases hv : Value.ownBlock (.slice kA R.length kc) with
              | none => exact .inl rfl
              | some g =>
                refine .inr fun e => ?_
                have e : some g = some b7 := e
                injection e with e
                have := hkK g hv
                omega)
            have hk210 := hk28.grown hg10 (hn7 hk28 (by decide))
            have hk310 := hk38.grown hg10 (hn7 hk38 (by decide))
            have hk410 := hk48.grown hg10 (hn7 hk48 (by decide))
            refine L.nil ?_
            refine J.region ?_
            refine L.va rfl (X.move (by conv => lhs; whnf)) ?_
            refine L.va rfl (X.add rfl rfl (by omega)) ?_
            refine L.va rfl (X.assign (by conv => lhs; whnf)) ?_
            refine L.nil ?_
            -- loopend
            refine ⟨i + 1, At1 (by first | rfl | exact at_int rfl (by omega) | exact at_slice rfl (by omega) | exact at_int rfl (by simp)), (by (iterate 7 refine Agr.lk rfl ?_); refine Agr.lk rfl ?_; refine Agr.hav rfl ?_; (iterate 11 refine Agr.lk rfl ?_); exact Agr.lk rfl (Agr.hav rfl Agr.rfl')), ?_⟩
            refine ⟨⟨by omega, ho10, hk210, hk310, hk410, hoK10, he8.grw hg10 (fun g hg => (ho8.lt g hg).1), fun j hj => ?_⟩, by omega⟩
            rcases Nat.lt_or_ge j i with hj2 | hj2
            · exact hall j hj2
            · obtain rfl : j = i := by omega
              exact ⟨a1, a2, a3⟩
        · obtain rfl : i = ln := by omega
          rw [List.take_of_length_le (by omega)] at ho8
          rw [if_pos (okLive_at.2 (fun j hj => hall j (by omega)))]
          have hml : (mark (List.replicate R.length (0 : Int)) live).length = R.length := by rw [mark_length]; simp
          refine J.exit ?_
          refine J.seq ?_
          refine J.region ?_
          refine L.va rfl (X.move (by conv => lhs; whnf)) ?_
          refine L.va rfl (X.build (l := [_]) (Evs.cons (by conv => lhs; whnf) Evs.nil) (bld_run Try.underlying71 (bp_71 Try.underlying71) zr_71 rfl)) ?_
          -- store
          refine L.storeAgg (vs := [_]) rfl rfl rfl rfl sz_71 (hk48) rfl ?_
          intro w9 hk9 hg9 hs9
          refine L.va rfl (X.assign (by conv => lhs; whnf)) ?_
          refine L.va rfl (X.assign (by conv => lhs; whnf)) ?_
          refine L.nil ?_
          -- ret
          refine J.ret ?_
          -- results [['ResultVar.cell', 4, 71], ['ResultVar.tmp', 5], ['ResultVar.tmp', 6]]
          refine finCTT rfl (run_cell hk9 Try.underlying71 rfl (by kernel_rfl)) ?_
          refine ⟨some ⟨b7, 0, none⟩, R.length, ?_, ?_, he8.grw hg9 g4, fun g hg => .inr ?_⟩
          · dsimp only
            rw [hml]
            rfl
          · dsimp only
            rw [hml]
            exact (ho8.kept hg9 (.inr (own_blk_ne ho8 hk48 (by decide)))).mono hN
          · dsimp only at hg
            rw [hml] at hg
            exact (ho8.lt g hg).1
end Go.Proofs.Ytdmfikedojgjbaa
