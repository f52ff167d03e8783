/-
  Package plan, and the reference's.
-/
import Derived.Test.YtlohbkcedpkjaaaWPlanA
namespace Go.Proofs.Ytlohbkcedpkjaaa
set_option maxRecDepth 100000
open Go.RowKit H
open Mk
set_option linter.unusedVariables false
/-- a schema's views -/
abbrev Sch.V (s : Sch) : List Int := [s.F] ++ s.zs
theorem Sch.Here.sets {s : Sch} {w : World} (H : s.Here w) (hc : s.code = 0) : setsOk s.V := by
  intro i
  have hF := Sch.F_bd hc
  cases i with
  | zero => exact ⟨by show 0 ≤ s.F; omega, by show s.F < 4294967296; omega⟩
  | succ i => exact H.hzs i
/-- what a query that may be asks is within the base -/
theorem base_sub {s : Sch} {q : Qu} {w : World} (H : s.Here w) (hq : q.At w.heap.size w) (h : qcode s q = 0) : sb (qneed q) (vN s.V 0) = true := by
  obtain ⟨h1, h2, h3, _⟩ := qc_ok h
  have hnd := (Sch.good h1).1
  have hd : ∀ f ∈ q.f.l, f.d < (s.nd : Int) := by
    unfold fcode at h3
    rw [if_neg (fun k => k h1)] at h3
    split at h3
    · cases h3
    · intro f hf
      obtain ⟨i, hi, rfl⟩ := List.getElem_of_mem hf
      have := fst_ok (d := fi0) h3 i hi
      rw [List.getD, List.getElem?_eq_getElem hi] at this
      by_cases hh : (q.f.l[i]).d < 0 ∨ (s.nd : Int) ≤ (q.f.l[i]).d
      · have e : fE s q.f.l[i] = 11 := fE_11 hh
        rw [show fE s ((some q.f.l[i]).getD fi0) = fE s q.f.l[i] from rfl, e] at this
        cases this
      · omega
  have hF : s.F = ((2 ^ s.nd - 1 : Nat) : Int) := rfl
  have hp : 0 < 2 ^ s.nd := Nat.two_pow_pos _
  have hg : q.g < 2 ^ s.nd := by omega
  have hN : qneed q < 2 ^ s.nd := Nat.or_lt_two_pow hg (fneed_dims (by omega) hd)
  have hv : vN s.V 0 = 2 ^ s.nd - 1 := by show (s.F).toNat = _; rw [hF]; exact Int.toNat_natCast _
  rw [hv, sb_iff]
  intro i hi
  rw [Nat.testBit_two_pow_sub_one]
  refine decide_eq_true ?_
  rcases Nat.lt_or_ge i s.nd with h | h
  · exact h
  · rw [Nat.testBit_lt_two_pow (Nat.lt_of_lt_of_le hN (Nat.pow_le_pow_right (by decide) h))] at hi
    cases hi
theorem serve_no {s : Sch} {q : Qu} {w : World} (H : s.Here w) (hq : q.At w.heap.size w) (h : qcode s q ≠ 0) : Calls Try.prog 18 #[s.val, q.val] w fun e w' => e = .returned (.tuple #[.slice none 0 0, .int .i64 (qcode s q)]) ∧ Ext w w' := by
  refine enter Try.func18 rfl (by kernel_rfl) ?_
  refine J.seq ?_
  refine J.region ?_
  -- box
  refine L.boxA (l := [_, _, _, _]) rfl rfl ?_
  intro b1 w1 hb1 hs1 hk1 he1
  -- box
  refine L.boxA (l := [_, _, _, _, _]) rfl rfl ?_
  intro b2 w2 hb2 hs2 hk2 he2
  have hk12 := hk1.ext he2
  have he02 := he1.trans he2
  have hk2 : Blk w2 b2 40 q.vs.toArray := hk2
  refine L.va rfl (X.assign (by conv => lhs; whnf)) ?_
  refine L.va rfl (X.assign (by conv => lhs; whnf)) ?_
  refine L.nil ?_
  refine J.seq ?_
  refine J.seq ?_
  refine J.region ?_
  refine L.va rfl ((by first | exact X.loadAgg rfl (range_l hk2) Try.underlying34 rfl (by kernel_rfl) | exact X.loadAgg rfl (range_blk hk2) Try.underlying34 rfl (by kernel_rfl) | exact X.loadAgg rfl (range_l hk12) Try.underlying34 rfl (by kernel_rfl) | exact X.loadAgg rfl (range_blk hk12) Try.underlying34 rfl (by kernel_rfl))) ?_
  refine L.va rfl ((by first | exact X.loadAgg rfl (range_l hk2) Try.underlying40 rfl (by kernel_rfl) | exact X.loadAgg rfl (range_blk hk2) Try.underlying40 rfl (by kernel_rfl) | exact X.loadAgg rfl (range_l hk12) Try.underlying40 rfl (by kernel_rfl) | exact X.loadAgg rfl (range_blk hk12) Try.underlying40 rfl (by kernel_rfl))) ?_
  -- callfn bushel/query.Check
  refine L.call rfl en_46 rfl (qcheck (H.ext he02) ((hq.ext he02).more he02.le)) ?_
  rintro e w3 ⟨rfl, he3⟩
  refine ⟨_, rfl, ?_⟩
  refine L.va rfl (X.assign (by conv => lhs; whnf)) ?_
  refine L.nil ?_
  refine J.seq ?_
  refine J.region ?_
  refine L.va rfl (X.move (by conv => lhs; whnf)) ?_
  refine L.va rfl (X.neq rfl rfl) ?_
  refine L.nil ?_
  -- cond
  refine J.ndecT rfl (by exact h) ?_
  refine J.seq ?_
  refine J.region ?_
  refine L.va rfl (X.move (by conv => lhs; whnf)) ?_
  refine L.va rfl (X.assign (by conv => lhs; whnf)) ?_
  refine L.va rfl (X.assign (by conv => lhs; whnf)) ?_
  refine L.nil ?_
  -- ret
  refine J.ret ?_
  refine thn_ret <| ?_
  refine fin2 ?_
  exact ⟨rfl, he02.trans he3⟩
theorem serve_yes {s : Sch} {q : Qu} {w : World} (H : s.Here w) (hq : q.At w.heap.size w) (h : qcode s q = 0) : Calls Try.prog 18 #[s.val, q.val] w fun e w' => ∃ A c, e = .returned (.tuple #[.slice A (srv s.V (qneed q) (1 + s.nv)).length c, .int .i64 0]) ∧ w'.ownsRow w.heap.size 3 1 (.slice A (srv s.V (qneed q) (1 + s.nv)).length c) (srv s.V (qneed q) (1 + s.nv)).length (nums .i64 (srv s.V (qneed q) (1 + s.nv))) ∧ Ext w w' := by
  obtain ⟨hc, _, _, _⟩ := qc_ok h
  have hN := qneed_lt hq.g
  have hV := H.sets hc
  have hnv := (Sch.good hc).1
  have hlz := H.zlen
  refine enter Try.func18 rfl (by kernel_rfl) ?_
  refine J.seq ?_
  refine J.region ?_
  -- box
  refine L.boxA (l := [_, _, _, _]) rfl rfl ?_
  intro b1 w1 hb1 hs1 hk1 he1
  -- box
  refine L.boxA (l := [_, _, _, _, _]) rfl rfl ?_
  intro b2 w2 hb2 hs2 hk2 he2
  have hk12 := hk1.ext he2
  have he02 := he1.trans he2
  have hk2 : Blk w2 b2 40 q.vs.toArray := hk2
  refine L.va rfl (X.assign (by conv => lhs; whnf)) ?_
  refine L.va rfl (X.assign (by conv => lhs; whnf)) ?_
  refine L.nil ?_
  refine J.seq ?_
  refine J.seq ?_
  refine J.region ?_
  refine L.va rfl ((by first | exact X.loadAgg rfl (range_l hk2) Try.underlying34 rfl (by kernel_rfl) | exact X.loadAgg rfl (range_blk hk2) Try.underlying34 rfl (by kernel_rfl) | exact X.loadAgg rfl (range_l hk12) Try.underlying34 rfl (by kernel_rfl) | exact X.loadAgg rfl (range_blk hk12) Try.underlying34 rfl (by kernel_rfl))) ?_
  refine L.va rfl ((by first | exact X.loadAgg rfl (range_l hk2) Try.underlying40 rfl (by kernel_rfl) | exact X.loadAgg rfl (range_blk hk2) Try.underlying40 rfl (by kernel_rfl) | exact X.loadAgg rfl (range_l hk12) Try.underlying40 rfl (by kernel_rfl) | exact X.loadAgg rfl (range_blk hk12) Try.underlying40 rfl (by kernel_rfl))) ?_
  -- callfn bushel/query.Check
  refine L.call rfl en_46 rfl (qcheck (H.ext he02) ((hq.ext he02).more he02.le)) ?_
  rintro e w3 ⟨rfl, he3⟩
  refine ⟨_, rfl, ?_⟩
  have he03 := he02.trans he3
  replace hk2 := hk2.ext he3
  replace hk12 := hk12.ext he3
  rw [h]
  refine L.va rfl (X.assign (by conv => lhs; whnf)) ?_
  refine L.nil ?_
  refine J.seq ?_
  refine J.region ?_
  refine L.va rfl (X.move (by conv => lhs; whnf)) ?_
  refine L.va rfl (X.neq rfl rfl) ?_
  refine L.nil ?_
  -- cond
  refine J.iteF rfl ?_
  refine J.skip ?_
  refine J.seq ?_
  refine J.region ?_
  refine L.va rfl (X.assign (by conv => lhs; whnf)) ?_
  refine L.nil ?_
  refine J.seq ?_
  refine J.seq ?_
  refine J.region ?_
  refine L.va rfl ((by first | exact X.loadAgg rfl (range_l hk2) Try.underlying34 rfl (by kernel_rfl) | exact X.loadAgg rfl (range_blk hk2) Try.underlying34 rfl (by kernel_rfl) | exact X.loadAgg rfl (range_l hk12) Try.underlying34 rfl (by kernel_rfl) | exact X.loadAgg rfl (range_blk hk12) Try.underlying34 rfl (by kernel_rfl))) ?_
  -- callfn bushel/schema.Views
  refine L.call rfl en_47 rfl ((H.ext he03).views_ok hc) ?_
  rintro e w4 ⟨A4, c4, rfl, ho4, he4⟩
  refine ⟨_, rfl, ?_⟩
  have he04 := he03.trans he4
  have z3 := he03.le
  have z4 := he04.le
  have r4 : Reads w4 w4.heap.size 1 A4 (1 + s.nv) (nums .u32 s.V) := Reads.of_own ho4
  replace hk2 := hk2.ext he4
  replace hk12 := hk12.ext he4
  refine L.va rfl (X.len rfl Try.underlying32) ?_
  refine L.va rfl (X.move (by conv => lhs; whnf)) ?_
  refine L.nil ?_
  refine J.block ?_
  -- loop
  refine J.loop (X := Nat × Option Addr × Nat × Nat) [7, 8, 9, 19, 20, 21, 22, 23, 24, 25, 26, 27, 28, 29, 30, 31, 32] (fun (i, A, n, c) => [(19, .int .i64 (i : Int)), (7, .slice A n c)]) (fun (i, A, n, c) w' => i ≤ 1 + s.nv ∧ n = (srv s.V (qneed q) i).length ∧ w'.ownsRow w4.heap.size 3 1 (.slice A n c) n (nums .i64 (srv s.V (qneed q) i)) ∧ Ext w4 w') (fun (i, _) => 1 + s.nv - i) ((0, none, 0, 0)) (At2 (by first | rfl | exact at_int rfl (by omega) | exact at_slice rfl (by omega) | exact at_int rfl (by simp)) (by first | rfl | exact at_int rfl (by omega) | exact at_slice rfl (by omega) | exact at_int rfl (by simp))) ?_ ?_
  · exact ⟨Nat.zero_le _, rfl, own_nil _ _ _ _, Ext.refl _⟩
  · rintro ⟨i, A5, n5, c5⟩ g w5 ⟨hi, hn, ho5, he5⟩
    have he05 := he04.trans he5
    have z5 := he5.le
    have hk25 := hk2.ext he5
    have r5 := r4.ext he5
    have hsl := srv_len s.V (qneed q) i
    refine J.seq ?_
    refine J.region ?_
    refine L.va rfl (X.lss rfl rfl) ?_
    refine L.nil ?_
    refine J.seq ?_
    -- cond
    refine J.dec rfl (fun hlt => ?_) (fun hlt => ?_)
    · have hin : i < 1 + s.nv := by omega
      have hA := r5.some_ (by omega)
      obtain ⟨e1, e2⟩ := vN_is hV i
      have hld : Ld w5 (pA A4 i) (.int .u32 ((vN s.V i : Nat) : Int)) := by have := Ld.num (j := i) r5 (by omega); rwa [e1] at this
      have hst : srv s.V (qneed q) (i + 1) = if sb (qneed q) (vN s.V i) = true then srv s.V (qneed q) i ++ [(i : Int)] else srv s.V (qneed q) i := rfl
      -- t23
      refine J.skip ?_
      refine J.seq ?_
      refine J.block ?_
      refine J.seq ?_
      refine J.region ?_
      refine L.va rfl (X.move (by conv => lhs; whnf)) ?_
      refine L.va rfl ((by first | exact X.index1n rfl rfl Try.underlying32 sz_35 (by first | exact Option.some_ne_none _ | exact hA) (by omega) | exact X.index1 rfl rfl Try.underlying32 sz_35 (by first | exact Option.some_ne_none _ | exact hA) (by omega))) ?_
      refine L.va rfl (X.load rfl sc_35 hld) ?_
      refine L.va rfl (X.assign (by conv => lhs; whnf)) ?_
      refine L.va rfl (X.assign (by conv => lhs; whnf)) ?_
      refine L.nil ?_
      refine J.seq ?_
      refine J.region ?_
      refine L.va rfl ((by first | exact X.loadAgg rfl (range_l hk25) Try.underlying40 rfl (by kernel_rfl) | exact X.loadAgg rfl (range_blk hk25) Try.underlying40 rfl (by kernel_rfl))) ?_
      -- callfn bushel/query.Need
      refine L.call rfl en_49 rfl (qneed_ q ((hq.ext he05).more he05.le)) ?_
      rintro e w6 ⟨rfl, he6⟩
      refine ⟨_, rfl, ?_⟩
      refine L.va rfl (X.move (by conv => lhs; whnf)) ?_
      -- callfn bushel/lattice.Sub
      refine L.call rfl en_48 rfl (lsubP (qneed q) (vN s.V i) w6 hN e2) ?_
      rintro e _ ⟨rfl, rfl⟩
      refine ⟨_, rfl, ?_⟩
      refine L.nil ?_
      -- cond
      by_cases hs : sb (qneed q) (vN s.V i) = true
      · rw [if_pos hs] at hst
        have el := congrArg List.length hst
        rw [List.length_append, List.length_singleton] at el
        rw [hs]
        refine J.iteT rfl ?_
        refine J.region ?_
        refine L.va rfl (X.move (by conv => lhs; whnf)) ?_
        refine L.va rfl (X.move (by conv => lhs; whnf)) ?_
        -- buildSlice
        refine L.bslice (vs := [_]) rfl (Evs.cons (by conv => lhs; whnf) Evs.nil) rfl rfl rfl rfl Try.underlying25 sz_3 zr_3 (by decide) ?_
        intro b7 w7 hb7 hs7 hk7 he7
        have z7 := he7.le
        have z6 := he6.le
        -- append
        refine L.appendQ (q := (srv s.V (qneed q) (i + 1)).length) (ys := _) rfl rfl rfl Try.underlying25 el_3 ((ho5.ext he6).ext he7) ((blk_reads (q := 1) (l := nums .i64 [(i : Int)]) hk7 hk7.lt rfl)) (by omega) rfl (by unfold maxLen; omega) (by omega) ?_
        intro A8 c8 w8 ho8 hg8 hb8 hor8
        have ho8 : w8.ownsRow w4.heap.size 3 1 (.slice A8 (srv s.V (qneed q) (i + 1)).length c8) (srv s.V (qneed q) (i + 1)).length (nums .i64 (srv s.V (qneed q) i ++ [(i : Int)])) := ho8
        rw [← hst] at ho8
        refine L.va rfl (X.assign (by conv => lhs; whnf)) ?_
        refine L.nil ?_
        refine J.region ?_
        refine L.va rfl (X.add rfl rfl (by omega)) ?_
        refine L.va rfl (X.move (by conv => lhs; whnf)) ?_
        refine L.nil ?_
        -- loopend
        refine ⟨(i + 1, A8, (srv s.V (qneed q) (i + 1)).length, c8), At2 (by first | rfl | exact at_int rfl (by omega) | exact at_slice rfl (by omega) | exact at_int rfl (by simp)) (by first | rfl | exact at_int rfl (by omega) | exact at_slice rfl (by omega) | exact at_int rfl (by simp)), (by (iterate 17 refine Agr.lk rfl ?_); exact Agr.lk rfl (Agr.hav rfl Agr.rfl')), ?_⟩
        exact ⟨⟨by omega, rfl, ho8, ((he5.trans he6).trans he7).low hb8 (Nat.le_refl _)⟩, by show 1 + s.nv - (i + 1) < 1 + s.nv - i; omega⟩
      · rw [if_neg hs] at hst
        have hs : sb (qneed q) (vN s.V i) = false := by simpa using hs
        rw [hs]
        refine J.iteF rfl ?_
        refine J.skip ?_
        refine J.region ?_
        refine L.va rfl (X.add rfl rfl (by omega)) ?_
        refine L.va rfl (X.move (by conv => lhs; whnf)) ?_
        refine L.nil ?_
        -- loopend
        refine ⟨(i + 1, A5, n5, c5), At2 (by first | rfl | exact at_int rfl (by omega) | exact at_slice rfl (by omega) | exact at_int rfl (by simp)) (by first | rfl | exact at_int rfl (by omega) | exact at_slice rfl (by omega) | exact at_int rfl (by simp)), (by (iterate 12 refine Agr.lk rfl ?_); exact Agr.lk rfl (Agr.hav rfl Agr.rfl')), ?_⟩
        exact ⟨⟨by omega, by rw [hst]; exact hn, by rw [hst]; exact ho5.ext he6, he5.trans he6⟩, by show 1 + s.nv - (i + 1) < 1 + s.nv - i; omega⟩
    · obtain rfl : i = 1 + s.nv := by omega
      subst hn
      refine J.exit ?_
      refine J.seq ?_
      refine J.region ?_
      refine L.va rfl (X.move (by conv => lhs; whnf)) ?_
      refine L.va rfl (X.assign (by conv => lhs; whnf)) ?_
      refine L.va rfl (X.assign (by conv => lhs; whnf)) ?_
      refine L.nil ?_
      -- ret
      refine J.ret ?_
      refine fin2 ?_
      exact ⟨A5, c5, rfl, ho5.mono z4, he04.trans he5⟩
end Go.Proofs.Ytlohbkcedpkjaaa
