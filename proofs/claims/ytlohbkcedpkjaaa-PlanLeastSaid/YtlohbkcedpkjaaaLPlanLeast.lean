/-
  The law PlanLeast, walked.
-/
import Derived.Test.YtlohbkcedpkjaaaWPlanF
import Derived.Test.YtlohbkcedpkjaaaWPlanE
namespace Go.Proofs.Ytlohbkcedpkjaaa
set_option maxRecDepth 100000
open Go.RowKit H
open Mk
set_option linter.unusedVariables false
theorem law_PlanLeast (w : World) (vs0 : List Value) (a0 : (List ((Str) × (Nm .i64))) × (List (Str)) × (List (Str)) × (List (Nm .u32))) (hl0 : Lay.lies w w.heap.size vs0 a0) (vs1 : List Value) (a1 : (Nm .u32) × (List ((Nm .i64) × (List (Nm .i64)))) × (List ((Nm .i64) × (Nm .i64))) × (List ((Nm .i64) × (Bool))) × (Nm .i64)) (hl1 : Lay.lies w w.heap.size vs1 a1) (A2 : Option Addr) (n2 c2 : Nat) (xs2 : List (Nm .i64)) (hn2 : n2 ≤ c2) (hc2 : c2 ≤ maxLen) (hA2 : A2 = none → c2 = 0) (hl2 : LiesSlice w w.heap.size A2 n2 xs2) :
    Calls Try.prog 4 #[.agg vs0.toArray, .agg vs1.toArray, .slice A2 n2 c2] w fun e w' => e = .returned (.bool true) ∧ Below w.heap.size w w' := by
  obtain ⟨s, rfl, hH⟩ := sch_of hl0
  obtain ⟨q, rfl, hq⟩ := qu_of hl1
  have hzb := sz_bd xs2
  have hzr := hl2.reads
  obtain ⟨z, hz⟩ : ∃ z, z = zsOf xs2 := ⟨_, rfl⟩
  rw [← hz] at hzb hzr
  have hz : (Sz.mk A2 n2 c2 z).At w.heap.size w := ⟨hzr⟩
  have hlz : z.length = n2 := hz.len
  refine enter Try.func4 rfl (by kernel_rfl) ?_
  refine J.seq ?_
  refine J.region ?_
  -- box
  refine L.boxA (l := [_, _, _, _]) rfl rfl ?_
  intro b1 w1 hb1 hs1 hk1 he1
  -- box
  refine L.boxA (l := [_, _, _, _, _]) rfl rfl ?_
  intro b2 w2 hb2 hs2 hk2 he2
  have hk12 := hk1.ext he2
  have he02 := he1.trans he2
  have hk2 : Blk w2 b2 40 q.vs.toArray := hk2
  refine L.va rfl (X.assign (by conv => lhs; whnf)) ?_
  refine L.nil ?_
  refine J.seq ?_
  refine J.seq ?_
  refine J.region ?_
  refine L.va rfl ((by first | exact X.loadAgg rfl (range_l hk12) Try.underlying34 rfl (by kernel_rfl) | exact X.loadAgg rfl (range_blk hk12) Try.underlying34 rfl (by kernel_rfl) | exact X.loadAgg rfl (range_l hk2) Try.underlying34 rfl (by kernel_rfl) | exact X.loadAgg rfl (range_blk hk2) Try.underlying34 rfl (by kernel_rfl))) ?_
  -- callfn bushel/bushelref11.Light
  refine L.call rfl en_15 rfl ((hH.ext he02).light) ?_
  rintro e w3 ⟨l1, rfl, hl1', he3⟩
  refine ⟨_, rfl, ?_⟩
  have he3 : Ext w2 w3 := he3
  have he03 := he02.trans he3
  replace hk12 := hk12.ext he3
  replace hk2 := hk2.ext he3
  refine L.va rfl (X.not rfl) ?_
  refine L.va rfl (X.move (by conv => lhs; whnf)) ?_
  -- case t16
  cases l1
  · refine L.caseBT (k := 16) rfl (by rfl) ?_
    refine L.no rfl ?_
    refine L.no rfl ?_
    refine L.no rfl ?_
    refine L.va rfl (X.pickT rfl (by conv => lhs; whnf)) ?_
    refine L.va rfl (X.move (by conv => lhs; whnf)) ?_
    refine L.no rfl ?_
    refine L.no rfl ?_
    refine L.no rfl ?_
    refine L.va rfl (X.pickT rfl (by conv => lhs; whnf)) ?_
    refine L.nil ?_
    -- cond
    refine J.iteT rfl ?_
    refine J.seq ?_
    refine J.region ?_
    -- callfn bushel/bushellaw30.awake
    refine L.call rfl en_17 rfl (awake30 _) ?_
    rintro e w4 ⟨rfl, he4⟩
    refine ⟨_, rfl, ?_⟩
    refine L.va rfl (X.assign (by conv => lhs; whnf)) ?_
    refine L.nil ?_
    -- ret
    refine J.ret ?_
    refine thn_ret <| ?_
    refine fin1 ?_
    exact ⟨rfl, he03.trans he4⟩
  · refine L.caseBF (k := 16) rfl (by rfl) ?_
    refine L.va rfl ((by first | exact X.loadAgg rfl (range_l hk12) Try.underlying40 rfl (by kernel_rfl) | exact X.loadAgg rfl (range_blk hk12) Try.underlying40 rfl (by kernel_rfl) | exact X.loadAgg rfl (range_l hk2) Try.underlying40 rfl (by kernel_rfl) | exact X.loadAgg rfl (range_blk hk2) Try.underlying40 rfl (by kernel_rfl))) ?_
    -- callfn bushel/bushelref29.Light
    refine L.call rfl en_16 rfl (light29 q ((hq.ext he03).more he03.le)) ?_
    rintro e w4 ⟨⟨l2, rfl⟩, he4⟩
    refine ⟨_, rfl, ?_⟩
    have he04 := he03.trans he4
    replace hk12 := hk12.ext he4
    replace hk2 := hk2.ext he4
    refine L.va rfl (X.not rfl) ?_
    refine L.va rfl (X.pickF rfl (by conv => lhs; whnf)) ?_
    refine L.va rfl (X.move (by conv => lhs; whnf)) ?_
    -- case t21
    cases l2
    · refine L.caseBT (k := 21) rfl (by rfl) ?_
      refine L.no rfl ?_
      refine L.no rfl ?_
      refine L.no rfl ?_
      refine L.va rfl (X.pickT rfl (by conv => lhs; whnf)) ?_
      refine L.nil ?_
      -- cond
      refine J.iteT rfl ?_
      refine J.seq ?_
      refine J.region ?_
      -- callfn bushel/bushellaw30.awake
      refine L.call rfl en_17 rfl (awake30 _) ?_
      rintro e w5 ⟨rfl, he5⟩
      refine ⟨_, rfl, ?_⟩
      refine L.va rfl (X.assign (by conv => lhs; whnf)) ?_
      refine L.nil ?_
      -- ret
      refine J.ret ?_
      refine thn_ret <| ?_
      refine fin1 ?_
      exact ⟨rfl, he04.trans he5⟩
    · refine L.caseBF (k := 21) rfl (by rfl) ?_
      have H4 := (hH.ext he04).here (hl1' rfl)
      have q4 := (hq.ext he04).more he04.le
      have z4 := (hz.ext he04).more he04.le
      refine L.va rfl (X.move (by conv => lhs; whnf)) ?_
      refine L.va rfl (X.len rfl Try.underlying25) ?_
      refine L.va rfl (X.gtr rfl rfl) ?_
      refine L.va rfl (X.pickF rfl (by conv => lhs; whnf)) ?_
      refine L.nil ?_
      -- cond
      refine J.dec rfl (fun hbig => ?_) (fun hbig => ?_)
      · refine J.seq ?_
        refine J.region ?_
        -- callfn bushel/bushellaw30.awake
        refine L.call rfl en_17 rfl (awake30 _) ?_
        rintro e w5 ⟨rfl, he5⟩
        refine ⟨_, rfl, ?_⟩
        refine L.va rfl (X.assign (by conv => lhs; whnf)) ?_
        refine L.nil ?_
        -- ret
        refine J.ret ?_
        refine thn_ret <| ?_
        refine fin1 ?_
        exact ⟨rfl, he04.trans he5⟩
      by_cases hc : qcode s q = 0
      · refine J.skip ?_
        refine J.seq ?_
        refine J.region ?_
        refine L.va rfl ((by first | exact X.loadAgg rfl (range_l hk12) Try.underlying34 rfl (by kernel_rfl) | exact X.loadAgg rfl (range_blk hk12) Try.underlying34 rfl (by kernel_rfl) | exact X.loadAgg rfl (range_l hk2) Try.underlying34 rfl (by kernel_rfl) | exact X.loadAgg rfl (range_blk hk2) Try.underlying34 rfl (by kernel_rfl))) ?_
        refine L.va rfl ((by first | exact X.loadAgg rfl (range_l hk12) Try.underlying40 rfl (by kernel_rfl) | exact X.loadAgg rfl (range_blk hk12) Try.underlying40 rfl (by kernel_rfl) | exact X.loadAgg rfl (range_l hk2) Try.underlying40 rfl (by kernel_rfl) | exact X.loadAgg rfl (range_blk hk2) Try.underlying40 rfl (by kernel_rfl))) ?_
        -- callfn bushel/plan.Serve
        refine L.call rfl en_18 rfl (serve_yes H4 q4 hc) ?_
        rintro e w5 ⟨A5, c5, rfl, ho5, he5⟩
        refine ⟨_, rfl, ?_⟩
        have he05 := he04.trans he5
        replace hk12 := hk12.ext he5
        replace hk2 := hk2.ext he5
        have c6 := pick_yes ⟨A2, n2, c2, z⟩ (H4.ext he5) ((q4.ext he5).more he5.le) ((z4.ext he5).more he5.le) hc
        obtain ⟨t, ht⟩ := srv_first (base_sub H4 q4 hc) s.nv
        rw [Nat.add_comm] at ht
        have hmin := cv_min s.V (qneed q) z (1 + s.nv) (by rw [ht]; exact List.cons_ne_nil _ _)
        have hbd := srv_bd s.V (qneed q) (1 + s.nv)
        have hln := srv_len s.V (qneed q) (1 + s.nv)
        have hnv := H4.hle
        obtain ⟨Rs, hR⟩ : ∃ Rs, Rs = srv s.V (qneed q) (1 + s.nv) := ⟨_, rfl⟩
        rw [← hR] at ht hmin hbd hln ho5 ⊢
        obtain ⟨hm1, hm2⟩ := hmin
        have hm3 := hbd _ hm1
        obtain ⟨m, hm⟩ : ∃ m : Nat, cvA s.V (qneed q) z (1 + s.nv) = (m : Int) := ⟨_, (Int.toNat_of_nonneg hm3.1).symm⟩
        have c6 : Calls Try.prog 19 #[s.val, .slice A2 n2 c2, q.val] w5 fun e w' => e = .returned (.tuple #[.int .i64 (cvA s.V (qneed q) z (1 + s.nv)), .int .i64 0]) ∧ Ext w5 w' := c6
        rw [hm] at hm1 hm2 c6
        obtain ⟨jm, hjm, ejm⟩ := List.getElem_of_mem hm1
        have hl0 : Rs.length = t.length + 1 := by rw [ht]; rfl
        refine L.va rfl (X.move (by conv => lhs; whnf)) ?_
        refine L.va rfl (X.extract rfl rfl) ?_
        refine L.va rfl (X.extract rfl rfl) ?_
        refine L.va rfl (X.assign (by conv => lhs; whnf)) ?_
        refine L.va rfl (X.assign (by conv => lhs; whnf)) ?_
        refine L.nil ?_
        refine J.seq ?_
        refine J.region ?_
        refine L.va rfl ((by first | exact X.loadAgg rfl (range_l hk12) Try.underlying34 rfl (by kernel_rfl) | exact X.loadAgg rfl (range_blk hk12) Try.underlying34 rfl (by kernel_rfl) | exact X.loadAgg rfl (range_l hk2) Try.underlying34 rfl (by kernel_rfl) | exact X.loadAgg rfl (range_blk hk2) Try.underlying34 rfl (by kernel_rfl))) ?_
        refine L.va rfl (X.move (by conv => lhs; whnf)) ?_
        refine L.va rfl ((by first | exact X.loadAgg rfl (range_l hk12) Try.underlying40 rfl (by kernel_rfl) | exact X.loadAgg rfl (range_blk hk12) Try.underlying40 rfl (by kernel_rfl) | exact X.loadAgg rfl (range_l hk2) Try.underlying40 rfl (by kernel_rfl) | exact X.loadAgg rfl (range_blk hk2) Try.underlying40 rfl (by kernel_rfl))) ?_
        -- callfn bushel/plan.Pick
        refine L.call rfl en_19 rfl (c6) ?_
        rintro e w6 ⟨rfl, he6⟩
        refine ⟨_, rfl, ?_⟩
        have he06 := he05.trans he6
        have z6 := hz.ext he06
        have r6 := (Reads.of_own ho5).ext he6
        have hA := r6.some_ (by omega)
        have l0 : Ld w6 (pA A5 0) (.int .i64 ((0 : Nat) : Int)) := by have h := Ld.num (j := 0) r6 (by omega); rw [show Rs.getD 0 0 = ((0 : Nat) : Int) by rw [ht]; rfl] at h; exact h
        refine L.va rfl (X.move (by conv => lhs; whnf)) ?_
        refine L.va rfl (X.extract rfl rfl) ?_
        refine L.va rfl (X.extract rfl rfl) ?_
        refine L.va rfl (X.assign (by conv => lhs; whnf)) ?_
        refine L.va rfl (X.assign (by conv => lhs; whnf)) ?_
        refine L.nil ?_
        refine J.seq ?_
        refine J.seq ?_
        refine J.region ?_
        refine L.va rfl (X.move (by conv => lhs; whnf)) ?_
        refine L.va rfl (X.neq rfl rfl) ?_
        refine L.va rfl (X.move (by conv => lhs; whnf)) ?_
        -- case t42
        refine L.caseNdecF (k := 42) rfl (by decide) ?_
        refine L.va rfl (X.move (by conv => lhs; whnf)) ?_
        refine L.va rfl (X.neq rfl rfl) ?_
        refine L.va rfl (X.pickF rfl (by conv => lhs; whnf)) ?_
        refine L.nil ?_
        -- cond
        refine J.iteF rfl ?_
        refine J.skip ?_
        refine J.seq ?_
        refine J.region ?_
        refine L.va rfl (X.assign (by conv => lhs; whnf)) ?_
        refine L.nil ?_
        refine J.seq ?_
        refine J.seq ?_
        refine J.region ?_
        refine L.va rfl (X.assign (by conv => lhs; whnf)) ?_
        refine L.nil ?_
        refine J.block ?_
        -- loop
        refine J.loop (X := Nat × Bool) [6, 11, 12, 52, 53, 54, 55, 56, 57, 58, 59, 60, 61, 62, 63, 64, 65, 66, 67, 68, 69, 70, 71, 72, 73, 74, 75, 76] (fun (i, b) => [(12, .int .i64 (i : Int)), (11, .bool b)]) (fun (i, b) w' => w' = w6 ∧ i ≤ Rs.length ∧ (jm < i → b = true)) (fun (i, _) => Rs.length - i) ((0, false)) (At2 (by first | rfl | exact at_int rfl (by omega) | exact at_slice rfl (by omega) | exact at_int rfl (by simp)) (by first | rfl | exact at_int rfl (by omega) | exact at_slice rfl (by omega) | exact at_int rfl (by simp))) ?_ ?_
        · exact ⟨rfl, Nat.zero_le _, fun h => absurd h (Nat.not_lt_zero _)⟩
        · rintro ⟨i, b⟩ g w7 ⟨rfl, hi, hP⟩
          refine J.seq ?_
          refine J.seq ?_
          refine J.region ?_
          refine L.va rfl (X.move (by conv => lhs; whnf)) ?_
          refine L.va rfl (X.move (by conv => lhs; whnf)) ?_
          refine L.va rfl (X.len rfl Try.underlying25) ?_
          refine L.va rfl (X.lss rfl rfl) ?_
          refine L.nil ?_
          -- cond
          refine J.dec rfl (fun hlt => ?_) (fun hlt => ?_)
          · have hin : i < Rs.length := by omega
            have hmem := List.getElem_mem hin
            have hgt : Rs.getD i 0 = Rs[i] := by rw [List.getD, List.getElem?_eq_getElem hin]; rfl
            have hy0 := hbd _ hmem
            obtain ⟨y, hy⟩ : ∃ y : Nat, Rs[i] = (y : Int) := ⟨_, (Int.toNat_of_nonneg hy0.1).symm⟩
            have hy2 := hm2 _ hmem
            rw [hy] at hgt hy2
            have hld : Ld w7 (pA A5 i) (.int .i64 (y : Int)) := by have h := Ld.num (j := i) r6 (by omega); rwa [hgt] at h
            refine J.skip ?_
            refine J.seq ?_
            refine J.block ?_
            refine J.seq ?_
            refine J.seq ?_
            refine J.region ?_
            refine L.va rfl (X.move (by conv => lhs; whnf)) ?_
            refine L.va rfl (X.move (by conv => lhs; whnf)) ?_
            refine L.va rfl (X.move (by conv => lhs; whnf)) ?_
            refine L.va rfl ((by first | exact X.index1n rfl rfl Try.underlying25 sz_3 (by first | exact Option.some_ne_none _ | exact hA | exact hld) (by omega) | exact X.index1 rfl rfl Try.underlying25 sz_3 (by first | exact Option.some_ne_none _ | exact hA | exact hld) (by omega))) ?_
            refine L.va rfl (X.load rfl sc_3 (by first | exact Ld.blk hk12 rfl | exact Ld.blk hk2 rfl | exact hA | exact hld)) ?_
            -- callfn bushel/bushelref30.Size
            refine L.call rfl en_20 rfl (rsize30 A2 n2 c2 z y z6.r) ?_
            rintro e _ ⟨rfl, rfl⟩
            refine ⟨_, rfl, ?_⟩
            refine L.va rfl (X.move (by conv => lhs; whnf)) ?_
            refine L.va rfl (X.move (by conv => lhs; whnf)) ?_
            -- callfn bushel/bushelref30.Size
            refine L.call rfl en_20 rfl (rsize30 A2 n2 c2 z m z6.r) ?_
            rintro e _ ⟨rfl, rfl⟩
            refine ⟨_, rfl, ?_⟩
            refine L.va rfl (X.lss rfl rfl) ?_
            refine L.nil ?_
            -- cond
            refine J.decF rfl (by omega) ?_
            refine J.skip ?_
            refine J.region ?_
            refine L.va rfl (X.move (by conv => lhs; whnf)) ?_
            refine L.va rfl (X.move (by conv => lhs; whnf)) ?_
            -- case t69
            cases b
            · refine L.caseBF (k := 69) rfl (by rfl) ?_
              refine L.va rfl (X.move (by conv => lhs; whnf)) ?_
              refine L.va rfl (X.move (by conv => lhs; whnf)) ?_
              refine L.va rfl ((by first | exact X.index1n rfl rfl Try.underlying25 sz_3 (by first | exact Option.some_ne_none _ | exact hA | exact hld) (by omega) | exact X.index1 rfl rfl Try.underlying25 sz_3 (by first | exact Option.some_ne_none _ | exact hA | exact hld) (by omega))) ?_
              refine L.va rfl (X.load rfl sc_3 (by first | exact Ld.blk hk12 rfl | exact Ld.blk hk2 rfl | exact hA | exact hld)) ?_
              refine L.va rfl (X.move (by conv => lhs; whnf)) ?_
              refine L.va rfl (X.eql rfl rfl) ?_
              refine L.va rfl (X.pickF rfl (by conv => lhs; whnf)) ?_
              refine L.va rfl (X.assign (by conv => lhs; whnf)) ?_
              refine L.nil ?_
              refine J.region ?_
              refine L.va rfl (X.move (by conv => lhs; whnf)) ?_
              refine L.va rfl (X.add rfl rfl (by omega)) ?_
              refine L.va rfl (X.assign (by conv => lhs; whnf)) ?_
              refine L.nil ?_
              -- loopend
              refine ⟨(i + 1, decide ((y : Int) = (m : Int))), At2 (by first | rfl | exact at_int rfl (by omega) | exact at_slice rfl (by omega) | exact at_int rfl (by simp)) (by first | rfl | exact at_int rfl (by omega) | exact at_slice rfl (by omega) | exact at_int rfl (by simp)), (by (iterate 28 refine Agr.lk rfl ?_); exact Agr.lk rfl (Agr.hav rfl Agr.rfl')), ?_⟩
              refine ⟨⟨rfl, by omega, fun hj => ?_⟩, by show Rs.length - (i + 1) < Rs.length - i; omega⟩
              rcases Nat.lt_or_ge jm i with h | h
              · exact absurd (hP h) (by decide)
              · obtain rfl : jm = i := by omega
                refine decide_eq_true ?_
                rw [← hy, ejm]
            · refine L.caseBT (k := 69) rfl (by rfl) ?_
              refine L.no rfl ?_
              refine L.no rfl ?_
              refine L.no rfl ?_
              refine L.no rfl ?_
              refine L.no rfl ?_
              refine L.no rfl ?_
              refine L.va rfl (X.pickT rfl (by conv => lhs; whnf)) ?_
              refine L.va rfl (X.assign (by conv => lhs; whnf)) ?_
              refine L.nil ?_
              refine J.region ?_
              refine L.va rfl (X.move (by conv => lhs; whnf)) ?_
              refine L.va rfl (X.add rfl rfl (by omega)) ?_
              refine L.va rfl (X.assign (by conv => lhs; whnf)) ?_
              refine L.nil ?_
              -- loopend
              refine ⟨(i + 1, true), At2 (by first | rfl | exact at_int rfl (by omega) | exact at_slice rfl (by omega) | exact at_int rfl (by simp)) (by first | rfl | exact at_int rfl (by omega) | exact at_slice rfl (by omega) | exact at_int rfl (by simp)), (by (iterate 28 refine Agr.lk rfl ?_); exact Agr.lk rfl (Agr.hav rfl Agr.rfl')), ?_⟩
              exact ⟨⟨rfl, by omega, fun _ => rfl⟩, by show Rs.length - (i + 1) < Rs.length - i; omega⟩
          · obtain rfl : i = Rs.length := by omega
            obtain rfl : b = true := hP hjm
            refine J.exit ?_
            refine J.seq ?_
            refine J.region ?_
            refine L.va rfl (X.move (by conv => lhs; whnf)) ?_
            refine L.va rfl (X.len rfl Try.underlying25) ?_
            refine L.va rfl (X.gtr rfl rfl) ?_
            refine L.va rfl (X.move (by conv => lhs; whnf)) ?_
            -- case t80
            refine L.caseDecT (k := 80) rfl (by omega) ?_
            refine L.va rfl (X.move (by conv => lhs; whnf)) ?_
            refine L.va rfl (X.index1n (j := 0) rfl rfl Try.underlying25 sz_3 (by first | exact Option.some_ne_none _ | exact hA | exact l0) (by omega)) ?_
            refine L.va rfl (X.load rfl sc_3 (by first | exact Ld.blk hk12 rfl | exact Ld.blk hk2 rfl | exact hA | exact l0)) ?_
            refine L.va rfl (X.eql rfl rfl) ?_
            refine L.va rfl (X.pickT rfl (by conv => lhs; whnf)) ?_
            refine L.va rfl (X.move (by conv => lhs; whnf)) ?_
            -- case t86
            refine L.caseDecT (k := 86) rfl (by rfl) ?_
            refine L.va rfl (X.move (by conv => lhs; whnf)) ?_
            refine L.va rfl (X.pickT rfl (by conv => lhs; whnf)) ?_
            refine L.va rfl (X.move (by conv => lhs; whnf)) ?_
            -- case t89
            refine L.caseBT (k := 89) rfl (by rfl) ?_
            -- callfn bushel/bushellaw30.awake
            refine L.call rfl en_17 rfl (awake30 _) ?_
            rintro e w8 ⟨rfl, he8⟩
            refine ⟨_, rfl, ?_⟩
            refine L.va rfl (X.pickT rfl (by conv => lhs; whnf)) ?_
            refine L.va rfl (X.assign (by conv => lhs; whnf)) ?_
            refine L.nil ?_
            -- ret
            refine J.ret ?_
            refine fin1 ?_
            exact ⟨rfl, he06.trans he8⟩
      · refine J.skip ?_
        refine J.seq ?_
        refine J.region ?_
        refine L.va rfl ((by first | exact X.loadAgg rfl (range_l hk12) Try.underlying34 rfl (by kernel_rfl) | exact X.loadAgg rfl (range_blk hk12) Try.underlying34 rfl (by kernel_rfl) | exact X.loadAgg rfl (range_l hk2) Try.underlying34 rfl (by kernel_rfl) | exact X.loadAgg rfl (range_blk hk2) Try.underlying34 rfl (by kernel_rfl))) ?_
        refine L.va rfl ((by first | exact X.loadAgg rfl (range_l hk12) Try.underlying40 rfl (by kernel_rfl) | exact X.loadAgg rfl (range_blk hk12) Try.underlying40 rfl (by kernel_rfl) | exact X.loadAgg rfl (range_l hk2) Try.underlying40 rfl (by kernel_rfl) | exact X.loadAgg rfl (range_blk hk2) Try.underlying40 rfl (by kernel_rfl))) ?_
        -- callfn bushel/plan.Serve
        refine L.call rfl en_18 rfl (serve_no H4 q4 hc) ?_
        rintro e w5 ⟨rfl, he5⟩
        refine ⟨_, rfl, ?_⟩
        have he05 := he04.trans he5
        replace hk12 := hk12.ext he5
        replace hk2 := hk2.ext he5
        refine L.va rfl (X.move (by conv => lhs; whnf)) ?_
        refine L.va rfl (X.extract rfl rfl) ?_
        refine L.va rfl (X.extract rfl rfl) ?_
        refine L.va rfl (X.assign (by conv => lhs; whnf)) ?_
        refine L.va rfl (X.assign (by conv => lhs; whnf)) ?_
        refine L.nil ?_
        refine J.seq ?_
        refine J.region ?_
        refine L.va rfl ((by first | exact X.loadAgg rfl (range_l hk12) Try.underlying34 rfl (by kernel_rfl) | exact X.loadAgg rfl (range_blk hk12) Try.underlying34 rfl (by kernel_rfl) | exact X.loadAgg rfl (range_l hk2) Try.underlying34 rfl (by kernel_rfl) | exact X.loadAgg rfl (range_blk hk2) Try.underlying34 rfl (by kernel_rfl))) ?_
        refine L.va rfl (X.move (by conv => lhs; whnf)) ?_
        refine L.va rfl ((by first | exact X.loadAgg rfl (range_l hk12) Try.underlying40 rfl (by kernel_rfl) | exact X.loadAgg rfl (range_blk hk12) Try.underlying40 rfl (by kernel_rfl) | exact X.loadAgg rfl (range_l hk2) Try.underlying40 rfl (by kernel_rfl) | exact X.loadAgg rfl (range_blk hk2) Try.underlying40 rfl (by kernel_rfl))) ?_
        -- callfn bushel/plan.Pick
        have c6 := pick_no ⟨A2, n2, c2, z⟩ (H4.ext he5) ((q4.ext he5).more he5.le) hc
        refine L.call rfl en_19 rfl (c6) ?_
        rintro e w6 ⟨rfl, he6⟩
        refine ⟨_, rfl, ?_⟩
        have he6 : Ext w5 w6 := he6
        refine L.va rfl (X.move (by conv => lhs; whnf)) ?_
        refine L.va rfl (X.extract rfl rfl) ?_
        refine L.va rfl (X.extract rfl rfl) ?_
        refine L.va rfl (X.assign (by conv => lhs; whnf)) ?_
        refine L.va rfl (X.assign (by conv => lhs; whnf)) ?_
        refine L.nil ?_
        refine J.seq ?_
        refine J.seq ?_
        refine J.region ?_
        refine L.va rfl (X.move (by conv => lhs; whnf)) ?_
        refine L.va rfl (X.neq rfl rfl) ?_
        refine L.va rfl (X.move (by conv => lhs; whnf)) ?_
        -- case t42
        refine L.caseNdecT (k := 42) rfl (by exact hc) ?_
        refine L.no rfl ?_
        refine L.no rfl ?_
        refine L.va rfl (X.pickT rfl (by conv => lhs; whnf)) ?_
        refine L.nil ?_
        -- cond
        refine J.iteT rfl ?_
        refine J.seq ?_
        refine J.region ?_
        refine L.va rfl (X.move (by conv => lhs; whnf)) ?_
        refine L.va rfl (X.move (by conv => lhs; whnf)) ?_
        refine L.va rfl (X.eql rfl rfl) ?_
        refine L.va rfl (X.move (by conv => lhs; whnf)) ?_
        -- case t49
        refine L.caseDecT (k := 49) rfl (by rfl) ?_
        -- callfn bushel/bushellaw30.awake
        refine L.call rfl en_17 rfl (awake30 _) ?_
        rintro e w7 ⟨rfl, he7⟩
        refine ⟨_, rfl, ?_⟩
        refine L.va rfl (X.pickT rfl (by conv => lhs; whnf)) ?_
        refine L.va rfl (X.assign (by conv => lhs; whnf)) ?_
        refine L.nil ?_
        -- ret
        refine J.ret ?_
        refine thn_ret <| ?_
        refine fin1 ?_
        exact ⟨rfl, (he05.trans he6).trans he7⟩
end Go.Proofs.Ytlohbkcedpkjaaa
