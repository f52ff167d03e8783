/-
  The law PlanPicks, walked.
-/
import Derived.Test.YtlohbkcedpkjaaaWPlanF
import Derived.Test.YtlohbkcedpkjaaaWPlanE
namespace Go.Proofs.Ytlohbkcedpkjaaa
set_option maxRecDepth 100000
open Go.RowKit H
open Mk
set_option linter.unusedVariables false
theorem law_PlanPicks (w : World) (vs0 : List Value) (a0 : (List ((Str) × (Nm .i64))) × (List (Str)) × (List (Str)) × (List (Nm .u32))) (hl0 : Lay.lies w w.heap.size vs0 a0) (vs1 : List Value) (a1 : (Nm .u32) × (List ((Nm .i64) × (List (Nm .i64)))) × (List ((Nm .i64) × (Nm .i64))) × (List ((Nm .i64) × (Bool))) × (Nm .i64)) (hl1 : Lay.lies w w.heap.size vs1 a1) (A2 : Option Addr) (n2 c2 : Nat) (xs2 : List (Nm .i64)) (hn2 : n2 ≤ c2) (hc2 : c2 ≤ maxLen) (hA2 : A2 = none → c2 = 0) (hl2 : LiesSlice w w.heap.size A2 n2 xs2) :
    Calls Try.prog 5 #[.agg vs0.toArray, .agg vs1.toArray, .slice A2 n2 c2] w fun e w' => e = .returned (.bool true) ∧ Below w.heap.size w w' := by
  obtain ⟨s, rfl, hH⟩ := sch_of hl0
  obtain ⟨q, rfl, hq⟩ := qu_of hl1
  have hzb := sz_bd xs2
  have hzr := hl2.reads
  obtain ⟨z, hz⟩ : ∃ z, z = zsOf xs2 := ⟨_, rfl⟩
  rw [← hz] at hzb hzr
  have hz : (Sz.mk A2 n2 c2 z).At w.heap.size w := ⟨hzr⟩
  have hlz : z.length = n2 := hz.len
  refine enter Try.func5 rfl (by kernel_rfl) ?_
  refine J.seq ?_
  refine J.region ?_
  -- box
  refine L.boxA (l := [_, _, _, _]) rfl rfl ?_
  intro b1 w1 hb1 hs1 hk1 he1
  -- box
  refine L.boxA (l := [_, _, _, _, _]) rfl rfl ?_
  intro b2 w2 hb2 hs2 hk2 he2
  have hk12 := hk1.ext he2
  have he02 := he1.trans he2
  have hk2 : Blk w2 b2 40 q.vs.toArray := hk2
  refine L.va rfl (X.assign (by conv => lhs; whnf)) ?_
  refine L.nil ?_
  refine J.seq ?_
  refine J.seq ?_
  refine J.region ?_
  refine L.va rfl ((by first | exact X.loadAgg rfl (range_l hk12) Try.underlying34 rfl (by kernel_rfl) | exact X.loadAgg rfl (range_blk hk12) Try.underlying34 rfl (by kernel_rfl) | exact X.loadAgg rfl (range_l hk2) Try.underlying34 rfl (by kernel_rfl) | exact X.loadAgg rfl (range_blk hk2) Try.underlying34 rfl (by kernel_rfl))) ?_
  -- callfn bushel/bushelref11.Light
  refine L.call rfl en_15 rfl ((hH.ext he02).light) ?_
  rintro e w3 ⟨l1, rfl, hl1', he3⟩
  refine ⟨_, rfl, ?_⟩
  have he3 : Ext w2 w3 := he3
  have he03 := he02.trans he3
  replace hk12 := hk12.ext he3
  replace hk2 := hk2.ext he3
  refine L.va rfl (X.not rfl) ?_
  refine L.va rfl (X.move (by conv => lhs; whnf)) ?_
  -- case t18
  cases l1
  · refine L.caseBT (k := 18) rfl (by rfl) ?_
    refine L.no rfl ?_
    refine L.no rfl ?_
    refine L.no rfl ?_
    refine L.va rfl (X.pickT rfl (by conv => lhs; whnf)) ?_
    refine L.va rfl (X.move (by conv => lhs; whnf)) ?_
    refine L.no rfl ?_
    refine L.no rfl ?_
    refine L.no rfl ?_
    refine L.va rfl (X.pickT rfl (by conv => lhs; whnf)) ?_
    refine L.nil ?_
    -- cond
    refine J.iteT rfl ?_
    refine J.seq ?_
    refine J.region ?_
    -- callfn bushel/bushellaw30.awake
    refine L.call rfl en_17 rfl (awake30 _) ?_
    rintro e w4 ⟨rfl, he4⟩
    refine ⟨_, rfl, ?_⟩
    refine L.va rfl (X.assign (by conv => lhs; whnf)) ?_
    refine L.nil ?_
    -- ret
    refine J.ret ?_
    refine thn_ret <| ?_
    refine fin1 ?_
    exact ⟨rfl, he03.trans he4⟩
  · refine L.caseBF (k := 18) rfl (by rfl) ?_
    refine L.va rfl ((by first | exact X.loadAgg rfl (range_l hk12) Try.underlying40 rfl (by kernel_rfl) | exact X.loadAgg rfl (range_blk hk12) Try.underlying40 rfl (by kernel_rfl) | exact X.loadAgg rfl (range_l hk2) Try.underlying40 rfl (by kernel_rfl) | exact X.loadAgg rfl (range_blk hk2) Try.underlying40 rfl (by kernel_rfl))) ?_
    -- callfn bushel/bushelref29.Light
    refine L.call rfl en_16 rfl (light29 q ((hq.ext he03).more he03.le)) ?_
    rintro e w4 ⟨⟨l2, rfl⟩, he4⟩
    refine ⟨_, rfl, ?_⟩
    have he04 := he03.trans he4
    replace hk12 := hk12.ext he4
    replace hk2 := hk2.ext he4
    refine L.va rfl (X.not rfl) ?_
    refine L.va rfl (X.pickF rfl (by conv => lhs; whnf)) ?_
    refine L.va rfl (X.move (by conv => lhs; whnf)) ?_
    -- case t23
    cases l2
    · refine L.caseBT (k := 23) rfl (by rfl) ?_
      refine L.no rfl ?_
      refine L.no rfl ?_
      refine L.no rfl ?_
      refine L.va rfl (X.pickT rfl (by conv => lhs; whnf)) ?_
      refine L.nil ?_
      -- cond
      refine J.iteT rfl ?_
      refine J.seq ?_
      refine J.region ?_
      -- callfn bushel/bushellaw30.awake
      refine L.call rfl en_17 rfl (awake30 _) ?_
      rintro e w5 ⟨rfl, he5⟩
      refine ⟨_, rfl, ?_⟩
      refine L.va rfl (X.assign (by conv => lhs; whnf)) ?_
      refine L.nil ?_
      -- ret
      refine J.ret ?_
      refine thn_ret <| ?_
      refine fin1 ?_
      exact ⟨rfl, he04.trans he5⟩
    · refine L.caseBF (k := 23) rfl (by rfl) ?_
      have H4 := (hH.ext he04).here (hl1' rfl)
      have q4 := (hq.ext he04).more he04.le
      have z4 := (hz.ext he04).more he04.le
      refine L.va rfl (X.move (by conv => lhs; whnf)) ?_
      refine L.va rfl (X.len rfl Try.underlying25) ?_
      refine L.va rfl (X.gtr rfl rfl) ?_
      refine L.va rfl (X.pickF rfl (by conv => lhs; whnf)) ?_
      refine L.nil ?_
      -- cond
      refine J.dec rfl (fun hbig => ?_) (fun hbig => ?_)
      · refine J.seq ?_
        refine J.region ?_
        -- callfn bushel/bushellaw30.awake
        refine L.call rfl en_17 rfl (awake30 _) ?_
        rintro e w5 ⟨rfl, he5⟩
        refine ⟨_, rfl, ?_⟩
        refine L.va rfl (X.assign (by conv => lhs; whnf)) ?_
        refine L.nil ?_
        -- ret
        refine J.ret ?_
        refine thn_ret <| ?_
        refine fin1 ?_
        exact ⟨rfl, he04.trans he5⟩
      by_cases hc : qcode s q = 0
      · refine J.skip ?_
        refine J.seq ?_
        refine J.region ?_
        refine L.va rfl ((by first | exact X.loadAgg rfl (range_l hk12) Try.underlying34 rfl (by kernel_rfl) | exact X.loadAgg rfl (range_blk hk12) Try.underlying34 rfl (by kernel_rfl) | exact X.loadAgg rfl (range_l hk2) Try.underlying34 rfl (by kernel_rfl) | exact X.loadAgg rfl (range_blk hk2) Try.underlying34 rfl (by kernel_rfl))) ?_
        refine L.va rfl ((by first | exact X.loadAgg rfl (range_l hk12) Try.underlying40 rfl (by kernel_rfl) | exact X.loadAgg rfl (range_blk hk12) Try.underlying40 rfl (by kernel_rfl) | exact X.loadAgg rfl (range_l hk2) Try.underlying40 rfl (by kernel_rfl) | exact X.loadAgg rfl (range_blk hk2) Try.underlying40 rfl (by kernel_rfl))) ?_
        -- callfn bushel/plan.Serve
        refine L.call rfl en_18 rfl (serve_yes H4 q4 hc) ?_
        rintro e w5 ⟨A5, c5, rfl, ho5, he5⟩
        refine ⟨_, rfl, ?_⟩
        have he05 := he04.trans he5
        replace hk12 := hk12.ext he5
        replace hk2 := hk2.ext he5
        have c6 := pick_yes ⟨A2, n2, c2, z⟩ (H4.ext he5) ((q4.ext he5).more he5.le) ((z4.ext he5).more he5.le) hc
        obtain ⟨t, ht⟩ := srv_first (base_sub H4 q4 hc) s.nv
        rw [Nat.add_comm] at ht
        have hmin := cv_min s.V (qneed q) z (1 + s.nv) (by rw [ht]; exact List.cons_ne_nil _ _)
        have hbd := srv_bd s.V (qneed q) (1 + s.nv)
        have hln := srv_len s.V (qneed q) (1 + s.nv)
        have hnv := H4.hle
        have hm3 := hbd _ hmin.1
        have c6 : Calls Try.prog 19 #[s.val, .slice A2 n2 c2, q.val] w5 fun e w' => e = .returned (.tuple #[.int .i64 (cvA s.V (qneed q) z (1 + s.nv)), .int .i64 0]) ∧ Ext w5 w' := c6
        obtain ⟨m, hm⟩ : ∃ m : Nat, cvA s.V (qneed q) z (1 + s.nv) = (m : Int) := ⟨_, (Int.toNat_of_nonneg hm3.1).symm⟩
        have cp := fun (w : World) (H : s.Here w) (hq : q.At w.heap.size w) (hz : (Sz.mk A2 n2 c2 z).At w.heap.size w) => (rpick ⟨A2, n2, c2, z⟩ H hq hz hc : Calls Try.prog 24 #[s.val, .slice A2 n2 c2, q.val] w fun e w' => e = .returned (.int .i64 (cvA s.V (qneed q) z (1 + s.nv))) ∧ Ext w w')
        rw [hm] at c6 cp
        obtain ⟨pp, hpp⟩ : ∃ pp : Int, pp = (m : Int) := ⟨_, rfl⟩
        rw [← hpp] at cp
        refine L.va rfl (X.move (by conv => lhs; whnf)) ?_
        refine L.va rfl (X.extract rfl rfl) ?_
        refine L.va rfl (X.extract rfl rfl) ?_
        refine L.va rfl (X.assign (by conv => lhs; whnf)) ?_
        refine L.va rfl (X.assign (by conv => lhs; whnf)) ?_
        refine L.nil ?_
        refine J.seq ?_
        refine J.region ?_
        refine L.va rfl ((by first | exact X.loadAgg rfl (range_l hk12) Try.underlying34 rfl (by kernel_rfl) | exact X.loadAgg rfl (range_blk hk12) Try.underlying34 rfl (by kernel_rfl) | exact X.loadAgg rfl (range_l hk2) Try.underlying34 rfl (by kernel_rfl) | exact X.loadAgg rfl (range_blk hk2) Try.underlying34 rfl (by kernel_rfl))) ?_
        refine L.va rfl (X.move (by conv => lhs; whnf)) ?_
        refine L.va rfl ((by first | exact X.loadAgg rfl (range_l hk12) Try.underlying40 rfl (by kernel_rfl) | exact X.loadAgg rfl (range_blk hk12) Try.underlying40 rfl (by kernel_rfl) | exact X.loadAgg rfl (range_l hk2) Try.underlying40 rfl (by kernel_rfl) | exact X.loadAgg rfl (range_blk hk2) Try.underlying40 rfl (by kernel_rfl))) ?_
        -- callfn bushel/plan.Pick
        refine L.call rfl en_19 rfl (c6) ?_
        rintro e w6 ⟨rfl, he6⟩
        refine ⟨_, rfl, ?_⟩
        have he06 := he05.trans he6
        have z6 := hz.ext he06
        have H6 := (H4.ext he5).ext he6
        have q6 := ((q4.ext (he5.trans he6)).more (he5.trans he6).le)
        have c7 := gain_yes ⟨A2, n2, c2, z⟩ H6 q6 (z6.more he06.le) (show n2 ≤ 1000000 by omega) hzb hc
        have c7 : Calls Try.prog 21 #[s.val, .slice A2 n2 c2, q.val] w6 fun e w' => (e = .returned (if (∃ i, i < n2 ∧ z.getD i 0 < 0) then .tuple #[.int .i64 0, .int .i64 2] else .tuple #[.int .i64 (max (szA z 0 - szA z (cvA s.V (qneed q) z (1 + s.nv))) 0), .int .i64 0])) ∧ Ext w6 w' := c7
        rw [hm] at c7
        replace hk12 := hk12.ext he6
        replace hk2 := hk2.ext he6
        refine L.va rfl (X.move (by conv => lhs; whnf)) ?_
        refine L.va rfl (X.extract rfl rfl) ?_
        refine L.va rfl (X.extract rfl rfl) ?_
        refine L.va rfl (X.assign (by conv => lhs; whnf)) ?_
        refine L.va rfl (X.assign (by conv => lhs; whnf)) ?_
        refine L.nil ?_
        refine J.seq ?_
        refine J.region ?_
        refine L.va rfl ((by first | exact X.loadAgg rfl (range_l hk12) Try.underlying34 rfl (by kernel_rfl) | exact X.loadAgg rfl (range_blk hk12) Try.underlying34 rfl (by kernel_rfl) | exact X.loadAgg rfl (range_l hk2) Try.underlying34 rfl (by kernel_rfl) | exact X.loadAgg rfl (range_blk hk2) Try.underlying34 rfl (by kernel_rfl))) ?_
        refine L.va rfl (X.move (by conv => lhs; whnf)) ?_
        refine L.va rfl ((by first | exact X.loadAgg rfl (range_l hk12) Try.underlying40 rfl (by kernel_rfl) | exact X.loadAgg rfl (range_blk hk12) Try.underlying40 rfl (by kernel_rfl) | exact X.loadAgg rfl (range_l hk2) Try.underlying40 rfl (by kernel_rfl) | exact X.loadAgg rfl (range_blk hk2) Try.underlying40 rfl (by kernel_rfl))) ?_
        -- callfn bushel/plan.Gain
        by_cases hneg : ∃ i, i < n2 ∧ z.getD i 0 < 0
        · rw [if_pos hneg] at c7
          refine L.call rfl en_21 rfl (c7) ?_
          rintro e w7 ⟨rfl, he7⟩
          refine ⟨_, rfl, ?_⟩
          have he07 := he06.trans he7
          have H7 := H6.ext he7
          have q7 := (q6.ext he7).more he7.le
          replace hk12 := hk12.ext he7
          replace hk2 := hk2.ext he7
          refine L.va rfl (X.move (by conv => lhs; whnf)) ?_
          refine L.va rfl (X.extract rfl rfl) ?_
          refine L.va rfl (X.extract rfl rfl) ?_
          refine L.va rfl (X.assign (by conv => lhs; whnf)) ?_
          refine L.va rfl (X.assign (by conv => lhs; whnf)) ?_
          refine L.nil ?_
          refine J.seq ?_
          refine J.seq ?_
          refine J.region ?_
          refine L.va rfl ((by first | exact X.loadAgg rfl (range_l hk12) Try.underlying34 rfl (by kernel_rfl) | exact X.loadAgg rfl (range_blk hk12) Try.underlying34 rfl (by kernel_rfl) | exact X.loadAgg rfl (range_l hk2) Try.underlying34 rfl (by kernel_rfl) | exact X.loadAgg rfl (range_blk hk2) Try.underlying34 rfl (by kernel_rfl))) ?_
          refine L.va rfl ((by first | exact X.loadAgg rfl (range_l hk12) Try.underlying40 rfl (by kernel_rfl) | exact X.loadAgg rfl (range_blk hk12) Try.underlying40 rfl (by kernel_rfl) | exact X.loadAgg rfl (range_l hk2) Try.underlying40 rfl (by kernel_rfl) | exact X.loadAgg rfl (range_blk hk2) Try.underlying40 rfl (by kernel_rfl))) ?_
          -- callfn bushel/bushelref29.Check
          refine L.call rfl en_22 rfl (rqcheck H7 q7) ?_
          rintro e w8 ⟨rfl, he8⟩
          refine ⟨_, rfl, ?_⟩
          have he08 := he07.trans he8
          have H8 := H7.ext he8
          have q8 := (q7.ext he8).more he8.le
          rw [hc]
          replace hk12 := hk12.ext he8
          replace hk2 := hk2.ext he8
          refine L.va rfl (X.assign (by conv => lhs; whnf)) ?_
          refine L.nil ?_
          refine J.seq ?_
          refine J.region ?_
          refine L.va rfl (X.move (by conv => lhs; whnf)) ?_
          refine L.va rfl (X.neq rfl rfl) ?_
          refine L.nil ?_
          -- cond
          refine J.ndecF rfl (by decide) ?_
          refine J.skip ?_
          refine J.seq ?_
          refine J.seq ?_
          refine J.region ?_
          refine L.va rfl (X.move (by conv => lhs; whnf)) ?_
          refine L.va rfl (X.neq rfl rfl) ?_
          refine L.va rfl (X.move (by conv => lhs; whnf)) ?_
          -- case t85
          refine L.caseNdecF (k := 85) rfl (by decide) ?_
          refine L.va rfl (X.move (by conv => lhs; whnf)) ?_
          refine L.va rfl (X.neq rfl rfl) ?_
          refine L.va rfl (X.pickF rfl (by conv => lhs; whnf)) ?_
          refine L.va rfl (X.move (by conv => lhs; whnf)) ?_
          -- case t89
          refine L.caseNdecF (k := 89) rfl (by decide) ?_
          refine L.va rfl (X.move (by conv => lhs; whnf)) ?_
          refine L.va rfl ((by first | exact X.loadAgg rfl (range_l hk12) Try.underlying34 rfl (by kernel_rfl) | exact X.loadAgg rfl (range_blk hk12) Try.underlying34 rfl (by kernel_rfl) | exact X.loadAgg rfl (range_l hk2) Try.underlying34 rfl (by kernel_rfl) | exact X.loadAgg rfl (range_blk hk2) Try.underlying34 rfl (by kernel_rfl))) ?_
          refine L.va rfl ((by first | exact X.loadAgg rfl (range_l hk12) Try.underlying40 rfl (by kernel_rfl) | exact X.loadAgg rfl (range_blk hk12) Try.underlying40 rfl (by kernel_rfl) | exact X.loadAgg rfl (range_l hk2) Try.underlying40 rfl (by kernel_rfl) | exact X.loadAgg rfl (range_blk hk2) Try.underlying40 rfl (by kernel_rfl))) ?_
          -- callfn bushel/bushelref30.Serve
          refine L.call rfl en_23 rfl (rserve H8 q8 hc) ?_
          rintro e w9 ⟨A9, c9, rfl, ho9, he9⟩
          refine ⟨_, rfl, ?_⟩
          have he09 := he08.trans he9
          have H9 := H8.ext he9
          have q9 := (q8.ext he9).more he9.le
          replace hk12 := hk12.ext he9
          replace hk2 := hk2.ext he9
          -- callfn bushel/bushelref16.Ints
          refine L.call rfl en_14 rfl (ints16 A5 _ c5 A9 _ c9 _ _ w9 (Reads.of_own ((((ho5.ext he6).ext he7).ext he8).ext he9)) (Reads.of_own ho9) (show (srv s.V (qneed q) (1 + s.nv)).length ≤ maxLen by unfold maxLen; omega) (show (srv s.V (qneed q) (1 + s.nv)).length ≤ maxLen by unfold maxLen; omega)) ?_
          rintro e w10 ⟨rfl, he10⟩
          refine ⟨_, rfl, ?_⟩
          have he010 := he09.trans he10
          rw [eqI_self]
          replace hk12 := hk12.ext he10
          replace hk2 := hk2.ext he10
          refine L.va rfl (X.not rfl) ?_
          refine L.va rfl (X.pickF rfl (by conv => lhs; whnf)) ?_
          refine L.va rfl (X.move (by conv => lhs; whnf)) ?_
          -- case t97
          refine L.caseBF (k := 97) rfl (by rfl) ?_
          refine L.va rfl (X.move (by conv => lhs; whnf)) ?_
          refine L.va rfl ((by first | exact X.loadAgg rfl (range_l hk12) Try.underlying34 rfl (by kernel_rfl) | exact X.loadAgg rfl (range_blk hk12) Try.underlying34 rfl (by kernel_rfl) | exact X.loadAgg rfl (range_l hk2) Try.underlying34 rfl (by kernel_rfl) | exact X.loadAgg rfl (range_blk hk2) Try.underlying34 rfl (by kernel_rfl))) ?_
          refine L.va rfl (X.move (by conv => lhs; whnf)) ?_
          refine L.va rfl ((by first | exact X.loadAgg rfl (range_l hk12) Try.underlying40 rfl (by kernel_rfl) | exact X.loadAgg rfl (range_blk hk12) Try.underlying40 rfl (by kernel_rfl) | exact X.loadAgg rfl (range_l hk2) Try.underlying40 rfl (by kernel_rfl) | exact X.loadAgg rfl (range_blk hk2) Try.underlying40 rfl (by kernel_rfl))) ?_
          -- callfn bushel/bushelref30.Pick
          refine L.call rfl en_24 rfl (cp w10 (H9.ext he10) ((q9.ext he10).more he10.le) ((hz.ext he010).more he010.le)) ?_
          rintro e w11 ⟨rfl, he11⟩
          refine ⟨_, rfl, ?_⟩
          have he011 := he010.trans he11
          have z11 := hz.ext he011
          refine L.va rfl (X.neq rfl rfl) ?_
          refine L.va rfl (X.pickF rfl (by conv => lhs; whnf)) ?_
          refine L.nil ?_
          -- cond
          refine J.ndecF rfl (by omega) ?_
          refine J.skip ?_
          refine J.seq ?_
          refine J.seq ?_
          refine J.region ?_
          refine L.va rfl (X.assign (by conv => lhs; whnf)) ?_
          refine L.nil ?_
          refine J.block ?_
          -- loop
          refine J.loop (X := Nat) [6, 14, 105, 106, 107, 108, 109, 110, 111, 112, 113, 114, 115, 116, 117, 118, 119, 120, 121, 122, 123, 124] (fun i => [(14, .int .i64 (i : Int))]) (fun i w' => w' = w11 ∧ i ≤ n2 ∧ ∀ j, j < i → ¬ z.getD j 0 < 0) (fun i => n2 - i) (0) (At1 (by first | rfl | exact at_int rfl (by omega) | exact at_slice rfl (by omega) | exact at_int rfl (by simp))) ?_ ?_
          · exact ⟨rfl, Nat.zero_le _, fun j hj => absurd hj (Nat.not_lt_zero _)⟩
          · rintro i g w12 ⟨rfl, hi, hP⟩
            have r12 : Reads w12 w.heap.size 1 A2 n2 (nums .i64 z) := z11.r
            refine J.seq ?_
            refine J.seq ?_
            refine J.region ?_
            refine L.va rfl (X.move (by conv => lhs; whnf)) ?_
            refine L.va rfl (X.move (by conv => lhs; whnf)) ?_
            refine L.va rfl (X.len rfl Try.underlying25) ?_
            refine L.va rfl (X.lss rfl rfl) ?_
            refine L.nil ?_
            -- cond
            refine J.dec rfl (fun hlt => ?_) (fun hlt => ?_)
            · have hA := r12.some_ (show 0 < n2 by omega)
              refine J.skip ?_
              refine J.seq ?_
              refine J.block ?_
              refine J.seq ?_
              refine J.region ?_
              refine L.va rfl (X.move (by conv => lhs; whnf)) ?_
              refine L.va rfl (X.move (by conv => lhs; whnf)) ?_
              refine L.va rfl ((by first | exact X.index1n rfl rfl Try.underlying25 sz_3 (by first | exact Option.some_ne_none _ | exact r12.some_ (by omega) | exact hA) (by omega) | exact X.index1 rfl rfl Try.underlying25 sz_3 (by first | exact Option.some_ne_none _ | exact r12.some_ (by omega) | exact hA) (by omega))) ?_
              refine L.va rfl (X.load rfl sc_3 (by first | exact Ld.blk hk12 rfl | exact Ld.blk hk2 rfl | exact Ld.num r12 (by omega) | exact hA)) ?_
              refine L.va rfl (X.lss rfl rfl) ?_
              refine L.nil ?_
              -- cond
              refine J.dec rfl (fun hn => ?_) (fun hn => ?_)
              · refine J.seq ?_
                refine J.region ?_
                refine L.va rfl (X.move (by conv => lhs; whnf)) ?_
                refine L.va rfl (X.eql rfl rfl) ?_
                refine L.va rfl (X.move (by conv => lhs; whnf)) ?_
                -- case t118
                refine L.caseDecT (k := 118) rfl (by rfl) ?_
                refine L.va rfl (X.move (by conv => lhs; whnf)) ?_
                refine L.va rfl (X.eql rfl rfl) ?_
                refine L.va rfl (X.pickT rfl (by conv => lhs; whnf)) ?_
                refine L.va rfl (X.move (by conv => lhs; whnf)) ?_
                -- case t122
                refine L.caseDecT (k := 122) rfl (by rfl) ?_
                -- callfn bushel/bushellaw30.awake
                refine L.call rfl en_17 rfl (awake30 _) ?_
                rintro e w13 ⟨rfl, he13⟩
                refine ⟨_, rfl, ?_⟩
                refine L.va rfl (X.pickT rfl (by conv => lhs; whnf)) ?_
                refine L.va rfl (X.assign (by conv => lhs; whnf)) ?_
                refine L.nil ?_
                -- ret
                refine J.ret ?_
                refine inB_ret <|  thn_ret <|  thn_ret <|  inB_ret <|  thn_ret <| ?_
                refine fin1 ?_
                exact ⟨rfl, he011.trans he13⟩
              · skip
                refine J.skip ?_
                refine J.region ?_
                refine L.va rfl (X.move (by conv => lhs; whnf)) ?_
                refine L.va rfl (X.add rfl rfl (by omega)) ?_
                refine L.va rfl (X.assign (by conv => lhs; whnf)) ?_
                refine L.nil ?_
                -- loopend
                refine ⟨i + 1, At1 (by first | rfl | exact at_int rfl (by omega) | exact at_slice rfl (by omega) | exact at_int rfl (by simp)), (by (iterate 12 refine Agr.lk rfl ?_); exact Agr.lk rfl (Agr.hav rfl Agr.rfl')), ?_⟩
                refine ⟨⟨rfl, by omega, fun j hj => ?_⟩, by omega⟩
                rcases Nat.lt_or_ge j i with h | h
                · exact hP j h
                · obtain rfl : j = i := by omega
                  exact hn
            · obtain ⟨j, hj, k⟩ := hneg
              exact absurd k (hP j (by omega))
        · rw [if_neg hneg] at c7
          refine L.call rfl en_21 rfl (c7) ?_
          rintro e w7 ⟨rfl, he7⟩
          refine ⟨_, rfl, ?_⟩
          have he07 := he06.trans he7
          have H7 := H6.ext he7
          have q7 := (q6.ext he7).more he7.le
          replace hk12 := hk12.ext he7
          replace hk2 := hk2.ext he7
          refine L.va rfl (X.move (by conv => lhs; whnf)) ?_
          refine L.va rfl (X.extract rfl rfl) ?_
          refine L.va rfl (X.extract rfl rfl) ?_
          refine L.va rfl (X.assign (by conv => lhs; whnf)) ?_
          refine L.va rfl (X.assign (by conv => lhs; whnf)) ?_
          refine L.nil ?_
          refine J.seq ?_
          refine J.seq ?_
          refine J.region ?_
          refine L.va rfl ((by first | exact X.loadAgg rfl (range_l hk12) Try.underlying34 rfl (by kernel_rfl) | exact X.loadAgg rfl (range_blk hk12) Try.underlying34 rfl (by kernel_rfl) | exact X.loadAgg rfl (range_l hk2) Try.underlying34 rfl (by kernel_rfl) | exact X.loadAgg rfl (range_blk hk2) Try.underlying34 rfl (by kernel_rfl))) ?_
          refine L.va rfl ((by first | exact X.loadAgg rfl (range_l hk12) Try.underlying40 rfl (by kernel_rfl) | exact X.loadAgg rfl (range_blk hk12) Try.underlying40 rfl (by kernel_rfl) | exact X.loadAgg rfl (range_l hk2) Try.underlying40 rfl (by kernel_rfl) | exact X.loadAgg rfl (range_blk hk2) Try.underlying40 rfl (by kernel_rfl))) ?_
          -- callfn bushel/bushelref29.Check
          refine L.call rfl en_22 rfl (rqcheck H7 q7) ?_
          rintro e w8 ⟨rfl, he8⟩
          refine ⟨_, rfl, ?_⟩
          have he08 := he07.trans he8
          have H8 := H7.ext he8
          have q8 := (q7.ext he8).more he8.le
          rw [hc]
          replace hk12 := hk12.ext he8
          replace hk2 := hk2.ext he8
          refine L.va rfl (X.assign (by conv => lhs; whnf)) ?_
          refine L.nil ?_
          refine J.seq ?_
          refine J.region ?_
          refine L.va rfl (X.move (by conv => lhs; whnf)) ?_
          refine L.va rfl (X.neq rfl rfl) ?_
          refine L.nil ?_
          -- cond
          refine J.ndecF rfl (by decide) ?_
          refine J.skip ?_
          refine J.seq ?_
          refine J.seq ?_
          refine J.region ?_
          refine L.va rfl (X.move (by conv => lhs; whnf)) ?_
          refine L.va rfl (X.neq rfl rfl) ?_
          refine L.va rfl (X.move (by conv => lhs; whnf)) ?_
          -- case t85
          refine L.caseNdecF (k := 85) rfl (by decide) ?_
          refine L.va rfl (X.move (by conv => lhs; whnf)) ?_
          refine L.va rfl (X.neq rfl rfl) ?_
          refine L.va rfl (X.pickF rfl (by conv => lhs; whnf)) ?_
          refine L.va rfl (X.move (by conv => lhs; whnf)) ?_
          -- case t89
          refine L.caseNdecF (k := 89) rfl (by decide) ?_
          refine L.va rfl (X.move (by conv => lhs; whnf)) ?_
          refine L.va rfl ((by first | exact X.loadAgg rfl (range_l hk12) Try.underlying34 rfl (by kernel_rfl) | exact X.loadAgg rfl (range_blk hk12) Try.underlying34 rfl (by kernel_rfl) | exact X.loadAgg rfl (range_l hk2) Try.underlying34 rfl (by kernel_rfl) | exact X.loadAgg rfl (range_blk hk2) Try.underlying34 rfl (by kernel_rfl))) ?_
          refine L.va rfl ((by first | exact X.loadAgg rfl (range_l hk12) Try.underlying40 rfl (by kernel_rfl) | exact X.loadAgg rfl (range_blk hk12) Try.underlying40 rfl (by kernel_rfl) | exact X.loadAgg rfl (range_l hk2) Try.underlying40 rfl (by kernel_rfl) | exact X.loadAgg rfl (range_blk hk2) Try.underlying40 rfl (by kernel_rfl))) ?_
          -- callfn bushel/bushelref30.Serve
          refine L.call rfl en_23 rfl (rserve H8 q8 hc) ?_
          rintro e w9 ⟨A9, c9, rfl, ho9, he9⟩
          refine ⟨_, rfl, ?_⟩
          have he09 := he08.trans he9
          have H9 := H8.ext he9
          have q9 := (q8.ext he9).more he9.le
          replace hk12 := hk12.ext he9
          replace hk2 := hk2.ext he9
          -- callfn bushel/bushelref16.Ints
          refine L.call rfl en_14 rfl (ints16 A5 _ c5 A9 _ c9 _ _ w9 (Reads.of_own ((((ho5.ext he6).ext he7).ext he8).ext he9)) (Reads.of_own ho9) (show (srv s.V (qneed q) (1 + s.nv)).length ≤ maxLen by unfold maxLen; omega) (show (srv s.V (qneed q) (1 + s.nv)).length ≤ maxLen by unfold maxLen; omega)) ?_
          rintro e w10 ⟨rfl, he10⟩
          refine ⟨_, rfl, ?_⟩
          have he010 := he09.trans he10
          rw [eqI_self]
          replace hk12 := hk12.ext he10
          replace hk2 := hk2.ext he10
          refine L.va rfl (X.not rfl) ?_
          refine L.va rfl (X.pickF rfl (by conv => lhs; whnf)) ?_
          refine L.va rfl (X.move (by conv => lhs; whnf)) ?_
          -- case t97
          refine L.caseBF (k := 97) rfl (by rfl) ?_
          refine L.va rfl (X.move (by conv => lhs; whnf)) ?_
          refine L.va rfl ((by first | exact X.loadAgg rfl (range_l hk12) Try.underlying34 rfl (by kernel_rfl) | exact X.loadAgg rfl (range_blk hk12) Try.underlying34 rfl (by kernel_rfl) | exact X.loadAgg rfl (range_l hk2) Try.underlying34 rfl (by kernel_rfl) | exact X.loadAgg rfl (range_blk hk2) Try.underlying34 rfl (by kernel_rfl))) ?_
          refine L.va rfl (X.move (by conv => lhs; whnf)) ?_
          refine L.va rfl ((by first | exact X.loadAgg rfl (range_l hk12) Try.underlying40 rfl (by kernel_rfl) | exact X.loadAgg rfl (range_blk hk12) Try.underlying40 rfl (by kernel_rfl) | exact X.loadAgg rfl (range_l hk2) Try.underlying40 rfl (by kernel_rfl) | exact X.loadAgg rfl (range_blk hk2) Try.underlying40 rfl (by kernel_rfl))) ?_
          -- callfn bushel/bushelref30.Pick
          refine L.call rfl en_24 rfl (cp w10 (H9.ext he10) ((q9.ext he10).more he10.le) ((hz.ext he010).more he010.le)) ?_
          rintro e w11 ⟨rfl, he11⟩
          refine ⟨_, rfl, ?_⟩
          have he011 := he010.trans he11
          have z11 := hz.ext he011
          refine L.va rfl (X.neq rfl rfl) ?_
          refine L.va rfl (X.pickF rfl (by conv => lhs; whnf)) ?_
          refine L.nil ?_
          -- cond
          refine J.ndecF rfl (by omega) ?_
          refine J.skip ?_
          refine J.seq ?_
          refine J.seq ?_
          refine J.region ?_
          refine L.va rfl (X.assign (by conv => lhs; whnf)) ?_
          refine L.nil ?_
          refine J.block ?_
          -- loop
          refine J.loop (X := Nat) [6, 14, 105, 106, 107, 108, 109, 110, 111, 112, 113, 114, 115, 116, 117, 118, 119, 120, 121, 122, 123, 124] (fun i => [(14, .int .i64 (i : Int))]) (fun i w' => w' = w11 ∧ i ≤ n2 ∧ ∀ j, j < i → ¬ z.getD j 0 < 0) (fun i => n2 - i) (0) (At1 (by first | rfl | exact at_int rfl (by omega) | exact at_slice rfl (by omega) | exact at_int rfl (by simp))) ?_ ?_
          · exact ⟨rfl, Nat.zero_le _, fun j hj => absurd hj (Nat.not_lt_zero _)⟩
          · rintro i g w12 ⟨rfl, hi, hP⟩
            have r12 : Reads w12 w.heap.size 1 A2 n2 (nums .i64 z) := z11.r
            refine J.seq ?_
            refine J.seq ?_
            refine J.region ?_
            refine L.va rfl (X.move (by conv => lhs; whnf)) ?_
            refine L.va rfl (X.move (by conv => lhs; whnf)) ?_
            refine L.va rfl (X.len rfl Try.underlying25) ?_
            refine L.va rfl (X.lss rfl rfl) ?_
            refine L.nil ?_
            -- cond
            refine J.dec rfl (fun hlt => ?_) (fun hlt => ?_)
            · have hA := r12.some_ (show 0 < n2 by omega)
              refine J.skip ?_
              refine J.seq ?_
              refine J.block ?_
              refine J.seq ?_
              refine J.region ?_
              refine L.va rfl (X.move (by conv => lhs; whnf)) ?_
              refine L.va rfl (X.move (by conv => lhs; whnf)) ?_
              refine L.va rfl ((by first | exact X.index1n rfl rfl Try.underlying25 sz_3 (by first | exact Option.some_ne_none _ | exact r12.some_ (by omega) | exact hA) (by omega) | exact X.index1 rfl rfl Try.underlying25 sz_3 (by first | exact Option.some_ne_none _ | exact r12.some_ (by omega) | exact hA) (by omega))) ?_
              refine L.va rfl (X.load rfl sc_3 (by first | exact Ld.blk hk12 rfl | exact Ld.blk hk2 rfl | exact Ld.num r12 (by omega) | exact hA)) ?_
              refine L.va rfl (X.lss rfl rfl) ?_
              refine L.nil ?_
              -- cond
              refine J.dec rfl (fun hn => ?_) (fun hn => ?_)
              · exact absurd ⟨i, by omega, hn⟩ hneg
              · skip
                refine J.skip ?_
                refine J.region ?_
                refine L.va rfl (X.move (by conv => lhs; whnf)) ?_
                refine L.va rfl (X.add rfl rfl (by omega)) ?_
                refine L.va rfl (X.assign (by conv => lhs; whnf)) ?_
                refine L.nil ?_
                -- loopend
                refine ⟨i + 1, At1 (by first | rfl | exact at_int rfl (by omega) | exact at_slice rfl (by omega) | exact at_int rfl (by simp)), (by (iterate 12 refine Agr.lk rfl ?_); exact Agr.lk rfl (Agr.hav rfl Agr.rfl')), ?_⟩
                refine ⟨⟨rfl, by omega, fun j hj => ?_⟩, by omega⟩
                rcases Nat.lt_or_ge j i with h | h
                · exact hP j h
                · obtain rfl : j = i := by omega
                  exact hn
            · have hall : ∀ i, 0 ≤ z.getD i 0 := fun i => by
                rcases Nat.lt_or_ge i n2 with h | h
                · have := hP i (by omega); omega
                · rw [List.getD, List.getElem?_eq_none (by omega)]; exact Int.le_refl _
              have a0 : szA z ((0 : Nat) : Int) = szA z 0 := rfl
              have a1 : 0 ≤ szA z 0 ∧ szA z 0 ≤ 9223372036854775807 := ⟨hall _, (hzb _).2⟩
              have a2 : 0 ≤ szA z (m : Int) ∧ szA z (m : Int) ≤ 9223372036854775807 := ⟨hall _, (hzb _).2⟩
              refine J.exit ?_
              refine J.seq ?_
              refine J.region ?_
              refine L.va rfl (X.move (by conv => lhs; whnf)) ?_
              refine L.va rfl (X.eql rfl rfl) ?_
              refine L.va rfl (X.move (by conv => lhs; whnf)) ?_
              -- case t127
              refine L.caseDecT (k := 127) rfl (by decide) ?_
              refine L.va rfl (X.move (by conv => lhs; whnf)) ?_
              refine L.va rfl (X.move (by conv => lhs; whnf)) ?_
              -- callfn bushel/bushelref30.Size
              refine L.call rfl en_20 rfl (rsize30 A2 n2 c2 z 0 z11.r) ?_
              rintro e _ ⟨rfl, rfl⟩
              refine ⟨_, rfl, ?_⟩
              refine L.va rfl (X.move (by conv => lhs; whnf)) ?_
              refine L.va rfl (X.move (by conv => lhs; whnf)) ?_
              -- callfn bushel/bushelref30.Size
              refine L.call rfl en_20 rfl (rsize30 A2 n2 c2 z m z11.r) ?_
              rintro e _ ⟨rfl, rfl⟩
              refine ⟨_, rfl, ?_⟩
              -- t135
              refine L.va rfl (X.sub rfl rfl (by omega)) ?_
              refine L.va rfl (X.max2 rfl rfl) ?_
              refine L.va rfl (X.eql rfl rfl) ?_
              refine L.va rfl (X.pickT rfl (by conv => lhs; whnf)) ?_
              refine L.va rfl (X.move (by conv => lhs; whnf)) ?_
              -- case t138
              refine L.caseDecT (k := 138) rfl (by rfl) ?_
              -- callfn bushel/bushellaw30.awake
              refine L.call rfl en_17 rfl (awake30 _) ?_
              rintro e w13 ⟨rfl, he13⟩
              refine ⟨_, rfl, ?_⟩
              refine L.va rfl (X.pickT rfl (by conv => lhs; whnf)) ?_
              refine L.va rfl (X.assign (by conv => lhs; whnf)) ?_
              refine L.nil ?_
              -- ret
              refine J.ret ?_
              refine fin1 ?_
              exact ⟨rfl, he011.trans he13⟩
      · refine J.skip ?_
        refine J.seq ?_
        refine J.region ?_
        refine L.va rfl ((by first | exact X.loadAgg rfl (range_l hk12) Try.underlying34 rfl (by kernel_rfl) | exact X.loadAgg rfl (range_blk hk12) Try.underlying34 rfl (by kernel_rfl) | exact X.loadAgg rfl (range_l hk2) Try.underlying34 rfl (by kernel_rfl) | exact X.loadAgg rfl (range_blk hk2) Try.underlying34 rfl (by kernel_rfl))) ?_
        refine L.va rfl ((by first | exact X.loadAgg rfl (range_l hk12) Try.underlying40 rfl (by kernel_rfl) | exact X.loadAgg rfl (range_blk hk12) Try.underlying40 rfl (by kernel_rfl) | exact X.loadAgg rfl (range_l hk2) Try.underlying40 rfl (by kernel_rfl) | exact X.loadAgg rfl (range_blk hk2) Try.underlying40 rfl (by kernel_rfl))) ?_
        -- callfn bushel/plan.Serve
        refine L.call rfl en_18 rfl (serve_no H4 q4 hc) ?_
        rintro e w5 ⟨rfl, he5⟩
        refine ⟨_, rfl, ?_⟩
        have he05 := he04.trans he5
        replace hk12 := hk12.ext he5
        replace hk2 := hk2.ext he5
        refine L.va rfl (X.move (by conv => lhs; whnf)) ?_
        refine L.va rfl (X.extract rfl rfl) ?_
        refine L.va rfl (X.extract rfl rfl) ?_
        refine L.va rfl (X.assign (by conv => lhs; whnf)) ?_
        refine L.va rfl (X.assign (by conv => lhs; whnf)) ?_
        refine L.nil ?_
        refine J.seq ?_
        refine J.region ?_
        refine L.va rfl ((by first | exact X.loadAgg rfl (range_l hk12) Try.underlying34 rfl (by kernel_rfl) | exact X.loadAgg rfl (range_blk hk12) Try.underlying34 rfl (by kernel_rfl) | exact X.loadAgg rfl (range_l hk2) Try.underlying34 rfl (by kernel_rfl) | exact X.loadAgg rfl (range_blk hk2) Try.underlying34 rfl (by kernel_rfl))) ?_
        refine L.va rfl (X.move (by conv => lhs; whnf)) ?_
        refine L.va rfl ((by first | exact X.loadAgg rfl (range_l hk12) Try.underlying40 rfl (by kernel_rfl) | exact X.loadAgg rfl (range_blk hk12) Try.underlying40 rfl (by kernel_rfl) | exact X.loadAgg rfl (range_l hk2) Try.underlying40 rfl (by kernel_rfl) | exact X.loadAgg rfl (range_blk hk2) Try.underlying40 rfl (by kernel_rfl))) ?_
        -- callfn bushel/plan.Pick
        have c6 := pick_no ⟨A2, n2, c2, z⟩ (H4.ext he5) ((q4.ext he5).more he5.le) hc
        refine L.call rfl en_19 rfl (c6) ?_
        rintro e w6 ⟨rfl, he6⟩
        refine ⟨_, rfl, ?_⟩
        have he6 : Ext w5 w6 := he6
        have he56 := he5.trans he6
        replace hk12 := hk12.ext he6
        replace hk2 := hk2.ext he6
        refine L.va rfl (X.move (by conv => lhs; whnf)) ?_
        refine L.va rfl (X.extract rfl rfl) ?_
        refine L.va rfl (X.extract rfl rfl) ?_
        refine L.va rfl (X.assign (by conv => lhs; whnf)) ?_
        refine L.va rfl (X.assign (by conv => lhs; whnf)) ?_
        refine L.nil ?_
        refine J.seq ?_
        refine J.region ?_
        refine L.va rfl ((by first | exact X.loadAgg rfl (range_l hk12) Try.underlying34 rfl (by kernel_rfl) | exact X.loadAgg rfl (range_blk hk12) Try.underlying34 rfl (by kernel_rfl) | exact X.loadAgg rfl (range_l hk2) Try.underlying34 rfl (by kernel_rfl) | exact X.loadAgg rfl (range_blk hk2) Try.underlying34 rfl (by kernel_rfl))) ?_
        refine L.va rfl (X.move (by conv => lhs; whnf)) ?_
        refine L.va rfl ((by first | exact X.loadAgg rfl (range_l hk12) Try.underlying40 rfl (by kernel_rfl) | exact X.loadAgg rfl (range_blk hk12) Try.underlying40 rfl (by kernel_rfl) | exact X.loadAgg rfl (range_l hk2) Try.underlying40 rfl (by kernel_rfl) | exact X.loadAgg rfl (range_blk hk2) Try.underlying40 rfl (by kernel_rfl))) ?_
        -- callfn bushel/plan.Gain
        have c7 := gain_no ⟨A2, n2, c2, z⟩ (H4.ext he56) ((q4.ext he56).more he56.le) hc
        refine L.call rfl en_21 rfl (c7) ?_
        rintro e w7 ⟨rfl, he7⟩
        refine ⟨_, rfl, ?_⟩
        have he7 : Ext w6 w7 := he7
        have he57 := he56.trans he7
        replace hk12 := hk12.ext he7
        replace hk2 := hk2.ext he7
        refine L.va rfl (X.move (by conv => lhs; whnf)) ?_
        refine L.va rfl (X.extract rfl rfl) ?_
        refine L.va rfl (X.extract rfl rfl) ?_
        refine L.va rfl (X.assign (by conv => lhs; whnf)) ?_
        refine L.va rfl (X.assign (by conv => lhs; whnf)) ?_
        refine L.nil ?_
        refine J.seq ?_
        refine J.seq ?_
        refine J.region ?_
        refine L.va rfl ((by first | exact X.loadAgg rfl (range_l hk12) Try.underlying34 rfl (by kernel_rfl) | exact X.loadAgg rfl (range_blk hk12) Try.underlying34 rfl (by kernel_rfl) | exact X.loadAgg rfl (range_l hk2) Try.underlying34 rfl (by kernel_rfl) | exact X.loadAgg rfl (range_blk hk2) Try.underlying34 rfl (by kernel_rfl))) ?_
        refine L.va rfl ((by first | exact X.loadAgg rfl (range_l hk12) Try.underlying40 rfl (by kernel_rfl) | exact X.loadAgg rfl (range_blk hk12) Try.underlying40 rfl (by kernel_rfl) | exact X.loadAgg rfl (range_l hk2) Try.underlying40 rfl (by kernel_rfl) | exact X.loadAgg rfl (range_blk hk2) Try.underlying40 rfl (by kernel_rfl))) ?_
        -- callfn bushel/bushelref29.Check
        refine L.call rfl en_22 rfl (rqcheck (H4.ext he57) ((q4.ext he57).more he57.le)) ?_
        rintro e w8 ⟨rfl, he8⟩
        refine ⟨_, rfl, ?_⟩
        refine L.va rfl (X.assign (by conv => lhs; whnf)) ?_
        refine L.nil ?_
        refine J.seq ?_
        refine J.region ?_
        refine L.va rfl (X.move (by conv => lhs; whnf)) ?_
        refine L.va rfl (X.neq rfl rfl) ?_
        refine L.nil ?_
        -- cond
        refine J.ndecT rfl (by exact hc) ?_
        refine J.seq ?_
        refine J.region ?_
        refine L.va rfl (X.move (by conv => lhs; whnf)) ?_
        refine L.va rfl (X.len rfl Try.underlying25) ?_
        refine L.va rfl (X.eql rfl rfl) ?_
        refine L.va rfl (X.move (by conv => lhs; whnf)) ?_
        -- case t57
        refine L.caseDecT (k := 57) rfl (by rfl) ?_
        refine L.va rfl (X.move (by conv => lhs; whnf)) ?_
        refine L.va rfl (X.eql rfl rfl) ?_
        refine L.va rfl (X.pickT rfl (by conv => lhs; whnf)) ?_
        refine L.va rfl (X.move (by conv => lhs; whnf)) ?_
        -- case t61
        refine L.caseDecT (k := 61) rfl (by rfl) ?_
        refine L.va rfl (X.move (by conv => lhs; whnf)) ?_
        refine L.va rfl (X.eql rfl rfl) ?_
        refine L.va rfl (X.pickT rfl (by conv => lhs; whnf)) ?_
        refine L.va rfl (X.move (by conv => lhs; whnf)) ?_
        -- case t65
        refine L.caseDecT (k := 65) rfl (by rfl) ?_
        refine L.va rfl (X.move (by conv => lhs; whnf)) ?_
        refine L.va rfl (X.move (by conv => lhs; whnf)) ?_
        refine L.va rfl (X.eql rfl rfl) ?_
        refine L.va rfl (X.pickT rfl (by conv => lhs; whnf)) ?_
        refine L.va rfl (X.move (by conv => lhs; whnf)) ?_
        -- case t70
        refine L.caseDecT (k := 70) rfl (by rfl) ?_
        refine L.va rfl (X.move (by conv => lhs; whnf)) ?_
        refine L.va rfl (X.move (by conv => lhs; whnf)) ?_
        refine L.va rfl (X.eql rfl rfl) ?_
        refine L.va rfl (X.pickT rfl (by conv => lhs; whnf)) ?_
        refine L.va rfl (X.move (by conv => lhs; whnf)) ?_
        -- case t75
        refine L.caseDecT (k := 75) rfl (by rfl) ?_
        refine L.va rfl (X.move (by conv => lhs; whnf)) ?_
        refine L.va rfl (X.move (by conv => lhs; whnf)) ?_
        refine L.va rfl (X.eql rfl rfl) ?_
        refine L.va rfl (X.pickT rfl (by conv => lhs; whnf)) ?_
        refine L.va rfl (X.move (by conv => lhs; whnf)) ?_
        -- case t80
        refine L.caseDecT (k := 80) rfl (by rfl) ?_
        -- callfn bushel/bushellaw30.awake
        refine L.call rfl en_17 rfl (awake30 _) ?_
        rintro e w9 ⟨rfl, he9⟩
        refine ⟨_, rfl, ?_⟩
        refine L.va rfl (X.pickT rfl (by conv => lhs; whnf)) ?_
        refine L.va rfl (X.assign (by conv => lhs; whnf)) ?_
        refine L.nil ?_
        -- ret
        refine J.ret ?_
        refine thn_ret <| ?_
        refine fin1 ?_
        exact ⟨rfl, ((he04.trans he57).trans he8).trans he9⟩
end Go.Proofs.Ytlohbkcedpkjaaa
