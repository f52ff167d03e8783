/-
  The law FilterPasses, walked.
-/
import Derived.Test.YtmnlaekcojblkaaWNrmG
import Derived.Test.YtmnlaekcojblkaaWNrmE
import Derived.Test.YtmnlaekcojblkaaWLight
namespace Go.Proofs.Ytmnlaekcojblkaa
set_option maxRecDepth 100000
open Go.RowKit H
open Nrm (nrm pk)
set_option linter.unusedVariables false
theorem law_FilterPasses (w : World) (vs0 : List Value) (a0 : (List ((Str) × (Nm .i64))) × (List (Str)) × (List (Str)) × (List (Nm .u32))) (hl0 : Lay.lies w w.heap.size vs0 a0) (A1 : Option Addr) (n1 c1 : Nat) (xs1 : List ((Nm .i64) × (List (Nm .i64)))) (hn1 : n1 ≤ c1) (hc1 : c1 ≤ maxLen) (hA1 : A1 = none → c1 = 0) (hl1 : LiesSlice w w.heap.size A1 n1 xs1) (A2 : Option Addr) (n2 c2 : Nat) (xs2 : List (Nm .i64)) (hn2 : n2 ≤ c2) (hc2 : c2 ≤ maxLen) (hA2 : A2 = none → c2 = 0) (hl2 : LiesSlice w w.heap.size A2 n2 xs2) :
    Calls Try.prog 12 #[.agg vs0.toArray, .slice A1 n1 c1, .slice A2 n2 c2] w fun e w' => e = .returned (.bool true) ∧ Below w.heap.size w w' := by
  obtain ⟨s, rfl, hH⟩ := sch_of hl0
  obtain ⟨l, hf⟩ := fis_of (c := c1) hl1 (Nat.le_trans hn1 hc1)
  obtain ⟨f, hfe⟩ : ∃ f, f = Fis.mk A1 n1 c1 l := ⟨_, rfl⟩
  rw [← hfe] at hf
  rw [show Value.slice A1 n1 c1 = f.val by rw [hfe]]
  clear hfe
  have hz := hl2.reads
  obtain ⟨z, hze⟩ : ∃ z, z = zsOf xs2 := ⟨_, rfl⟩
  rw [← hze] at hz
  have hzn : n2 ≤ maxLen := Nat.le_trans hn2 hc2
  have hzl : z.length = n2 := by have := hz.1; simpa [nums] using this
  refine enter Try.func12 rfl (by kernel_rfl) ?_
  refine J.seq ?_
  refine J.region ?_
  -- box
  refine L.boxA (l := [_, _, _, _]) rfl rfl ?_
  intro b1 w1 hb1 hs1 hk1 he1
  refine L.va rfl (X.assign (by conv => lhs; whnf)) ?_
  refine L.nil ?_
  refine J.seq ?_
  refine J.seq ?_
  refine J.region ?_
  refine L.va rfl ((by first | exact X.loadAgg rfl (range_l hk1) Try.underlying70 rfl (by kernel_rfl) | exact X.loadAgg rfl (range_blk hk1) Try.underlying70 rfl (by kernel_rfl))) ?_
  -- callfn bushel/bushelref11.Light
  refine L.call rfl en_50 rfl ((hH.ext he1).light) ?_
  rintro e w3 ⟨l1, rfl, hl1', he3⟩
  refine ⟨_, rfl, ?_⟩
  have he3 : Ext w1 w3 := he3
  have he03 := he1.trans he3
  replace hk1 := hk1.ext he3
  refine L.va rfl (X.not rfl) ?_
  refine L.va rfl (X.move (by conv => lhs; whnf)) ?_
  -- case t14
  cases l1
  · refine L.caseBT (k := 14) rfl (by rfl) ?_
    refine L.no rfl ?_
    refine L.no rfl ?_
    refine L.no rfl ?_
    refine L.va rfl (X.pickT rfl (by conv => lhs; whnf)) ?_
    refine L.va rfl (X.move (by conv => lhs; whnf)) ?_
    refine L.no rfl ?_
    refine L.no rfl ?_
    refine L.no rfl ?_
    refine L.va rfl (X.pickT rfl (by conv => lhs; whnf)) ?_
    refine L.nil ?_
    -- cond
    refine J.iteT rfl ?_
    refine J.seq ?_
    refine J.region ?_
    -- callfn bushel/bushellaw28.awake
    refine L.call rfl en_52 rfl (awake28 _) ?_
    rintro e w4 ⟨rfl, he4⟩
    refine ⟨_, rfl, ?_⟩
    refine L.va rfl (X.assign (by conv => lhs; whnf)) ?_
    refine L.nil ?_
    -- ret
    refine J.ret ?_
    refine thn_ret <| ?_
    refine fin1 ?_
    exact ⟨rfl, he03.trans he4⟩
  · refine L.caseBF (k := 14) rfl (by rfl) ?_
    refine L.va rfl (X.move (by conv => lhs; whnf)) ?_
    -- callfn bushel/bushelref28.Light
    refine L.call rfl en_51 rfl (light28 f w3 ((hf.ext he03).more he03.le)) ?_
    rintro e _ ⟨⟨l2, rfl⟩, rfl⟩
    refine ⟨_, rfl, ?_⟩
    refine L.va rfl (X.not rfl) ?_
    refine L.va rfl (X.pickF rfl (by conv => lhs; whnf)) ?_
    refine L.va rfl (X.move (by conv => lhs; whnf)) ?_
    -- case t19
    cases l2
    · refine L.caseBT (k := 19) rfl (by rfl) ?_
      refine L.no rfl ?_
      refine L.no rfl ?_
      refine L.no rfl ?_
      refine L.va rfl (X.pickT rfl (by conv => lhs; whnf)) ?_
      refine L.nil ?_
      -- cond
      refine J.iteT rfl ?_
      refine J.seq ?_
      refine J.region ?_
      -- callfn bushel/bushellaw28.awake
      refine L.call rfl en_52 rfl (awake28 _) ?_
      rintro e w5 ⟨rfl, he5⟩
      refine ⟨_, rfl, ?_⟩
      refine L.va rfl (X.assign (by conv => lhs; whnf)) ?_
      refine L.nil ?_
      -- ret
      refine J.ret ?_
      refine thn_ret <| ?_
      refine fin1 ?_
      exact ⟨rfl, he03.trans he5⟩
    · have H3 := (hH.ext he03).here (hl1' rfl)
      have f3 := (hf.ext he03).more he03.le
      have hsl := H3.len
      refine L.caseBF (k := 19) rfl (by rfl) ?_
      refine L.va rfl (X.move (by conv => lhs; whnf)) ?_
      refine L.va rfl (X.len rfl Try.underlying29) ?_
      refine L.va rfl (X.gtr rfl rfl) ?_
      refine L.va rfl (X.pickF rfl (by conv => lhs; whnf)) ?_
      refine L.nil ?_
      -- cond
      refine J.dec rfl (fun h30 => ?_) (fun h30 => ?_)
      · refine J.seq ?_
        refine J.region ?_
        -- callfn bushel/bushellaw28.awake
        refine L.call rfl en_52 rfl (awake28 _) ?_
        rintro e w5 ⟨rfl, he5⟩
        refine ⟨_, rfl, ?_⟩
        refine L.va rfl (X.assign (by conv => lhs; whnf)) ?_
        refine L.nil ?_
        -- ret
        refine J.ret ?_
        refine thn_ret <| ?_
        refine fin1 ?_
        exact ⟨rfl, he03.trans he5⟩
      · refine J.skip ?_
        refine J.seq ?_
        refine J.region ?_
        refine L.va rfl (X.move (by conv => lhs; whnf)) ?_
        refine L.va rfl (X.move (by conv => lhs; whnf)) ?_
        -- callfn bushel/filter.Pass
        refine L.call rfl en_60 rfl (pass_ f3 ((hz.ext he03).more he03.le) hzn) ?_
        rintro e w4 ⟨rfl, he4⟩
        refine ⟨_, rfl, ?_⟩
        have he04 := he03.trans he4
        have f4 := (f3.ext he4).more he4.le
        have H4 := H3.ext he4
        replace hk1 := hk1.ext he4
        refine L.va rfl (X.assign (by conv => lhs; whnf)) ?_
        refine L.nil ?_
        refine J.seq ?_
        refine J.seq ?_
        refine J.region ?_
        refine L.va rfl (X.move (by conv => lhs; whnf)) ?_
        refine L.va rfl (X.move (by conv => lhs; whnf)) ?_
        refine L.va rfl (X.move (by conv => lhs; whnf)) ?_
        -- callfn bushel/bushelref28.Pass
        refine L.call rfl en_61 rfl (rpass_ f4 ((hz.ext he04).more he04.le) hzn) ?_
        rintro e w5 ⟨rfl, he5⟩
        refine ⟨_, rfl, ?_⟩
        have he05 := he04.trans he5
        have f5 := (f4.ext he5).more he5.le
        have H5 := H4.ext he5
        replace hk1 := hk1.ext he5
        refine L.va rfl (X.neqB rfl rfl Try.underlying4) ?_
        refine L.nil ?_
        -- cond
        rw [show (pk (f.l.map Fi.key) z == pk (f.l.map Fi.key) z) = true from beq_self_eq_true _]
        refine J.iteF rfl ?_
        refine J.skip ?_
        refine J.seq ?_
        refine J.region ?_
        refine L.va rfl ((by first | exact X.loadAgg rfl (range_l hk1) Try.underlying70 rfl (by kernel_rfl) | exact X.loadAgg rfl (range_blk hk1) Try.underlying70 rfl (by kernel_rfl))) ?_
        refine L.va rfl (X.move (by conv => lhs; whnf)) ?_
        -- callfn bushel/filter.Norm
        by_cases hc : fcode s f = 0
        · have K := fok hf.l hc
          have G := Sch.good K.c
          refine L.call rfl en_53 rfl (fnorm_ok H5 f5 hc) ?_
          rintro e w6 ⟨r, rfl, hr, hrk, he6⟩
          refine ⟨_, rfl, ?_⟩
          have he06 := he05.trans he6
          have H6 := H5.ext he6
          have hd6 := H6.hd
          have hz6 := (hz.ext he06).more he06.le
          replace hk1 := hk1.ext he6
          refine L.va rfl (X.move (by conv => lhs; whnf)) ?_
          refine L.va rfl (X.extract rfl rfl) ?_
          refine L.va rfl (X.extract rfl rfl) ?_
          refine L.va rfl (X.assign (by conv => lhs; whnf)) ?_
          refine L.va rfl (X.assign (by conv => lhs; whnf)) ?_
          refine L.nil ?_
          refine J.seq ?_
          refine J.seq ?_
          refine J.region ?_
          refine L.va rfl (X.move (by conv => lhs; whnf)) ?_
          refine L.va rfl (X.neq rfl rfl) ?_
          refine L.va rfl (X.move (by conv => lhs; whnf)) ?_
          -- case t41
          refine L.caseNdecF (k := 41) rfl (by rfl) ?_
          refine L.va rfl (X.move (by conv => lhs; whnf)) ?_
          refine L.va rfl (X.len rfl Try.underlying29) ?_
          refine L.va rfl (X.fieldAddr rfl Try.underlying70 rfl sz_67 (by decide)) ?_
          refine L.va rfl (X.load rfl sc_67 (by first | exact Ld.blk hk1 rfl)) ?_
          refine L.va rfl (X.len rfl Try.underlying67) ?_
          refine L.va rfl (X.neq rfl rfl) ?_
          refine L.va rfl (X.pickF rfl (by conv => lhs; whnf)) ?_
          refine L.nil ?_
          -- cond
          refine J.ndec rfl (fun hlen => ?_) (fun hlen => ?_)
          · refine J.seq ?_
            refine J.region ?_
            -- callfn bushel/bushellaw28.awake
            refine L.call rfl en_52 rfl (awake28 _) ?_
            rintro e w5 ⟨rfl, he7⟩
            refine ⟨_, rfl, ?_⟩
            refine L.va rfl (X.assign (by conv => lhs; whnf)) ?_
            refine L.nil ?_
            -- ret
            refine J.ret ?_
            refine thn_ret <| ?_
            refine fin1 ?_
            exact ⟨rfl, he06.trans he7⟩
          · refine J.skip ?_
            refine J.seq ?_
            refine J.seq ?_
            refine J.region ?_
            refine L.va rfl (X.assign (by conv => lhs; whnf)) ?_
            refine L.nil ?_
            refine J.block ?_
            -- loop
            refine J.loop (X := Nat) [6, 10, 50, 51, 52, 53, 54, 55, 56, 57, 58, 59, 60, 61, 62, 63, 64, 65, 66, 67, 68, 69, 70, 71, 72, 73, 74] (fun i => [(10, .int .i64 (i : Int))]) (fun i w' => i ≤ n2 ∧ (∀ j, j < i → 0 ≤ z.getD j 0 ∧ z.getD j 0 < (s.ds.getD j d0).2) ∧ Ext w6 w') (fun i => n2 - i) (0) (At1 (by first | rfl | exact at_int rfl (by omega) | exact at_slice rfl (by omega) | exact at_int rfl (by simp))) ?_ ?_
            · exact ⟨Nat.zero_le _, fun j hj => absurd hj (by omega), Ext.refl _⟩
            · rintro i g w7 ⟨hi, hP, he7⟩
              have hk7 := hk1.ext he7
              have hd7 := hd6.ext he7
              have hz7 := hz6.ext he7
              have he07 := he06.trans he7
              refine J.seq ?_
              refine J.seq ?_
              refine J.region ?_
              refine L.va rfl (X.move (by conv => lhs; whnf)) ?_
              refine L.va rfl (X.move (by conv => lhs; whnf)) ?_
              refine L.va rfl (X.len rfl Try.underlying29) ?_
              refine L.va rfl (X.lss rfl rfl) ?_
              refine L.nil ?_
              -- cond
              refine J.dec rfl (fun hlt => ?_) (fun hlt => ?_)
              · have hA := hz7.some_ (by omega)
                have hB := hd7.some_ (by omega)
                refine J.skip ?_
                refine J.seq ?_
                refine J.block ?_
                refine J.seq ?_
                -- draw
                refine J.quiet mixed (by kernel_rfl) ?_
                refine Qt.va rfl (fun w' hw => X.move (by conv => lhs; whnf)) ?_
                refine Qt.va rfl (fun w' hw => X.move (by conv => lhs; whnf)) ?_
                refine Qt.va rfl (fun w' hw => (by first | exact X.index1n rfl rfl Try.underlying29 sz_3 (by first | exact Option.some_ne_none _ | exact hz7.some_ (by omega) | exact hd7.some_ (by omega) | exact hA | exact hB) (by omega) | exact X.index1 rfl rfl Try.underlying29 sz_3 (by first | exact Option.some_ne_none _ | exact hz7.some_ (by omega) | exact hd7.some_ (by omega) | exact hA | exact hB) (by omega))) ?_
                refine Qt.va rfl (fun w' hw => X.load rfl sc_3 (by first | exact Ld.blk (hk7.ext hw) rfl | exact Ld.num (hz7.ext hw) (by omega) | exact Ld.dimS (hd7.ext hw) (by omega) | exact Ld.dimN (hd7.ext hw) (by omega) | exact hA | exact hB)) ?_
                refine Qt.va rfl (fun w' hw => X.lss rfl rfl) ?_
                refine Qt.va rfl (fun w' hw => X.move (by conv => lhs; whnf)) ?_
                -- case t61
                refine Qt.caseDec (k := 61) rfl (fun h1 => ?_) (fun h1 => ?_)
                · refine Qt.no rfl ?_
                  refine Qt.no rfl ?_
                  refine Qt.no rfl ?_
                  refine Qt.no rfl ?_
                  refine Qt.no rfl ?_
                  refine Qt.no rfl ?_
                  refine Qt.no rfl ?_
                  refine Qt.no rfl ?_
                  refine Qt.no rfl ?_
                  refine Qt.no rfl ?_
                  refine Qt.no rfl ?_
                  refine Qt.va rfl (fun w' hw => X.pickT rfl (by conv => lhs; whnf)) ?_
                  refine Qt.nil (fun w8 hq => ?_)
                  replace hk7 := hk7.ext hq
                  replace hz7 := hz7.ext hq
                  replace hd7 := hd7.ext hq
                  -- cond
                  refine J.iteT rfl ?_
                  refine J.seq ?_
                  refine J.region ?_
                  -- callfn bushel/bushellaw28.awake
                  refine L.call rfl en_52 rfl (awake28 _) ?_
                  rintro e w5 ⟨rfl, he9⟩
                  refine ⟨_, rfl, ?_⟩
                  refine L.va rfl (X.assign (by conv => lhs; whnf)) ?_
                  refine L.nil ?_
                  -- ret
                  refine J.ret ?_
                  refine inB_ret <|  thn_ret <|  thn_ret <|  inB_ret <|  thn_ret <| ?_
                  refine fin1 ?_
                  exact ⟨rfl, (he07.trans hq).trans he9⟩
                refine Qt.va rfl (fun w' hw => X.move (by conv => lhs; whnf)) ?_
                refine Qt.va rfl (fun w' hw => X.move (by conv => lhs; whnf)) ?_
                refine Qt.va rfl (fun w' hw => (by first | exact X.index1n rfl rfl Try.underlying29 sz_3 (by first | exact Option.some_ne_none _ | exact hz7.some_ (by omega) | exact hd7.some_ (by omega) | exact hA | exact hB) (by omega) | exact X.index1 rfl rfl Try.underlying29 sz_3 (by first | exact Option.some_ne_none _ | exact hz7.some_ (by omega) | exact hd7.some_ (by omega) | exact hA | exact hB) (by omega))) ?_
                refine Qt.va rfl (fun w' hw => X.load rfl sc_3 (by first | exact Ld.blk (hk7.ext hw) rfl | exact Ld.num (hz7.ext hw) (by omega) | exact Ld.dimS (hd7.ext hw) (by omega) | exact Ld.dimN (hd7.ext hw) (by omega) | exact hA | exact hB)) ?_
                refine Qt.va rfl (fun w' hw => X.fieldAddr rfl Try.underlying70 rfl sz_67 (by decide)) ?_
                refine Qt.va rfl (fun w' hw => X.load rfl sc_67 (by first | exact Ld.blk (hk7.ext hw) rfl | exact Ld.num (hz7.ext hw) (by omega) | exact Ld.dimS (hd7.ext hw) (by omega) | exact Ld.dimN (hd7.ext hw) (by omega) | exact hA | exact hB)) ?_
                refine Qt.va rfl (fun w' hw => X.move (by conv => lhs; whnf)) ?_
                refine Qt.va rfl (fun w' hw => (by first | exact X.indexAddrn rfl rfl Try.underlying67 sz_84 (by first | exact Option.some_ne_none _ | exact hz7.some_ (by omega) | exact hd7.some_ (by omega) | exact hA | exact hB) (by omega) | exact X.indexAddr rfl rfl Try.underlying67 sz_84 (by first | exact Option.some_ne_none _ | exact hz7.some_ (by omega) | exact hd7.some_ (by omega) | exact hA | exact hB) (by omega))) ?_
                refine Qt.va rfl (fun w' hw => X.fieldP rfl Try.underlying84 rfl sz_3 (by decide) (by first | exact Option.some_ne_none _ | exact hz7.some_ (by omega) | exact hd7.some_ (by omega) | exact hA | exact hB)) ?_
                refine Qt.va rfl (fun w' hw => X.load rfl sc_3 (by first | exact Ld.blk (hk7.ext hw) rfl | exact Ld.num (hz7.ext hw) (by omega) | exact Ld.dimS (hd7.ext hw) (by omega) | exact Ld.dimN (hd7.ext hw) (by omega) | exact hA | exact hB)) ?_
                refine Qt.va rfl (fun w' hw => X.geq rfl rfl) ?_
                refine Qt.va rfl (fun w' hw => X.pickF rfl (by conv => lhs; whnf)) ?_
                refine Qt.nil (fun w8 hq => ?_)
                replace hk7 := hk7.ext hq
                replace hz7 := hz7.ext hq
                replace hd7 := hd7.ext hq
                -- cond
                refine J.dec rfl (fun h2 => ?_) (fun h2 => ?_)
                · refine J.seq ?_
                  refine J.region ?_
                  -- callfn bushel/bushellaw28.awake
                  refine L.call rfl en_52 rfl (awake28 _) ?_
                  rintro e w5 ⟨rfl, he9⟩
                  refine ⟨_, rfl, ?_⟩
                  refine L.va rfl (X.assign (by conv => lhs; whnf)) ?_
                  refine L.nil ?_
                  -- ret
                  refine J.ret ?_
                  refine inB_ret <|  thn_ret <|  thn_ret <|  inB_ret <|  thn_ret <| ?_
                  refine fin1 ?_
                  exact ⟨rfl, (he07.trans hq).trans he9⟩
                refine J.skip ?_
                refine J.region ?_
                refine L.va rfl (X.move (by conv => lhs; whnf)) ?_
                refine L.va rfl (X.add rfl rfl (by omega)) ?_
                refine L.va rfl (X.assign (by conv => lhs; whnf)) ?_
                refine L.nil ?_
                -- loopend
                refine ⟨i + 1, At1 (by first | rfl | exact at_int rfl (by omega) | exact at_slice rfl (by omega) | exact at_int rfl (by simp)), (by (iterate 26 refine Agr.lk rfl ?_); exact Agr.lk rfl (Agr.hav rfl Agr.rfl')), ?_⟩
                refine ⟨⟨by omega, fun j hj => ?_, he7.trans hq⟩, by omega⟩
                rcases Nat.lt_or_ge j i with h | h
                · exact hP j h
                · obtain rfl : j = i := by omega
                  exact ⟨by omega, by omega⟩
              · have hr7 := (hr.at.ext he7).more he7.le
                have hpk : pk (r.l.map Fi.key) z = pk (f.l.map Fi.key) z := by
                  rw [hrk]
                  refine Nrm.pk_nrm (fun x hx => ?_) ?_ fun j hj => ?_
                  · obtain ⟨y, hy, rfl⟩ := List.mem_map.1 hx
                    obtain ⟨q, hq, rfl⟩ := List.getElem_of_mem hy
                    have := K.d q (by rw [← hf.l]; exact hq)
                    rw [List.getD, List.getElem?_eq_getElem hq] at this
                    rw [szs_len]
                    exact this
                  · rw [szs_len]; omega
                  · have hj' : j < s.nd := by omega
                    have := hP j (by omega)
                    rw [szs_at s hj']
                    unfold szN
                    omega
                refine J.exit ?_
                refine J.seq ?_
                refine J.region ?_
                refine L.va rfl (X.move (by conv => lhs; whnf)) ?_
                refine L.va rfl (X.move (by conv => lhs; whnf)) ?_
                -- callfn bushel/filter.Pass
                refine L.call rfl en_60 rfl (pass_ hr7 (hz7.more he7.le) hzn) ?_
                rintro e w8 ⟨rfl, he8⟩
                refine ⟨_, rfl, ?_⟩
                rw [hpk]
                refine L.va rfl (X.move (by conv => lhs; whnf)) ?_
                refine L.va rfl (X.eqlB rfl rfl Try.underlying4) ?_
                refine L.va rfl (X.move (by conv => lhs; whnf)) ?_
                -- case t80
                refine L.caseBT (k := 80) rfl (by exact beq_self_eq_true _) ?_
                -- callfn bushel/bushellaw28.awake
                refine L.call rfl en_52 rfl (awake28 _) ?_
                rintro e w9 ⟨rfl, he9⟩
                refine ⟨_, rfl, ?_⟩
                refine L.va rfl (X.pickT rfl (by conv => lhs; whnf)) ?_
                refine L.va rfl (X.assign (by conv => lhs; whnf)) ?_
                refine L.nil ?_
                -- ret
                refine J.ret ?_
                refine fin1 ?_
                exact ⟨rfl, (he07.trans he8).trans he9⟩
        · refine L.call rfl en_53 rfl (fnorm_no H5 f5 hc) ?_
          rintro e w6 ⟨rfl, he6⟩
          refine ⟨_, rfl, ?_⟩
          refine L.va rfl (X.move (by conv => lhs; whnf)) ?_
          refine L.va rfl (X.extract rfl rfl) ?_
          refine L.va rfl (X.extract rfl rfl) ?_
          refine L.va rfl (X.assign (by conv => lhs; whnf)) ?_
          refine L.va rfl (X.assign (by conv => lhs; whnf)) ?_
          refine L.nil ?_
          refine J.seq ?_
          refine J.seq ?_
          refine J.region ?_
          refine L.va rfl (X.move (by conv => lhs; whnf)) ?_
          refine L.va rfl (X.neq rfl rfl) ?_
          refine L.va rfl (X.move (by conv => lhs; whnf)) ?_
          -- case t41
          refine L.caseNdecT (k := 41) rfl (by exact hc) ?_
          refine L.no rfl ?_
          refine L.no rfl ?_
          refine L.no rfl ?_
          refine L.no rfl ?_
          refine L.no rfl ?_
          refine L.no rfl ?_
          refine L.va rfl (X.pickT rfl (by conv => lhs; whnf)) ?_
          refine L.nil ?_
          -- cond
          refine J.iteT rfl ?_
          refine J.seq ?_
          refine J.region ?_
          -- callfn bushel/bushellaw28.awake
          refine L.call rfl en_52 rfl (awake28 _) ?_
          rintro e w7 ⟨rfl, he7⟩
          refine ⟨_, rfl, ?_⟩
          refine L.va rfl (X.assign (by conv => lhs; whnf)) ?_
          refine L.nil ?_
          -- ret
          refine J.ret ?_
          refine thn_ret <| ?_
          refine fin1 ?_
          exact ⟨rfl, (he05.trans he6).trans he7⟩
end Go.Proofs.Ytmnlaekcojblkaa
