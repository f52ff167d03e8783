import Derived.Test.YtlipeplfjkgamaaZQueryPuts5
/-
  What the law leans on, part 6: WLight, LQueryPuts.
-/
namespace Go.Proofs.Ytlipeplfjkgamaa
set_option maxRecDepth 100000
open Go.RowKit H
set_option linter.unusedVariables false
theorem light28 (f : Fis) (w : World) (hf : f.At w.heap.size w) : Calls Try.prog 48 #[f.val] w fun e w' => (∃ b, e = .returned (.bool b)) ∧ w = w' := by
  have hl := hf.l
  have hm := hf.m
  unfold maxLen at hm
  refine enter Try.func48 rfl (by kernel_rfl) ?_
  refine J.seq ?_
  refine J.region ?_
  refine L.va rfl (X.assign (by conv => lhs; whnf)) ?_
  refine L.nil ?_
  refine J.seq ?_
  refine J.seq ?_
  refine J.region ?_
  refine L.va rfl (X.move (by conv => lhs; whnf)) ?_
  refine L.va rfl (X.len rfl Try.underlying51) ?_
  refine L.va rfl (X.gtr rfl rfl) ?_
  refine L.nil ?_
  refine J.dec rfl (fun h1 => ?_) (fun h1 => ?_)
  · refine J.seq ?_
    refine J.region ?_
    refine L.va rfl (X.assign (by conv => lhs; whnf)) ?_
    refine L.nil ?_
    refine J.ret ?_
    refine thn_ret <| ?_
    refine fin1 ?_
    exact ⟨⟨_, rfl⟩, rfl⟩
  · refine J.skip ?_
    refine J.seq ?_
    refine J.seq ?_
    refine J.region ?_
    refine L.va rfl (X.assign (by conv => lhs; whnf)) ?_
    refine L.nil ?_
    refine J.block ?_
    refine J.loop (X := Nat) [2, 3, 7, 8, 9, 10, 11, 12, 13, 14, 15, 16, 17, 18, 19, 20, 21, 22, 23, 24, 25, 26, 27, 28, 29, 30, 31, 32, 33, 34, 35, 36, 37] (fun i => [(3, .int .i64 (i : Int))]) (fun i w' => w' = w ∧ i ≤ f.n) (fun i => f.n - i) (0) (At1 (by first | rfl | exact at_int rfl (by omega) | exact at_slice rfl (by omega) | exact at_int rfl (by simp))) ?_ ?_
    · exact ⟨rfl, Nat.zero_le _⟩
    · rintro i g w1 ⟨rfl, hi⟩
      refine J.seq ?_
      refine J.seq ?_
      refine J.region ?_
      refine L.va rfl (X.move (by conv => lhs; whnf)) ?_
      refine L.va rfl (X.move (by conv => lhs; whnf)) ?_
      refine L.va rfl (X.len rfl Try.underlying51) ?_
      refine L.va rfl (X.lss rfl rfl) ?_
      refine L.nil ?_
      refine J.dec rfl (fun hlt => ?_) (fun hlt => ?_)
      · have hA := hf.r.some_ (by omega)
        obtain ⟨x, hx⟩ : ∃ x, x = f.l.getD i fi0 := ⟨_, rfl⟩
        have hgt := gtF (l := f.l) (i := i) (by omega)
        rw [← hx] at hgt
        refine J.skip ?_
        refine J.seq ?_
        refine J.block ?_
        refine J.seq ?_
        refine J.region ?_
        refine L.va rfl (X.move (by conv => lhs; whnf)) ?_
        refine L.va rfl (X.move (by conv => lhs; whnf)) ?_
        refine L.va rfl ((by first | exact X.indexAddrn rfl rfl Try.underlying51 sz_150 (by first | exact Option.some_ne_none _ | exact hA) (by omega) | exact X.indexAddr rfl rfl Try.underlying51 sz_150 (by first | exact Option.some_ne_none _ | exact hA) (by omega))) ?_
        refine L.va rfl (X.fieldP rfl Try.underlying150 rfl sz_23 (by decide) (by first | exact Option.some_ne_none _ | exact hA)) ?_
        refine L.va rfl (X.load rfl sc_23 (by first | exact hA | exact Ld.flat2 fi_len hf.r hgt (r := 1) rfl)) ?_
        refine L.va rfl (X.len rfl Try.underlying23) ?_
        refine L.va rfl (X.gtr rfl rfl) ?_
        refine L.va rfl (X.move (by conv => lhs; whnf)) ?_
        refine L.caseDec (k := 20) rfl (fun h2 => ?_) (fun h2 => ?_)
        · refine L.va rfl (X.move (by conv => lhs; whnf)) ?_
          refine L.va rfl (X.move (by conv => lhs; whnf)) ?_
          refine L.va rfl ((by first | exact X.indexAddrn rfl rfl Try.underlying51 sz_150 (by first | exact Option.some_ne_none _ | exact hA) (by omega) | exact X.indexAddr rfl rfl Try.underlying51 sz_150 (by first | exact Option.some_ne_none _ | exact hA) (by omega))) ?_
          refine L.va rfl (X.fieldP rfl Try.underlying150 rfl sz_23 (by decide) (by first | exact Option.some_ne_none _ | exact hA)) ?_
          refine L.va rfl (X.load rfl sc_23 (by first | exact hA | exact Ld.flat2 fi_len hf.r hgt (r := 1) rfl)) ?_
          refine L.va rfl (X.len rfl Try.underlying23) ?_
          refine L.va rfl (X.leq rfl rfl) ?_
          refine L.va rfl (X.pickT rfl (by conv => lhs; whnf)) ?_
          refine L.va rfl (X.move (by conv => lhs; whnf)) ?_
          refine L.caseDec (k := 29) rfl (fun h3 => ?_) (fun h3 => ?_)
          · refine L.no rfl ?_
            refine L.no rfl ?_
            refine L.no rfl ?_
            refine L.no rfl ?_
            refine L.no rfl ?_
            refine L.no rfl ?_
            refine L.no rfl ?_
            refine L.va rfl (X.pickT rfl (by conv => lhs; whnf)) ?_
            refine L.nil ?_
            refine J.iteT rfl ?_
            refine J.seq ?_
            refine J.region ?_
            refine L.va rfl (X.assign (by conv => lhs; whnf)) ?_
            refine L.nil ?_
            refine J.ret ?_
            refine inB_ret <|  thn_ret <|  thn_ret <|  inB_ret <|  thn_ret <| ?_
            refine fin1 ?_
            exact ⟨⟨_, rfl⟩, rfl⟩
          · refine L.va rfl (X.move (by conv => lhs; whnf)) ?_
            refine L.va rfl (X.move (by conv => lhs; whnf)) ?_
            refine L.va rfl ((by first | exact X.indexAddrn rfl rfl Try.underlying51 sz_150 (by first | exact Option.some_ne_none _ | exact hA) (by omega) | exact X.indexAddr rfl rfl Try.underlying51 sz_150 (by first | exact Option.some_ne_none _ | exact hA) (by omega))) ?_
            refine L.va rfl (X.fieldP rfl Try.underlying150 rfl sz_23 (by decide) (by first | exact Option.some_ne_none _ | exact hA)) ?_
            refine L.va rfl (X.load rfl sc_23 (by first | exact hA | exact Ld.flat2 fi_len hf.r hgt (r := 1) rfl)) ?_
            refine L.va rfl (X.len rfl Try.underlying23) ?_
            refine L.va rfl (X.gtr rfl rfl) ?_
            refine L.va rfl (X.pickF rfl (by conv => lhs; whnf)) ?_
            refine L.nil ?_
            refine J.dec rfl (fun h4 => ?_) (fun h4 => ?_)
            · refine J.seq ?_
              refine J.region ?_
              refine L.va rfl (X.assign (by conv => lhs; whnf)) ?_
              refine L.nil ?_
              refine J.ret ?_
              refine inB_ret <|  thn_ret <|  thn_ret <|  inB_ret <|  thn_ret <| ?_
              refine fin1 ?_
              exact ⟨⟨_, rfl⟩, rfl⟩
            · refine J.skip ?_
              refine J.region ?_
              refine L.va rfl (X.move (by conv => lhs; whnf)) ?_
              refine L.va rfl (X.add rfl rfl (by omega)) ?_
              refine L.va rfl (X.assign (by conv => lhs; whnf)) ?_
              refine L.nil ?_
              refine ⟨i + 1, At1 (by first | rfl | exact at_int rfl (by omega) | exact at_slice rfl (by omega) | exact at_int rfl (by simp)), (by (iterate 34 refine Agr.lk rfl ?_); exact Agr.lk rfl (Agr.hav rfl Agr.rfl')), ?_⟩
              exact ⟨⟨rfl, by omega⟩, by omega⟩
        · refine L.no rfl ?_
          refine L.no rfl ?_
          refine L.no rfl ?_
          refine L.no rfl ?_
          refine L.no rfl ?_
          refine L.no rfl ?_
          refine L.no rfl ?_
          refine L.va rfl (X.pickF rfl (by conv => lhs; whnf)) ?_
          refine L.va rfl (X.move (by conv => lhs; whnf)) ?_
          refine L.va rfl (X.move (by conv => lhs; whnf)) ?_
          refine L.va rfl (X.move (by conv => lhs; whnf)) ?_
          refine L.va rfl ((by first | exact X.indexAddrn rfl rfl Try.underlying51 sz_150 (by first | exact Option.some_ne_none _ | exact hA) (by omega) | exact X.indexAddr rfl rfl Try.underlying51 sz_150 (by first | exact Option.some_ne_none _ | exact hA) (by omega))) ?_
          refine L.va rfl (X.fieldP rfl Try.underlying150 rfl sz_23 (by decide) (by first | exact Option.some_ne_none _ | exact hA)) ?_
          refine L.va rfl (X.load rfl sc_23 (by first | exact hA | exact Ld.flat2 fi_len hf.r hgt (r := 1) rfl)) ?_
          refine L.va rfl (X.len rfl Try.underlying23) ?_
          refine L.va rfl (X.gtr rfl rfl) ?_
          refine L.va rfl (X.pickF rfl (by conv => lhs; whnf)) ?_
          refine L.nil ?_
          refine J.dec rfl (fun h4 => ?_) (fun h4 => ?_)
          · refine J.seq ?_
            refine J.region ?_
            refine L.va rfl (X.assign (by conv => lhs; whnf)) ?_
            refine L.nil ?_
            refine J.ret ?_
            refine inB_ret <|  thn_ret <|  thn_ret <|  inB_ret <|  thn_ret <| ?_
            refine fin1 ?_
            exact ⟨⟨_, rfl⟩, rfl⟩
          · refine J.skip ?_
            refine J.region ?_
            refine L.va rfl (X.move (by conv => lhs; whnf)) ?_
            refine L.va rfl (X.add rfl rfl (by omega)) ?_
            refine L.va rfl (X.assign (by conv => lhs; whnf)) ?_
            refine L.nil ?_
            refine ⟨i + 1, At1 (by first | rfl | exact at_int rfl (by omega) | exact at_slice rfl (by omega) | exact at_int rfl (by simp)), (by (iterate 33 refine Agr.lk rfl ?_); exact Agr.lk rfl (Agr.hav rfl Agr.rfl')), ?_⟩
            exact ⟨⟨rfl, by omega⟩, by omega⟩
      · refine J.exit ?_
        refine J.seq ?_
        refine J.region ?_
        refine L.va rfl (X.assign (by conv => lhs; whnf)) ?_
        refine L.nil ?_
        refine J.ret ?_
        refine fin1 ?_
        exact ⟨⟨_, rfl⟩, rfl⟩
theorem light29 (q : Qu) {w : World} (hq : q.At w.heap.size w) : Calls Try.prog 30 #[q.val] w fun e w' => (∃ b, e = .returned (.bool b)) ∧ Ext w w' := by
  refine enter Try.func30 rfl (by kernel_rfl) ?_
  refine J.seq ?_
  refine J.region ?_
  refine L.boxA (l := [_, _, _, _, _]) rfl rfl ?_
  intro b1 w1 hb1 hs1 hk1 he1
  have hk1 : Blk w1 b1 54 q.vs.toArray := hk1
  refine L.va rfl (X.assign (by conv => lhs; whnf)) ?_
  refine L.nil ?_
  refine J.seq ?_
  refine J.region ?_
  refine L.va rfl (X.fieldAddr rfl Try.underlying54 rfl sz_51 (by decide)) ?_
  refine L.va rfl (X.load rfl sc_51 (by first | exact Ld.blk hk1 rfl)) ?_
  refine L.call rfl en_48 rfl (light28 q.f w1 ((hq.f.ext he1).more he1.le)) ?_
  rintro e _ ⟨⟨b, rfl⟩, rfl⟩
  refine ⟨_, rfl, ?_⟩
  refine L.va rfl (X.move (by conv => lhs; whnf)) ?_
  cases b
  · refine L.caseBF (k := 6) rfl (by rfl) ?_
    refine L.no rfl ?_
    refine L.no rfl ?_
    refine L.no rfl ?_
    refine L.no rfl ?_
    refine L.va rfl (X.pickF rfl (by conv => lhs; whnf)) ?_
    refine L.va rfl (X.move (by conv => lhs; whnf)) ?_
    refine L.no rfl ?_
    refine L.no rfl ?_
    refine L.no rfl ?_
    refine L.no rfl ?_
    refine L.va rfl (X.pickF rfl (by conv => lhs; whnf)) ?_
    refine L.va rfl (X.assign (by conv => lhs; whnf)) ?_
    refine L.nil ?_
    refine J.ret ?_
    refine fin1 ?_
    exact ⟨⟨_, rfl⟩, he1⟩
  · refine L.caseBT (k := 6) rfl (by rfl) ?_
    refine L.va rfl (X.fieldAddr rfl Try.underlying54 rfl sz_52 (by decide)) ?_
    refine L.va rfl (X.load rfl sc_52 (by first | exact Ld.blk hk1 rfl)) ?_
    refine L.va rfl (X.len rfl Try.underlying52) ?_
    refine L.va rfl (X.leq rfl rfl) ?_
    refine L.va rfl (X.pickT rfl (by conv => lhs; whnf)) ?_
    refine L.va rfl (X.move (by conv => lhs; whnf)) ?_
    refine L.caseDec (k := 12) rfl (fun h2 => ?_) (fun h2 => ?_)
    · refine L.va rfl (X.fieldAddr rfl Try.underlying54 rfl sz_22 (by decide)) ?_
      refine L.va rfl (X.load rfl sc_22 (by first | exact Ld.blk hk1 rfl)) ?_
      refine L.va rfl (X.len rfl Try.underlying22) ?_
      refine L.va rfl (X.leq rfl rfl) ?_
      refine L.va rfl (X.pickT rfl (by conv => lhs; whnf)) ?_
      refine L.va rfl (X.assign (by conv => lhs; whnf)) ?_
      refine L.nil ?_
      refine J.ret ?_
      refine fin1 ?_
      exact ⟨⟨_, rfl⟩, he1⟩
    · refine L.no rfl ?_
      refine L.no rfl ?_
      refine L.no rfl ?_
      refine L.no rfl ?_
      refine L.va rfl (X.pickF rfl (by conv => lhs; whnf)) ?_
      refine L.va rfl (X.assign (by conv => lhs; whnf)) ?_
      refine L.nil ?_
      refine J.ret ?_
      refine fin1 ?_
      exact ⟨⟨_, rfl⟩, he1⟩
end Go.Proofs.Ytlipeplfjkgamaa
namespace Go.Proofs.Ytlipeplfjkgamaa
set_option maxRecDepth 100000
open Go.RowKit H
open Byts Cod
set_option linter.unusedVariables false
theorem law_QueryPuts (w : World) (vs0 : List Value) (a0 : (List ((Str) × (Nm .i64))) × (List (Str)) × (List (Str)) × (List (Nm .u32))) (hl0 : Lay.lies w w.heap.size vs0 a0) (vs1 : List Value) (a1 : (Nm .u32) × (List ((Nm .i64) × (List (Nm .i64)))) × (List ((Nm .i64) × (Nm .i64))) × (List ((Nm .i64) × (Bool))) × (Nm .i64)) (hl1 : Lay.lies w w.heap.size vs1 a1) :
    Calls Try.prog 9 #[.agg vs0.toArray, .agg vs1.toArray] w fun e w' => e = .returned (.bool true) ∧ Below w.heap.size w w' := by
  obtain ⟨s, rfl, hH⟩ := sch_of hl0
  obtain ⟨q, rfl, hq, hqm⟩ := qu_of2 hl1
  refine enter Try.func9 rfl (by kernel_rfl) ?_
  refine J.seq ?_
  refine J.region ?_
  refine L.boxA (l := [_, _, _, _]) rfl rfl ?_
  intro b1 w1 hb1 hs1 hk1 he1
  refine L.boxA (l := [_, _, _, _, _]) rfl rfl ?_
  intro b2 w2 hb2 hs2 hk2 he2
  have hk12 := hk1.ext he2
  have he02 := he1.trans he2
  have hk2 : Blk w2 b2 54 q.vs.toArray := hk2
  refine L.va rfl (X.assign (by conv => lhs; whnf)) ?_
  refine L.nil ?_
  refine J.seq ?_
  refine J.seq ?_
  refine J.region ?_
  refine L.va rfl ((by first | exact X.loadAgg rfl (range_l hk12) Try.underlying49 rfl (by kernel_rfl) | exact X.loadAgg rfl (range_blk hk12) Try.underlying49 rfl (by kernel_rfl) | exact X.loadAgg rfl (range_l hk2) Try.underlying49 rfl (by kernel_rfl) | exact X.loadAgg rfl (range_blk hk2) Try.underlying49 rfl (by kernel_rfl))) ?_
  refine L.call rfl en_29 rfl ((hH.ext he02).light) ?_
  rintro e w3 ⟨l1, rfl, hl1', he3⟩
  refine ⟨_, rfl, ?_⟩
  have he3 : Ext w2 w3 := he3
  have he03 := he02.trans he3
  replace hk12 := hk12.ext he3
  replace hk2 := hk2.ext he3
  refine L.va rfl (X.not rfl) ?_
  refine L.va rfl (X.move (by conv => lhs; whnf)) ?_
  cases l1
  · refine L.caseBT (k := 13) rfl (by rfl) ?_
    refine L.no rfl ?_
    refine L.no rfl ?_
    refine L.no rfl ?_
    refine L.va rfl (X.pickT rfl (by conv => lhs; whnf)) ?_
    refine L.nil ?_
    refine J.iteT rfl ?_
    refine J.seq ?_
    refine J.region ?_
    refine L.call rfl en_31 rfl (awake29 _) ?_
    rintro e w4 ⟨rfl, he4⟩
    refine ⟨_, rfl, ?_⟩
    refine L.va rfl (X.assign (by conv => lhs; whnf)) ?_
    refine L.nil ?_
    refine J.ret ?_
    refine thn_ret <| ?_
    refine fin1 ?_
    exact ⟨rfl, he03.trans he4⟩
  · refine L.caseBF (k := 13) rfl (by rfl) ?_
    refine L.va rfl ((by first | exact X.loadAgg rfl (range_l hk12) Try.underlying54 rfl (by kernel_rfl) | exact X.loadAgg rfl (range_blk hk12) Try.underlying54 rfl (by kernel_rfl) | exact X.loadAgg rfl (range_l hk2) Try.underlying54 rfl (by kernel_rfl) | exact X.loadAgg rfl (range_blk hk2) Try.underlying54 rfl (by kernel_rfl))) ?_
    refine L.call rfl en_30 rfl (light29 q ((hq.ext he03).more he03.le)) ?_
    rintro e w4 ⟨⟨l2, rfl⟩, he4⟩
    refine ⟨_, rfl, ?_⟩
    have he04 := he03.trans he4
    replace hk12 := hk12.ext he4
    replace hk2 := hk2.ext he4
    refine L.va rfl (X.not rfl) ?_
    refine L.va rfl (X.pickF rfl (by conv => lhs; whnf)) ?_
    refine L.nil ?_
    cases l2
    · refine J.iteT rfl ?_
      refine J.seq ?_
      refine J.region ?_
      refine L.call rfl en_31 rfl (awake29 _) ?_
      rintro e w5 ⟨rfl, he5⟩
      refine ⟨_, rfl, ?_⟩
      refine L.va rfl (X.assign (by conv => lhs; whnf)) ?_
      refine L.nil ?_
      refine J.ret ?_
      refine thn_ret <| ?_
      refine fin1 ?_
      exact ⟨rfl, he04.trans he5⟩
    · have H4 := ((hH.ext he03).here (hl1' rfl)).ext he4
      have Q4 := (hq.ext he04).more he04.le
      refine J.iteF rfl ?_
      refine J.skip ?_
      refine J.seq ?_
      refine J.region ?_
      refine L.va rfl ((by first | exact X.loadAgg rfl (range_l hk12) Try.underlying49 rfl (by kernel_rfl) | exact X.loadAgg rfl (range_blk hk12) Try.underlying49 rfl (by kernel_rfl) | exact X.loadAgg rfl (range_l hk2) Try.underlying49 rfl (by kernel_rfl) | exact X.loadAgg rfl (range_blk hk2) Try.underlying49 rfl (by kernel_rfl))) ?_
      refine L.va rfl ((by first | exact X.loadAgg rfl (range_l hk12) Try.underlying54 rfl (by kernel_rfl) | exact X.loadAgg rfl (range_blk hk12) Try.underlying54 rfl (by kernel_rfl) | exact X.loadAgg rfl (range_l hk2) Try.underlying54 rfl (by kernel_rfl) | exact X.loadAgg rfl (range_blk hk2) Try.underlying54 rfl (by kernel_rfl))) ?_
      by_cases hc : qcode s q = 0
      · refine L.call rfl en_43 rfl (qput_yes H4 Q4 hc hqm) ?_
        rintro e w5 ⟨A5, c5, rfl, ho5, he5⟩
        refine ⟨_, rfl, ?_⟩
        have he05 := he04.trans he5
        have H5 := H4.ext he5
        have Q5 := (Q4.ext he5).more he5.le
        replace hk12 := hk12.ext he5
        replace hk2 := hk2.ext he5
        refine L.va rfl (X.move (by conv => lhs; whnf)) ?_
        refine L.va rfl (X.extract rfl rfl) ?_
        refine L.va rfl (X.extract rfl rfl) ?_
        refine L.va rfl (X.assign (by conv => lhs; whnf)) ?_
        refine L.va rfl (X.assign (by conv => lhs; whnf)) ?_
        refine L.nil ?_
        refine J.seq ?_
        refine J.seq ?_
        refine J.region ?_
        refine L.va rfl ((by first | exact X.loadAgg rfl (range_l hk12) Try.underlying49 rfl (by kernel_rfl) | exact X.loadAgg rfl (range_blk hk12) Try.underlying49 rfl (by kernel_rfl) | exact X.loadAgg rfl (range_l hk2) Try.underlying49 rfl (by kernel_rfl) | exact X.loadAgg rfl (range_blk hk2) Try.underlying49 rfl (by kernel_rfl))) ?_
        refine L.va rfl ((by first | exact X.loadAgg rfl (range_l hk12) Try.underlying54 rfl (by kernel_rfl) | exact X.loadAgg rfl (range_blk hk12) Try.underlying54 rfl (by kernel_rfl) | exact X.loadAgg rfl (range_l hk2) Try.underlying54 rfl (by kernel_rfl) | exact X.loadAgg rfl (range_blk hk2) Try.underlying54 rfl (by kernel_rfl))) ?_
        refine L.call rfl en_36 rfl (rqcheck H5 Q5) ?_
        rintro e w6 ⟨rfl, he6⟩
        refine ⟨_, rfl, ?_⟩
        rw [hc]
        have he06 := he05.trans he6
        have H6 := H5.ext he6
        have Q6 := (Q5.ext he6).more he6.le
        have ho6 := World.ownsRow.ext ho5 he6
        have F := qfits Q6 hc hqm
        have hle := qb_le F
        have hg := qg_qb F
        replace hk12 := hk12.ext he6
        replace hk2 := hk2.ext he6
        refine L.va rfl (X.assign (by conv => lhs; whnf)) ?_
        refine L.nil ?_
        refine J.seq ?_
        refine J.region ?_
        refine L.va rfl (X.move (by conv => lhs; whnf)) ?_
        refine L.va rfl (X.neq rfl rfl) ?_
        refine L.nil ?_
        refine J.iteF rfl ?_
        refine J.skip ?_
        refine J.seq ?_
        refine J.region ?_
        refine L.va rfl ((by first | exact X.loadAgg rfl (range_l hk12) Try.underlying49 rfl (by kernel_rfl) | exact X.loadAgg rfl (range_blk hk12) Try.underlying49 rfl (by kernel_rfl) | exact X.loadAgg rfl (range_l hk2) Try.underlying49 rfl (by kernel_rfl) | exact X.loadAgg rfl (range_blk hk2) Try.underlying49 rfl (by kernel_rfl))) ?_
        refine L.va rfl (X.move (by conv => lhs; whnf)) ?_
        refine L.call rfl en_40 rfl (qget (c := c5) H6 (Reads.of_own ho6) hle.2 (by omega)) ?_
        rintro e w7 ⟨r, x, rfl, hr, hG, he7⟩
        refine ⟨_, rfl, ?_⟩
        have he07 := he06.trans he7
        obtain ⟨a, a1, ⟨N, wN, a2⟩, a3, a4, a5⟩ := hG.not (qc_ok hc).1 hg.2
        rw [hg.1] at a1
        have hav : a.Eqv q := eqv_of a1 ⟨rfl, rfl, rfl, rfl, rfl⟩
        have hx0 : x = 0 := by rw [a3, qcode_eqv a2 Q6 hav, hc]
        subst hx0
        have hra := a5 rfl
        subst hra
        replace hk12 := hk12.ext he7
        replace hk2 := hk2.ext he7
        refine L.va rfl (X.move (by conv => lhs; whnf)) ?_
        refine L.va rfl (X.extract rfl rfl) ?_
        refine L.va rfl (X.extract rfl rfl) ?_
        refine L.alloc rfl zr_54 ?_
        intro b8 w8 hb8 hs8 hk8 he8
        replace hk12 := hk12.ext he8
        replace hk2 := hk2.ext he8
        have lA1 := hk12.lt
        have lA2 := hk2.lt
        refine L.storeAgg (vs := [_, _, _, _, _]) rfl rfl rfl rfl sz_54 (hk8) rfl ?_
        intro w9 hk9 hg9 hs9
        have he79 : Ext w7 w9 := he8.grw hg9 (by intro g hg; injection hg with hg; omega)
        have hk9 : Blk w9 b8 54 r.vs.toArray := hk9
        have n82 : b2 ≠ b8 := by
          intro e
          have h1 := he3.le
          have h2 := he4.le
          have h3 := he5.le
          have h4 := he6.le
          have h5 := he7.le
          omega
        have hk29 := hk2.grown hg9 (by intro e; injection e with e; exact n82 e)
        have he69 := he7.trans he79
        have Q9 := (Q6.ext he69).more he69.le
        have R9 := (hr.ext he79).more he79.le
        have ho9 := World.ownsRow.ext ho6 he69
        have he09 := he07.trans he79
        refine L.va rfl (X.assign (by conv => lhs; whnf)) ?_
        refine L.nil ?_
        refine J.seq ?_
        refine J.draw (ℓ := 1000000) (S := Ext w9) mixed (fun wa hS hS_h => ?_)
        refine D.va 0 rfl (by kernel_rfl) (fun _ _ _ h => h) rfl (fun w' hw => X.move (by conv => lhs; whnf)) hS ?_
        refine D.va 1 rfl (by kernel_rfl) (fun _ _ _ h => h) rfl (fun w' hw => X.eql rfl rfl) hS ?_
        refine D.va 2 rfl (by kernel_rfl) (fun _ _ _ h => h) rfl (fun w' hw => X.move (by conv => lhs; whnf)) hS ?_
        refine D.caseDecT (k := 49) rfl (by rfl) ?_
        refine D.va 3 rfl (by kernel_rfl) (fun _ _ _ h => h) rfl (fun w' hw => X.move (by conv => lhs; whnf)) hS ?_
        refine D.va 4 rfl (by kernel_rfl) (fun _ _ _ h => h) rfl (fun w' hw => X.conv rfl ((own_reads (World.ownsRow.ext ho9 hw)).conv Try.underlying30 Try.underlying5 Try.underlying9)) hS ?_
        refine D.va 5 rfl (by kernel_rfl) (fun _ _ _ h => h) rfl (fun w' hw => (by first | exact X.loadAgg rfl (range_l (hk29.ext hw)) Try.underlying54 rfl (by kernel_rfl) | exact X.loadAgg rfl (range_blk (hk29.ext hw)) Try.underlying54 rfl (by kernel_rfl) | exact X.loadAgg rfl (range_l (hk9.ext hw)) Try.underlying54 rfl (by kernel_rfl) | exact X.loadAgg rfl (range_blk (hk9.ext hw)) Try.underlying54 rfl (by kernel_rfl))) hS ?_
        refine D.one 6 (by kernel_rfl) rfl ?_
        refine L.call rfl en_42 rfl (rqput ((Q9.ext hS).more hS.le) F) ?_
        rintro e wb ⟨Ab, cb, rfl, hob, heb⟩
        refine ⟨_, rfl, ?_⟩
        have hS1 := hS.trans heb
        refine L.nil ?_
        refine ⟨fun _ => hS1, ?_⟩
        refine D.one 7 (by kernel_rfl) rfl ?_
        refine L.va rfl (X.conv rfl ((own_reads hob).conv Try.underlying30 Try.underlying5 Try.underlying9)) ?_
        refine L.nil ?_
        refine ⟨fun _ => hS1, ?_⟩
        refine D.va 8 rfl (by kernel_rfl) (fun _ _ _ h => h) rfl (fun w' hw => X.eqlS rfl rfl) hS1 ?_
        refine D.va 9 rfl (by kernel_rfl) (fun _ _ _ h => h) rfl (fun w' hw => X.pickT rfl (by conv => lhs; whnf)) hS1 ?_
        refine D.va 10 rfl (by kernel_rfl) (fun _ _ _ h => h) rfl (fun w' hw => X.move (by conv => lhs; whnf)) hS1 ?_
        refine D.caseDecT (k := 57) rfl (by rfl) ?_
        refine D.va 11 rfl (by kernel_rfl) (fun _ _ _ h => h) rfl (fun w' hw => X.move (by conv => lhs; whnf)) hS1 ?_
        refine D.va 12 rfl (by kernel_rfl) (fun _ _ _ h => h) rfl (fun w' hw => X.eql rfl rfl) hS1 ?_
        refine D.va 13 rfl (by kernel_rfl) (fun _ _ _ h => h) rfl (fun w' hw => X.pickT rfl (by conv => lhs; whnf)) hS1 ?_
        refine D.va 14 rfl (by kernel_rfl) (fun _ _ _ h => h) rfl (fun w' hw => X.move (by conv => lhs; whnf)) hS1 ?_
        refine D.caseDecT (k := 61) rfl (by rfl) ?_
        refine D.va 15 rfl (by kernel_rfl) (fun _ _ _ h => h) rfl (fun w' hw => (by first | exact X.loadAgg rfl (range_l (hk29.ext hw)) Try.underlying54 rfl (by kernel_rfl) | exact X.loadAgg rfl (range_blk (hk29.ext hw)) Try.underlying54 rfl (by kernel_rfl) | exact X.loadAgg rfl (range_l (hk9.ext hw)) Try.underlying54 rfl (by kernel_rfl) | exact X.loadAgg rfl (range_blk (hk9.ext hw)) Try.underlying54 rfl (by kernel_rfl))) hS1 ?_
        refine D.va 16 rfl (by kernel_rfl) (fun _ _ _ h => h) rfl (fun w' hw => (by first | exact X.loadAgg rfl (range_l (hk29.ext hw)) Try.underlying54 rfl (by kernel_rfl) | exact X.loadAgg rfl (range_blk (hk29.ext hw)) Try.underlying54 rfl (by kernel_rfl) | exact X.loadAgg rfl (range_l (hk9.ext hw)) Try.underlying54 rfl (by kernel_rfl) | exact X.loadAgg rfl (range_blk (hk9.ext hw)) Try.underlying54 rfl (by kernel_rfl))) hS1 ?_
        refine D.one 17 (by kernel_rfl) rfl ?_
        refine L.call rfl en_37 rfl (rqsame ((R9.ext hS1).more hS1.le) ((Q9.ext hS1).more hS1.le)) ?_
        rintro e wc ⟨rfl, hec⟩
        refine ⟨_, rfl, ?_⟩
        have hS2 := hS1.trans hec
        refine L.nil ?_
        refine ⟨fun _ => hS2, ?_⟩
        refine D.va 18 rfl (by kernel_rfl) (fun _ _ _ h => h) rfl (fun w' hw => X.pickT rfl (by conv => lhs; whnf)) hS2 ?_
        refine D.va 19 rfl (by kernel_rfl) (fun _ _ _ h => h) rfl (fun w' hw => X.move (by conv => lhs; whnf)) hS2 ?_
        refine D.caseBT (k := 66) rfl (by exact decide_eq_true hav) ?_
        refine D.one 20 (by kernel_rfl) rfl ?_
        refine L.call rfl en_31 rfl (awake29 wc) ?_
        rintro e wd ⟨rfl, hed⟩
        refine ⟨_, rfl, ?_⟩
        have hS3 := hS2.trans hed
        refine L.nil ?_
        refine ⟨fun _ => hS3, ?_⟩
        refine D.va 21 rfl (by kernel_rfl) (fun _ _ _ h => h) rfl (fun w' hw => X.pickT rfl (by conv => lhs; whnf)) hS3 ?_
        refine D.va 22 rfl (by kernel_rfl) (fun _ _ _ h => h) rfl (fun w' hw => X.assign (by conv => lhs; whnf)) hS3 ?_
        refine D.done (by kernel_rfl) ?_
        replace hk29 := hk29.ext hS3
        replace hk9 := hk9.ext hS3
        refine J.ret ?_
        refine fin1 ?_
        exact ⟨rfl, he09.trans hS3⟩
      · refine L.call rfl en_43 rfl (qput_no H4 Q4 hc) ?_
        rintro e w5 ⟨rfl, he5⟩
        refine ⟨_, rfl, ?_⟩
        have he05 := he04.trans he5
        have H5 := H4.ext he5
        have Q5 := (Q4.ext he5).more he5.le
        replace hk12 := hk12.ext he5
        replace hk2 := hk2.ext he5
        refine L.va rfl (X.move (by conv => lhs; whnf)) ?_
        refine L.va rfl (X.extract rfl rfl) ?_
        refine L.va rfl (X.extract rfl rfl) ?_
        refine L.va rfl (X.assign (by conv => lhs; whnf)) ?_
        refine L.va rfl (X.assign (by conv => lhs; whnf)) ?_
        refine L.nil ?_
        refine J.seq ?_
        refine J.seq ?_
        refine J.region ?_
        refine L.va rfl ((by first | exact X.loadAgg rfl (range_l hk12) Try.underlying49 rfl (by kernel_rfl) | exact X.loadAgg rfl (range_blk hk12) Try.underlying49 rfl (by kernel_rfl) | exact X.loadAgg rfl (range_l hk2) Try.underlying49 rfl (by kernel_rfl) | exact X.loadAgg rfl (range_blk hk2) Try.underlying49 rfl (by kernel_rfl))) ?_
        refine L.va rfl ((by first | exact X.loadAgg rfl (range_l hk12) Try.underlying54 rfl (by kernel_rfl) | exact X.loadAgg rfl (range_blk hk12) Try.underlying54 rfl (by kernel_rfl) | exact X.loadAgg rfl (range_l hk2) Try.underlying54 rfl (by kernel_rfl) | exact X.loadAgg rfl (range_blk hk2) Try.underlying54 rfl (by kernel_rfl))) ?_
        refine L.call rfl en_36 rfl (rqcheck H5 Q5) ?_
        rintro e w6 ⟨rfl, he6⟩
        refine ⟨_, rfl, ?_⟩
        have he06 := he05.trans he6
        refine L.va rfl (X.assign (by conv => lhs; whnf)) ?_
        refine L.nil ?_
        refine J.seq ?_
        refine J.region ?_
        refine L.va rfl (X.move (by conv => lhs; whnf)) ?_
        refine L.va rfl (X.neq rfl rfl) ?_
        refine L.nil ?_
        refine J.ndecT rfl (by exact hc) ?_
        refine J.seq ?_
        refine J.region ?_
        refine L.va rfl (X.move (by conv => lhs; whnf)) ?_
        refine L.va rfl (X.len rfl Try.underlying30) ?_
        refine L.va rfl (X.eql rfl rfl) ?_
        refine L.va rfl (X.move (by conv => lhs; whnf)) ?_
        refine L.caseDecT (k := 33) rfl (by rfl) ?_
        refine L.va rfl (X.move (by conv => lhs; whnf)) ?_
        refine L.va rfl (X.move (by conv => lhs; whnf)) ?_
        refine L.va rfl (X.eql rfl rfl) ?_
        refine L.va rfl (X.pickT rfl (by conv => lhs; whnf)) ?_
        refine L.va rfl (X.move (by conv => lhs; whnf)) ?_
        refine L.caseDecT (k := 38) rfl (by rfl) ?_
        refine L.call rfl en_31 rfl (awake29 _) ?_
        rintro e w7 ⟨rfl, he7⟩
        refine ⟨_, rfl, ?_⟩
        refine L.va rfl (X.pickT rfl (by conv => lhs; whnf)) ?_
        refine L.va rfl (X.assign (by conv => lhs; whnf)) ?_
        refine L.nil ?_
        refine J.ret ?_
        refine thn_ret <| ?_
        refine fin1 ?_
        exact ⟨rfl, he06.trans he7⟩
end Go.Proofs.Ytlipeplfjkgamaa
