/-
  A query's plain form: query.Norm, walked.
-/
import Derived.Test.YtlipeplfjkgamaaWQryN
import Derived.Test.YtlipeplfjkgamaaTypChg
namespace Go.Proofs.Ytlipeplfjkgamaa
set_option maxRecDepth 100000
open Go.RowKit H
open Nrm (nrm)
set_option linter.unusedVariables false
theorem FisOwn.tch {f : Fis} {N t : Nat} {w w' : World} (h : FisOwn f N w) (hC : TCh t w w') (h1 : 150 ≠ t) (h2 : 3 ≠ t) : FisOwn f N w' :=
  ⟨hC.own h.o h1, fun x hx => hC.own (h.h x hx) h2, h.l⟩
theorem qnorm_no {s : Sch} {q : Qu} {w : World} (H : s.Here w) (hq : q.At w.heap.size w) (hc : qcode s q ≠ 0) : Calls Try.prog 32 #[s.val, q.val] w fun e w' => e = .returned (.tuple #[(Qu.mk 0 ⟨none, 0, 0, []⟩ none 0 0 [] none 0 0 [] 0).val, .int .i64 (qcode s q)]) ∧ Ext w w' := by
  have hle := H.hle
  refine enter Try.func32 rfl (by kernel_rfl) ?_
  refine J.seq ?_
  refine J.region ?_
  -- box
  refine L.boxA (l := [_, _, _, _]) rfl rfl ?_
  intro b1 w1 hb1 hs1 hk1 he1
  -- box
  refine L.boxA (l := [_, _, _, _, _]) rfl rfl ?_
  intro b2 w2 hb2 hs2 hk2 he2
  have hk12 := hk1.ext he2
  have he02 := he1.trans he2
  have hk2 : Blk w2 b2 54 q.vs.toArray := hk2
  -- alloc
  refine L.alloc rfl zr_54 ?_
  intro b3 w3 hb3 hs3 hk3 he3
  have he03 := he02.trans he3
  replace hk2 := hk2.ext he3
  replace hk12 := hk12.ext he3
  refine L.va rfl (X.assign (by conv => lhs; whnf)) ?_
  refine L.nil ?_
  refine J.seq ?_
  refine J.seq ?_
  refine J.region ?_
  refine L.va rfl ((by first | exact X.loadAgg rfl (range_l hk2) Try.underlying49 rfl (by kernel_rfl) | exact X.loadAgg rfl (range_blk hk2) Try.underlying49 rfl (by kernel_rfl) | exact X.loadAgg rfl (range_l hk12) Try.underlying49 rfl (by kernel_rfl) | exact X.loadAgg rfl (range_blk hk12) Try.underlying49 rfl (by kernel_rfl))) ?_
  refine L.va rfl ((by first | exact X.loadAgg rfl (range_l hk2) Try.underlying54 rfl (by kernel_rfl) | exact X.loadAgg rfl (range_blk hk2) Try.underlying54 rfl (by kernel_rfl) | exact X.loadAgg rfl (range_l hk12) Try.underlying54 rfl (by kernel_rfl) | exact X.loadAgg rfl (range_blk hk12) Try.underlying54 rfl (by kernel_rfl))) ?_
  -- callfn bushel/query.Check
  refine L.call rfl en_33 rfl (qcheck (H.ext he03) ((hq.ext he03).more he03.le)) ?_
  rintro e w4 ⟨rfl, he4⟩
  refine ⟨_, rfl, ?_⟩
  have hk34 := hk3.ext he4
  have he04 := he03.trans he4
  have y3 := he3.le
  refine L.va rfl (X.assign (by conv => lhs; whnf)) ?_
  refine L.nil ?_
  refine J.seq ?_
  refine J.region ?_
  refine L.va rfl (X.move (by conv => lhs; whnf)) ?_
  refine L.va rfl (X.neq rfl rfl) ?_
  refine L.nil ?_
  -- cond
  refine J.ndecT rfl (by exact hc) ?_
  refine J.seq ?_
  refine J.region ?_
  refine L.va rfl (X.build (l := [_, _, _, _, _]) Evs.nil (bld_run Try.underlying54 (bp_54 Try.underlying54) zr_54 rfl)) ?_
  refine L.va rfl (X.move (by conv => lhs; whnf)) ?_
  -- store
  refine L.storeAgg (vs := [_, _, _, _, _]) rfl rfl rfl rfl sz_54 (hk34) rfl ?_
  intro w5 hk5 hg5 hs5
  refine L.va rfl (X.assign (by conv => lhs; whnf)) ?_
  refine L.nil ?_
  -- ret
  refine J.ret ?_
  refine thn_ret <| ?_
  -- results [['ResultVar.cell', 4, 54], ['ResultVar.tmp', 5]]
  refine finCT rfl (run_cell hk5 Try.underlying54 rfl (by kernel_rfl)) ?_
  have z4 := he4.le
  have z3 := he02.le
  exact ⟨rfl, he04.grw hg5 (by intro g hg; injection hg with hg; omega)⟩
/-- a query in plain form, of a call's own -/
structure Qn (s : Sch) (q r : Qu) : Prop where
  g : r.g = q.g
  m : r.m = q.m
  c : r.c = q.c
  o : r.o = dd q.o
  k : r.f.l.map Fi.key = nrm (q.f.l.map Fi.key) 0 (szs s s.nd)
theorem qnorm_ok {s : Sch} {q : Qu} {w : World} (H : s.Here w) (hq : q.At w.heap.size w) (hc : qcode s q = 0) : Calls Try.prog 32 #[s.val, q.val] w fun e w' => ∃ r : Qu, e = .returned (.tuple #[r.val, .int .i64 0]) ∧ r.At w'.heap.size w' ∧ Qn s q r ∧ Ext w w' := by
  have hle := H.hle
  have hok := qc_ok hc
  have lo := hq.lo
  have lc := hq.lc
  refine enter Try.func32 rfl (by kernel_rfl) ?_
  refine J.seq ?_
  refine J.region ?_
  -- box
  refine L.boxA (l := [_, _, _, _]) rfl rfl ?_
  intro b1 w1 hb1 hs1 hk1 he1
  -- box
  refine L.boxA (l := [_, _, _, _, _]) rfl rfl ?_
  intro b2 w2 hb2 hs2 hk2 he2
  have hk12 := hk1.ext he2
  have he02 := he1.trans he2
  have hk2 : Blk w2 b2 54 q.vs.toArray := hk2
  -- alloc
  refine L.alloc rfl zr_54 ?_
  intro b3 w3 hb3 hs3 hk3 he3
  have he03 := he02.trans he3
  replace hk2 := hk2.ext he3
  replace hk12 := hk12.ext he3
  refine L.va rfl (X.assign (by conv => lhs; whnf)) ?_
  refine L.nil ?_
  refine J.seq ?_
  refine J.seq ?_
  refine J.region ?_
  refine L.va rfl ((by first | exact X.loadAgg rfl (range_l hk2) Try.underlying49 rfl (by kernel_rfl) | exact X.loadAgg rfl (range_blk hk2) Try.underlying49 rfl (by kernel_rfl) | exact X.loadAgg rfl (range_l hk12) Try.underlying49 rfl (by kernel_rfl) | exact X.loadAgg rfl (range_blk hk12) Try.underlying49 rfl (by kernel_rfl))) ?_
  refine L.va rfl ((by first | exact X.loadAgg rfl (range_l hk2) Try.underlying54 rfl (by kernel_rfl) | exact X.loadAgg rfl (range_blk hk2) Try.underlying54 rfl (by kernel_rfl) | exact X.loadAgg rfl (range_l hk12) Try.underlying54 rfl (by kernel_rfl) | exact X.loadAgg rfl (range_blk hk12) Try.underlying54 rfl (by kernel_rfl))) ?_
  -- callfn bushel/query.Check
  refine L.call rfl en_33 rfl (qcheck (H.ext he03) ((hq.ext he03).more he03.le)) ?_
  rintro e w4 ⟨rfl, he4⟩
  refine ⟨_, rfl, ?_⟩
  rw [hc]
  have hk34 := hk3.ext he4
  have he04 := he03.trans he4
  have z4 := he04.le
  have y4 := he4.le
  have l3 := hk34.lt
  have y3 := he02.le
  replace hk2 := hk2.ext he4
  replace hk12 := hk12.ext he4
  refine L.va rfl (X.assign (by conv => lhs; whnf)) ?_
  refine L.nil ?_
  refine J.seq ?_
  refine J.region ?_
  refine L.va rfl (X.move (by conv => lhs; whnf)) ?_
  refine L.va rfl (X.neq rfl rfl) ?_
  refine L.nil ?_
  -- cond
  refine J.iteF rfl ?_
  refine J.skip ?_
  -- until
  refine J.cut (X := Option Addr × Nat × Nat) [7, 17, 18, 19, 20, 21, 22, 23, 24] (fun (A, c, b7) => [(7, .pointer (some ⟨b7, 0, none⟩))]) (fun (A, c, b7) w' => w'.ownsRow w4.heap.size 130 2 (.slice A q.nc c) q.nc (q.c.flatMap cV) ∧ Blk w' b7 54 #[.int .u32 (q.g : Int), .slice none 0 0, .slice A q.nc c, .slice none 0 0, .int .i64 q.m] ∧ w4.heap.size ≤ b7 ∧ Ext w4 w') ?_ ?_
  · skip
    -- draw
    refine J.draw (ℓ := 1000000) (S := Ext w4) mixed (fun w5 hS hS_h => ?_)
    have z5 := hS.le
    refine D.va 0 rfl (by kernel_rfl) (fun _ _ _ h => h) rfl (fun w' hw => X.fieldAddr rfl Try.underlying54 rfl sz_50 (by decide)) hS ?_
    refine D.va 1 rfl (by kernel_rfl) (fun _ _ _ h => h) rfl (fun w' hw => X.load rfl sc_50 (by first | exact Ld.blk (hk2.ext hw) rfl | exact Ld.blk (hk12.ext hw) rfl)) hS ?_
    refine D.va 2 rfl (by kernel_rfl) (fun _ _ _ h => h) rfl (fun w' hw => X.fieldAddr rfl Try.underlying54 rfl sz_52 (by decide)) hS ?_
    refine D.va 3 rfl (by kernel_rfl) (fun _ _ _ h => h) rfl (fun w' hw => X.load rfl sc_52 (by first | exact Ld.blk (hk2.ext hw) rfl | exact Ld.blk (hk12.ext hw) rfl)) hS ?_
    refine D.va 5 rfl (by kernel_rfl) (fun _ _ _ h => h) rfl (fun w' hw => X.fieldAddr rfl Try.underlying54 rfl sz_3 (by decide)) hS ?_
    refine D.va 6 rfl (by kernel_rfl) (fun _ _ _ h => h) rfl (fun w' hw => X.load rfl sc_3 (by first | exact Ld.blk (hk2.ext hw) rfl | exact Ld.blk (hk12.ext hw) rfl)) hS ?_
    refine D.two 4 8 (by kernel_rfl) rfl rfl ?_ ?_
    · have zz := (hS).le
      refine L.call rfl en_86 rfl (cloneC q.Ac q.nc q.cc q.c _ ((hq.ext (he04.trans hS)).c.more (by omega)) (by omega) lc) ?_
      rintro e wa ⟨A, c, rfl, ho, hea⟩
      refine ⟨_, rfl, ?_⟩
      have hS1 := (hS).trans hea
      refine L.nil ?_
      refine ⟨fun _ => hS1, ?_⟩
      have ho := own_lower ho zz
      try replace hk7 := hk7.ext hea
      refine D.va 7 rfl (by kernel_rfl) (fun _ _ _ h => h) rfl (fun w' hw => X.build (l := [_, _, _, _, _]) (Evs.cons (by conv => lhs; whnf) (Evs.cons (by conv => lhs; whnf) (Evs.cons (by conv => lhs; whnf) Evs.nil))) (bld_run Try.underlying54 (bp_54 Try.underlying54) zr_54 rfl)) hS1 ?_
      have zz := (hS1).le
      refine D.one 8 (by kernel_rfl) rfl ?_
      refine L.alloc rfl zr_54 ?_
      intro b7 wb hb7 hs7 hk7 heb
      have hS2 := (hS1).trans heb
      refine L.nil ?_
      refine ⟨fun _ => hS2, ?_⟩
      try replace ho := ho.ext heb
      have zz := (hS2).le
      refine D.one 9 (by kernel_rfl) rfl ?_
      refine L.storeAgg (vs := [_, _, _, _, _]) rfl rfl rfl rfl sz_54 (hk7) rfl ?_
      intro wc hk8 hg8 hs8
      have hS3 := (hS2).grw hg8 (by intro g hg; injection hg with hg; omega)
      refine L.nil ?_
      refine ⟨fun _ => hS3, ?_⟩
      have hC := TCh.put hk7 hg8
      replace ho := hC.own ho (by decide)
      refine D.done (by kernel_rfl) ?_
      replace hk2 := hk2.ext hS3
      replace hk12 := hk12.ext hS3
      refine ⟨(A, c, b7), At1 (by first | rfl | exact at_int rfl (by omega) | exact at_slice rfl (by omega) | exact at_int rfl (by simp)), (by (iterate 9 refine Agr.lk rfl ?_); exact Agr.rfl'), ?_⟩
      exact ⟨ho, hk8, by omega, hS3⟩
    · have zz := (hS).le
      refine L.alloc rfl zr_54 ?_
      intro b7 wb hb7 hs7 hk7 heb
      have hS1 := (hS).trans heb
      refine L.nil ?_
      refine ⟨fun _ => hS1, ?_⟩
      try replace ho := ho.ext heb
      have zz := (hS1).le
      refine D.one 4 (by kernel_rfl) rfl ?_
      refine L.call rfl en_86 rfl (cloneC q.Ac q.nc q.cc q.c _ ((hq.ext (he04.trans hS1)).c.more (by omega)) (by omega) lc) ?_
      rintro e wa ⟨A, c, rfl, ho, hea⟩
      refine ⟨_, rfl, ?_⟩
      have hS2 := (hS1).trans hea
      refine L.nil ?_
      refine ⟨fun _ => hS2, ?_⟩
      have ho := own_lower ho zz
      try replace hk7 := hk7.ext hea
      refine D.va 7 rfl (by kernel_rfl) (fun _ _ _ h => h) rfl (fun w' hw => X.build (l := [_, _, _, _, _]) (Evs.cons (by conv => lhs; whnf) (Evs.cons (by conv => lhs; whnf) (Evs.cons (by conv => lhs; whnf) Evs.nil))) (bld_run Try.underlying54 (bp_54 Try.underlying54) zr_54 rfl)) hS2 ?_
      have zz := (hS2).le
      refine D.one 9 (by kernel_rfl) rfl ?_
      refine L.storeAgg (vs := [_, _, _, _, _]) rfl rfl rfl rfl sz_54 (hk7) rfl ?_
      intro wc hk8 hg8 hs8
      have hS3 := (hS2).grw hg8 (by intro g hg; injection hg with hg; omega)
      refine L.nil ?_
      refine ⟨fun _ => hS3, ?_⟩
      have hC := TCh.put hk7 hg8
      replace ho := hC.own ho (by decide)
      refine D.done (by kernel_rfl) ?_
      replace hk2 := hk2.ext hS3
      replace hk12 := hk12.ext hS3
      refine ⟨(A, c, b7), At1 (by first | rfl | exact at_int rfl (by omega) | exact at_slice rfl (by omega) | exact at_int rfl (by simp)), (by (iterate 9 refine Agr.lk rfl ?_); exact Agr.rfl'), ?_⟩
      exact ⟨ho, hk8, by omega, hS3⟩
  · rintro ⟨A, c, b7⟩ g w5 ⟨ho5, hk7, hb7, he5⟩
    have he05 := he04.trans he5
    have z5 := he05.le
    have hk72 := hk2.ext he5
    have hk71 := hk12.ext he5
    have hk3 := hk34.ext he5
    refine J.seq ?_
    refine J.region ?_
    refine L.va rfl ((by first | exact X.loadAgg rfl (range_l hk7) Try.underlying49 rfl (by kernel_rfl) | exact X.loadAgg rfl (range_blk hk7) Try.underlying49 rfl (by kernel_rfl) | exact X.loadAgg rfl (range_l hk71) Try.underlying49 rfl (by kernel_rfl) | exact X.loadAgg rfl (range_blk hk71) Try.underlying49 rfl (by kernel_rfl) | exact X.loadAgg rfl (range_l hk72) Try.underlying49 rfl (by kernel_rfl) | exact X.loadAgg rfl (range_blk hk72) Try.underlying49 rfl (by kernel_rfl))) ?_
    refine L.va rfl (X.fieldAddr rfl Try.underlying54 rfl sz_51 (by decide)) ?_
    refine L.va rfl (X.load rfl sc_51 (by first | exact Ld.blk hk7 rfl | exact Ld.blk hk71 rfl | exact Ld.blk hk72 rfl)) ?_
    -- callfn bushel/filter.Norm
    refine L.call rfl en_87 rfl (fnorm_ok (H.ext he05) ((hq.ext he05).more z5).f hok.2.2.1) ?_
    rintro e w6 ⟨r, rfl, hr, hrk, he6⟩
    refine ⟨_, rfl, ?_⟩
    have he06 := he05.trans he6
    have z6 := he6.le
    have hk73 := hk3.ext he6
    have ho6 := ho5.ext he6
    replace hk7 := hk7.ext he6
    replace hk71 := hk71.ext he6
    replace hk72 := hk72.ext he6
    refine L.va rfl (X.move (by conv => lhs; whnf)) ?_
    refine L.va rfl (X.extract rfl rfl) ?_
    refine L.va rfl (X.extract rfl rfl) ?_
    refine L.va rfl (X.fieldAddr rfl Try.underlying54 rfl sz_51 (by decide)) ?_
    -- store
    refine L.store rfl rfl (by conv => lhs; whnf) rfl sz_51 (hk7) (by first | decide | exact Nat.le_of_ble_eq_true rfl) ?_
    intro w7 hk8 hg8 hs8
    have hC := TCh.put hk7 hg8
    have hr7 := hr.tch hC (by decide) (by decide)
    have ho7 := hC.own ho6 (by decide)
    have hk271 := hk71.grown hg8 (by intro e; injection e with e; have := hk12.lt; omega)
    have hk272 := hk72.grown hg8 (by intro e; injection e with e; have := hk2.lt; omega)
    have hk273 := hk73.grown hg8 (by intro e; injection e with e; omega)
    have he07 : Ext w w7 := he06.grw hg8 (by intro g hg; injection hg with hg; omega)
    have hk8 : Blk w7 b7 54 #[.int .u32 (q.g : Int), r.val, .slice A q.nc c, .slice none 0 0, .int .i64 q.m] := hk8
    have z7 := hC.size
    have hd71 : b7 ≠ b1 := by have := hk12.lt; omega
    have hd72 : b7 ≠ b2 := by have := hk2.lt; omega
    have hd73 : b7 ≠ b3 := by omega
    have mo := hq.mo
    unfold maxLen at mo
    refine L.nil ?_
    refine J.seq ?_
    refine J.seq ?_
    refine J.region ?_
    refine L.va rfl (X.fieldAddr rfl Try.underlying54 rfl sz_22 (by decide)) ?_
    refine L.va rfl (X.load rfl sc_22 (by first | exact Ld.blk hk8 rfl | exact Ld.blk hk271 rfl | exact Ld.blk hk272 rfl)) ?_
    refine L.va rfl (X.len rfl Try.underlying22) ?_
    refine L.va rfl (X.move (by conv => lhs; whnf)) ?_
    refine L.nil ?_
    refine J.block ?_
    -- loop
    refine J.loop (X := Nat × Option Addr × Nat × Nat × List (Int × Bool)) [9, 36, 37, 38, 39, 40, 41, 42, 43, 44, 45, 46, 47, 48, 49, 50, 51] (fun (i, A2, n2, c2, l) => [(36, .int .i64 (i : Int))]) (fun (i, A2, n2, c2, l) w' => i ≤ q.no ∧ l = dd (q.o.take i) ∧ n2 = l.length ∧ n2 ≤ i ∧ w'.ownsRow w7.heap.size 98 2 (.slice A2 n2 c2) n2 (l.flatMap oV) ∧ Blk w' b7 54 #[.int .u32 (q.g : Int), r.val, .slice A q.nc c, .slice A2 n2 c2, .int .i64 q.m] ∧ FisOwn r w5.heap.size w' ∧ w'.ownsRow w4.heap.size 130 2 (.slice A q.nc c) q.nc (q.c.flatMap cV) ∧ Blk w' b2 54 q.vs.toArray ∧ Blk w' b3 54 #[.int .u32 0, .slice none 0 0, .slice none 0 0, .slice none 0 0, .int .i64 0] ∧ w7.heap.size ≤ w'.heap.size ∧ Ext w w') (fun (i, _) => q.no - i) ((0, none, 0, 0, [])) (At1 (by first | rfl | exact at_int rfl (by omega) | exact at_slice rfl (by omega) | exact at_int rfl (by simp))) ?_ ?_
    · exact ⟨Nat.zero_le _, rfl, rfl, Nat.le_refl _, own_nil _ _ _ _, hk8, hr7, ho7, hk272, hk273, Nat.le_refl _, he07⟩
    · rintro ⟨i, A2, n2, c2, l⟩ g w8 ⟨hi, hl, hn2, hni, hro, hkq, hfr, hco, hkb, hkt, hz8, he8⟩
      have hq8 := hq.ext he8
      have z8 := he8.le
      refine J.seq ?_
      refine J.region ?_
      refine L.va rfl (X.lss rfl rfl) ?_
      refine L.nil ?_
      refine J.seq ?_
      -- cond
      refine J.dec rfl (fun hlt => ?_) (fun hlt => ?_)
      · have hin : i < q.no := by omega
        have hA := hq8.o.some_ (by omega)
        obtain ⟨x, hx⟩ : ∃ x, x = q.o.getD i o0 := ⟨_, rfl⟩
        have hgt := gtO (l := q.o) (i := i) (by omega)
        have hnx := dd_take (l := q.o) (i := i) (by omega)
        rw [← hx] at hgt hnx
        rw [← hl] at hnx
        have hor := Reads.of_own hro
        -- t39
        refine J.skip ?_
        refine J.seq ?_
        refine J.block ?_
        refine J.seq ?_
        refine J.region ?_
        refine L.va rfl ((by first | exact X.indexAddrn rfl rfl Try.underlying22 sz_98 (by first | exact Option.some_ne_none _ | exact hA) (by omega) | exact X.indexAddr rfl rfl Try.underlying22 sz_98 (by first | exact Option.some_ne_none _ | exact hA) (by omega))) ?_
        refine L.va rfl (X.loadRow (cs := oV x) rfl hq8.o (fun r u hu => flat_row oV_len hgt r u hu) (Nat.zero_lt_succ _) Try.underlying98 rfl (by kernel_rfl)) ?_
        -- alloc
        refine L.alloc rfl zr_98 ?_
        intro b9 w9 hb9 hs9 hk9 he9
        -- store
        refine L.storeAgg (vs := [_, _]) rfl rfl rfl rfl sz_98 (hk9) rfl ?_
        intro wa hka hga hsa
        have he8a : Ext w8 wa := he9.grw hga (by intro g hg; injection hg with hg; omega)
        have hka : Blk wa b9 98 (oV x).toArray := hka
        have hkqa := hkq.ext he8a
        have hkba := hkb.ext he8a
        have hroa := hro.ext he8a
        refine L.nil ?_
        refine J.seq ?_
        refine J.region ?_
        refine L.va rfl (X.fieldAddr rfl Try.underlying54 rfl sz_22 (by decide)) ?_
        refine L.va rfl (X.load rfl sc_22 (by first | exact Ld.blk hkqa rfl | exact Ld.blk hkba rfl | exact Ld.blk hka rfl | exact hA)) ?_
        refine L.va rfl (X.makeFn rfl) ?_
        -- callfn slices.ContainsFunc[[]bushel/api.Sort,bushel/api.Sort]
        refine L.call rfl en_88 rfl (contF (y := x) ((Reads.of_own hro).ext he8a |>.more he8a.le) hn2.symm (own_max hro) hka) ?_
        rintro e wb ⟨rfl, heb⟩
        refine ⟨_, rfl, ?_⟩
        have he8b := he8a.trans heb
        have hkqb := hkqa.ext heb
        have hkbb := hkba.ext heb
        have hrob := hroa.ext heb
        have hkab := hka.ext heb
        have he0b := he8.trans he8b
        have hfrb := hfr.ext he8b
        have hcob := hco.ext he8b
        have zb := he8b.le
        have hktb := hkt.ext he8b
        refine L.va rfl (X.not rfl) ?_
        refine L.nil ?_
        -- cond
        by_cases hh : hasC l x.1 = true
        · rw [hh]
          refine J.iteF rfl ?_
          refine J.skip ?_
          refine J.region ?_
          refine L.va rfl (X.add rfl rfl (by omega)) ?_
          refine L.va rfl (X.move (by conv => lhs; whnf)) ?_
          refine L.nil ?_
          -- loopend
          refine ⟨(i + 1, A2, n2, c2, l), At1 (by first | rfl | exact at_int rfl (by omega) | exact at_slice rfl (by omega) | exact at_int rfl (by simp)), (by (iterate 11 refine Agr.lk rfl ?_); exact Agr.lk rfl (Agr.hav rfl Agr.rfl')), ?_⟩
          refine ⟨⟨by omega, ?_, hn2, by omega, hrob, hkqb, hfrb, hcob, hkbb, hktb, by omega, he0b⟩, by show q.no - (i + 1) < q.no - i; omega⟩
          rw [hnx]; unfold ddS; rw [hh]; rfl
        · have hh : hasC l x.1 = false := by
            cases h : hasC l x.1
            · rfl
            · exact absurd h hh
          rw [hh]
          refine J.iteT rfl ?_
          refine J.region ?_
          refine L.va rfl (X.fieldAddr rfl Try.underlying54 rfl sz_22 (by decide)) ?_
          refine L.va rfl (X.load rfl sc_22 (by first | exact Ld.blk hkqb rfl | exact Ld.blk hkbb rfl | exact Ld.blk hkab rfl | exact hA)) ?_
          refine L.va rfl ((by first | exact X.loadAgg rfl (range_l hkqb) Try.underlying98 rfl (by kernel_rfl) | exact X.loadAgg rfl (range_blk hkqb) Try.underlying98 rfl (by kernel_rfl) | exact X.loadAgg rfl (range_l hkbb) Try.underlying98 rfl (by kernel_rfl) | exact X.loadAgg rfl (range_blk hkbb) Try.underlying98 rfl (by kernel_rfl) | exact X.loadAgg rfl (range_l hkab) Try.underlying98 rfl (by kernel_rfl) | exact X.loadAgg rfl (range_blk hkab) Try.underlying98 rfl (by kernel_rfl))) ?_
          -- buildSlice
          refine L.bslice1 (l := [_, _]) rfl rfl rfl Try.underlying22 sz_98 zr_98 rfl ?_
          intro bc wc hbc hsc hkc hec
          have hrc := hrob.ext hec
          have zc := hec.le
          have hones : ((oV x).all (·.oneCell')) = true := rfl
          have hkqc := hkqb.ext hec
          replace hkqb := hkqb.ext hec
          replace hkbb := hkbb.ext hec
          replace hkab := hkab.ext hec
          -- append
          refine L.appendV (q := n2 + 1) (ys := l.flatMap oV ++ oV x) rfl rfl rfl Try.underlying22 el_98 (hrc) (blk_readsN (sz := 2) (q := 1) (l := oV x) hkc hkc.lt rfl) (by first | rfl | exact strs_ones _ | assumption) (by omega) (by simp) (by unfold maxLen; omega) (by omega) ?_
          intro A3 c3 wd hod hgd hbd hord
          have hTd := TCh.row hrc hgd
          have hkqd := hTd.blk hkqc (by decide)
          have hkbd := hTd.blk hkbb (by decide)
          have hfrd := (hfrb.ext hec).tch hTd (by decide) (by decide)
          have hcod := hTd.own (hcob.ext hec) (by decide)
          have zd := hTd.size
          have he0d : Ext w wd := (he0b.trans hec).grw hgd (fun g hg => by have := (own_ofT hrc hg).2; omega)
          have hktd := hTd.blk (hktb.ext hec) (by decide)
          refine L.va rfl (X.fieldAddr rfl Try.underlying54 rfl sz_22 (by decide)) ?_
          -- store
          refine L.store rfl rfl (by conv => lhs; whnf) rfl sz_22 (hkqd) (by first | decide | exact Nat.le_of_ble_eq_true rfl) ?_
          intro we hke hge hse
          have hTe := TCh.put hkqd hge
          have hke : Blk we b7 54 #[.int .u32 (q.g : Int), r.val, .slice A q.nc c, .slice A3 (n2 + 1) c3, .int .i64 q.m] := hke
          have ze := hTe.size
          refine L.nil ?_
          refine J.region ?_
          refine L.va rfl (X.add rfl rfl (by omega)) ?_
          refine L.va rfl (X.move (by conv => lhs; whnf)) ?_
          refine L.nil ?_
          -- loopend
          refine ⟨(i + 1, A3, n2 + 1, c3, l ++ [x]), At1 (by first | rfl | exact at_int rfl (by omega) | exact at_slice rfl (by omega) | exact at_int rfl (by simp)), (by (iterate 17 refine Agr.lk rfl ?_); exact Agr.lk rfl (Agr.hav rfl Agr.rfl')), ?_⟩
          refine ⟨⟨by omega, ?_, by simp [hn2], by omega, hTe.own (by simpa using hod) (by decide), hke, hfrd.tch hTe (by decide) (by decide), hTe.own hcod (by decide), hkbd.grown hge (by intro e; injection e with e; exact hd72 e.symm), ?_, by omega, he0d.grw hge (by intro g hg; injection hg with hg; omega)⟩, by show q.no - (i + 1) < q.no - i; omega⟩
          · rw [hnx]; unfold ddS; rw [hh]; rfl
          · exact hktd.grown hge (by intro e; injection e with e; exact hd73 e.symm)
      · have e : q.o.take i = q.o := List.take_of_length_le (by omega)
        rw [e] at hl
        have hk3 := hkt
        refine J.exit ?_
        refine J.seq ?_
        refine J.region ?_
        refine L.va rfl ((by first | exact X.loadAgg rfl (range_l hkq) Try.underlying54 rfl (by kernel_rfl) | exact X.loadAgg rfl (range_blk hkq) Try.underlying54 rfl (by kernel_rfl))) ?_
        -- store
        refine L.storeAgg (vs := [_, _, _, _, _]) rfl rfl rfl rfl sz_54 (hk3) rfl ?_
        intro w9 hk9 hg9 hs9
        have hT := TCh.put hk3 hg9
        refine L.va rfl (X.assign (by conv => lhs; whnf)) ?_
        refine L.nil ?_
        -- ret
        refine J.ret ?_
        -- results [['ResultVar.cell', 4, 54], ['ResultVar.tmp', 5]]
        refine finCT rfl (run_cell hk9 Try.underlying54 rfl (by kernel_rfl)) ?_
        have hro9 := hT.own hro (by decide)
        have hco9 := hT.own hco (by decide)
        have hfr9 := hfr.tch hT (by decide) (by decide)
        refine ⟨⟨q.g, r, A, q.nc, c, q.c, A2, n2, c2, l, q.m⟩, rfl, ⟨hq.g, hfr9.at, Reads.of_own hco9, lc, hq.mc, Reads.of_own hro9, hn2.symm, own_max hro9⟩, ⟨rfl, rfl, rfl, hl, hrk⟩, he8.grw hg9 (by intro g hg; injection hg with hg; omega)⟩
end Go.Proofs.Ytlipeplfjkgamaa
