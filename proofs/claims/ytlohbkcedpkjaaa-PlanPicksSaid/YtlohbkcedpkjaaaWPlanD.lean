/-
  The reference's Pick; what is light; the example of chapter 30.
-/
import Derived.Test.YtlohbkcedpkjaaaWPlanC
import Derived.Test.YtlohbkcedpkjaaaWSchX
namespace Go.Proofs.Ytlohbkcedpkjaaa
set_option maxRecDepth 100000
open Go.RowKit H
open Mk
set_option linter.unusedVariables false
theorem rpick {s : Sch} {q : Qu} (z : Sz) {w : World} (H : s.Here w) (hq : q.At w.heap.size w) (hz : z.At w.heap.size w) (h : qcode s q = 0) : Calls Try.prog 24 #[s.val, z.val, q.val] w fun e w' => e = .returned (.int .i64 (cvA s.V (qneed q) z.z (1 + s.nv))) ∧ Ext w w' := by
  obtain ⟨t, ht⟩ := srv_first (base_sub H hq h) s.nv
  rw [Nat.add_comm] at ht
  obtain ⟨hc, _, _, _⟩ := qc_ok h
  have hnv := (Sch.good hc).1
  have hlz := H.zlen
  have hpk : cvA s.V (qneed q) z.z (1 + s.nv) = pkA z.z t 0 := by
    rcases cv_pk s.V (qneed q) z.z (1 + s.nv) with ⟨h1, _⟩ | ⟨a, t', h1, h2⟩
    · rw [h1] at ht; cases ht
    · rw [h1] at ht; cases ht; exact h2
  have hbd := srv_bd s.V (qneed q) (1 + s.nv)
  have hln := srv_len s.V (qneed q) (1 + s.nv)
  have K := fun w => @rserve s q w
  obtain ⟨Ls, hL⟩ : ∃ Ls, Ls = srv s.V (qneed q) (1 + s.nv) := ⟨_, rfl⟩
  rw [← hL] at ht hbd hln
  rw [hpk]
  have hl0 : Ls.length = t.length + 1 := by rw [ht]; rfl
  refine enter Try.func24 rfl (by kernel_rfl) ?_
  refine J.seq ?_
  refine J.region ?_
  -- box
  refine L.boxA (l := [_, _, _, _]) rfl rfl ?_
  intro b1 w1 hb1 hs1 hk1 he1
  -- box
  refine L.boxA (l := [_, _, _, _, _]) rfl rfl ?_
  intro b2 w2 hb2 hs2 hk2 he2
  have hk12 := hk1.ext he2
  have he02 := he1.trans he2
  have hk2 : Blk w2 b2 40 q.vs.toArray := hk2
  refine L.va rfl (X.assign (by conv => lhs; whnf)) ?_
  refine L.nil ?_
  refine J.seq ?_
  refine J.region ?_
  refine L.va rfl ((by first | exact X.loadAgg rfl (range_l hk2) Try.underlying34 rfl (by kernel_rfl) | exact X.loadAgg rfl (range_blk hk2) Try.underlying34 rfl (by kernel_rfl) | exact X.loadAgg rfl (range_l hk12) Try.underlying34 rfl (by kernel_rfl) | exact X.loadAgg rfl (range_blk hk12) Try.underlying34 rfl (by kernel_rfl))) ?_
  refine L.va rfl ((by first | exact X.loadAgg rfl (range_l hk2) Try.underlying40 rfl (by kernel_rfl) | exact X.loadAgg rfl (range_blk hk2) Try.underlying40 rfl (by kernel_rfl) | exact X.loadAgg rfl (range_l hk12) Try.underlying40 rfl (by kernel_rfl) | exact X.loadAgg rfl (range_blk hk12) Try.underlying40 rfl (by kernel_rfl))) ?_
  -- callfn bushel/bushelref30.Serve
  have K2 := K w2 (H.ext he02) ((hq.ext he02).more he02.le) h
  rw [← hL] at K2
  refine L.call rfl en_23 rfl (K2) ?_
  rintro e w4 ⟨A4, c4, rfl, ho4, he4⟩
  refine ⟨_, rfl, ?_⟩
  have he04 := he02.trans he4
  have z4 := hz.ext he04
  have r4 := Reads.of_own ho4
  have hA := r4.some_ (by omega)
  have e0 : Ls.getD 0 0 = ((0 : Nat) : Int) := by rw [ht]; rfl
  have l0 : Ld w4 (pA A4 0) (.int .i64 ((0 : Nat) : Int)) := by have := Ld.num (j := 0) r4 (by omega); rwa [e0] at this
  refine L.va rfl (X.assign (by conv => lhs; whnf)) ?_
  refine L.nil ?_
  refine J.seq ?_
  refine J.region ?_
  refine L.va rfl (X.move (by conv => lhs; whnf)) ?_
  refine L.va rfl (X.index1n (j := 0) rfl rfl Try.underlying25 sz_3 (by first | exact Option.some_ne_none _ | exact hA | exact l0) (by omega)) ?_
  refine L.va rfl (X.load rfl sc_3 (by first | exact hA | exact l0)) ?_
  refine L.va rfl (X.assign (by conv => lhs; whnf)) ?_
  refine L.nil ?_
  refine J.seq ?_
  refine J.seq ?_
  refine J.region ?_
  refine L.va rfl (X.assign (by conv => lhs; whnf)) ?_
  refine L.nil ?_
  refine J.block ?_
  -- loop
  refine J.loop (X := Nat × Nat) [8, 9, 16, 17, 18, 19, 20, 21, 22, 23, 24, 25, 26, 27, 28, 29, 30, 31, 32, 33, 34, 35] (fun (i, x) => [(9, .int .i64 (i : Int)), (8, .int .i64 (x : Int))]) (fun (i, x) w' => w' = w4 ∧ 1 ≤ i ∧ i ≤ Ls.length ∧ pkA z.z (Ls.drop i) (x : Int) = pkA z.z t 0) (fun (i, _) => Ls.length - i) ((1, 0)) (At2 (by first | rfl | exact at_int rfl (by omega) | exact at_slice rfl (by omega) | exact at_int rfl (by simp)) (by first | rfl | exact at_int rfl (by omega) | exact at_slice rfl (by omega) | exact at_int rfl (by simp))) ?_ ?_
  · exact ⟨rfl, Nat.le_refl _, by omega, by rw [ht]; rfl⟩
  · rintro ⟨i, x⟩ g w5 ⟨rfl, hi1, hi, hP⟩
    refine J.seq ?_
    refine J.seq ?_
    refine J.region ?_
    refine L.va rfl (X.move (by conv => lhs; whnf)) ?_
    refine L.va rfl (X.move (by conv => lhs; whnf)) ?_
    refine L.va rfl (X.len rfl Try.underlying25) ?_
    refine L.va rfl (X.lss rfl rfl) ?_
    refine L.nil ?_
    -- cond
    refine J.dec rfl (fun hlt => ?_) (fun hlt => ?_)
    · have hin : i < Ls.length := by omega
      obtain ⟨y, hy⟩ : ∃ y : Nat, Ls.getD i 0 = (y : Int) := by
        have := hbd _ (List.getElem_mem hin)
        exact ⟨(Ls[i]).toNat, by rw [List.getD, List.getElem?_eq_getElem hin]; show Ls[i] = _; omega⟩
      have hd : Ls.drop i = (y : Int) :: Ls.drop (i + 1) := by
        rw [List.drop_eq_getElem_cons hin, ← hy, List.getD, List.getElem?_eq_getElem hin]; rfl
      have hld : Ld w5 (pA A4 i) (.int .i64 (y : Int)) := by have := Ld.num (j := i) r4 (by omega); rwa [hy] at this
      rw [hd, pkA] at hP
      refine J.skip ?_
      refine J.seq ?_
      refine J.block ?_
      refine J.seq ?_
      refine J.region ?_
      refine L.va rfl (X.move (by conv => lhs; whnf)) ?_
      refine L.va rfl (X.move (by conv => lhs; whnf)) ?_
      refine L.va rfl (X.move (by conv => lhs; whnf)) ?_
      refine L.va rfl ((by first | exact X.index1n rfl rfl Try.underlying25 sz_3 (by first | exact Option.some_ne_none _ | exact hA | exact hld) (by omega) | exact X.index1 rfl rfl Try.underlying25 sz_3 (by first | exact Option.some_ne_none _ | exact hA | exact hld) (by omega))) ?_
      refine L.va rfl (X.load rfl sc_3 (by first | exact hA | exact hld)) ?_
      -- callfn bushel/bushelref30.Size
      refine L.call rfl en_20 rfl (rsize30 z.A z.n z.c z.z y z4.r) ?_
      rintro e _ ⟨rfl, rfl⟩
      refine ⟨_, rfl, ?_⟩
      refine L.va rfl (X.move (by conv => lhs; whnf)) ?_
      refine L.va rfl (X.move (by conv => lhs; whnf)) ?_
      -- callfn bushel/bushelref30.Size
      refine L.call rfl en_20 rfl (rsize30 z.A z.n z.c z.z x z4.r) ?_
      rintro e _ ⟨rfl, rfl⟩
      refine ⟨_, rfl, ?_⟩
      refine L.va rfl (X.lss rfl rfl) ?_
      refine L.nil ?_
      -- cond
      refine J.dec rfl (fun hs => ?_) (fun hs => ?_)
      · rw [if_pos hs] at hP
        refine J.region ?_
        refine L.va rfl (X.move (by conv => lhs; whnf)) ?_
        refine L.va rfl (X.move (by conv => lhs; whnf)) ?_
        refine L.va rfl ((by first | exact X.index1n rfl rfl Try.underlying25 sz_3 (by first | exact Option.some_ne_none _ | exact hA | exact hld) (by omega) | exact X.index1 rfl rfl Try.underlying25 sz_3 (by first | exact Option.some_ne_none _ | exact hA | exact hld) (by omega))) ?_
        refine L.va rfl (X.load rfl sc_3 (by first | exact hA | exact hld)) ?_
        refine L.va rfl (X.assign (by conv => lhs; whnf)) ?_
        refine L.nil ?_
        refine J.region ?_
        refine L.va rfl (X.move (by conv => lhs; whnf)) ?_
        refine L.va rfl (X.add rfl rfl (by omega)) ?_
        refine L.va rfl (X.assign (by conv => lhs; whnf)) ?_
        refine L.nil ?_
        -- loopend
        refine ⟨(i + 1, y), At2 (by first | rfl | exact at_int rfl (by omega) | exact at_slice rfl (by omega) | exact at_int rfl (by simp)) (by first | rfl | exact at_int rfl (by omega) | exact at_slice rfl (by omega) | exact at_int rfl (by simp)), (by (iterate 22 refine Agr.lk rfl ?_); exact Agr.lk rfl (Agr.hav rfl Agr.rfl')), ?_⟩
        exact ⟨⟨rfl, by omega, by omega, hP⟩, by show Ls.length - (i + 1) < Ls.length - i; omega⟩
      · rw [if_neg hs] at hP
        refine J.skip ?_
        refine J.region ?_
        refine L.va rfl (X.move (by conv => lhs; whnf)) ?_
        refine L.va rfl (X.add rfl rfl (by omega)) ?_
        refine L.va rfl (X.assign (by conv => lhs; whnf)) ?_
        refine L.nil ?_
        -- loopend
        refine ⟨(i + 1, x), At2 (by first | rfl | exact at_int rfl (by omega) | exact at_slice rfl (by omega) | exact at_int rfl (by simp)) (by first | rfl | exact at_int rfl (by omega) | exact at_slice rfl (by omega) | exact at_int rfl (by simp)), (by (iterate 17 refine Agr.lk rfl ?_); exact Agr.lk rfl (Agr.hav rfl Agr.rfl')), ?_⟩
        exact ⟨⟨rfl, by omega, by omega, hP⟩, by show Ls.length - (i + 1) < Ls.length - i; omega⟩
    · obtain rfl : i = Ls.length := by omega
      rw [List.drop_length] at hP
      rw [← hP]
      refine J.exit ?_
      refine J.seq ?_
      refine J.region ?_
      refine L.va rfl (X.move (by conv => lhs; whnf)) ?_
      refine L.va rfl (X.assign (by conv => lhs; whnf)) ?_
      refine L.nil ?_
      -- ret
      refine J.ret ?_
      refine fin1 ?_
      exact ⟨rfl, he04⟩
theorem light28 (f : Fis) (w : World) (hf : f.At w.heap.size w) : Calls Try.prog 45 #[f.val] w fun e w' => (∃ b, e = .returned (.bool b)) ∧ w = w' := by
  have hl := hf.l
  have hm := hf.m
  unfold maxLen at hm
  refine enter Try.func45 rfl (by kernel_rfl) ?_
  refine J.seq ?_
  refine J.region ?_
  refine L.va rfl (X.assign (by conv => lhs; whnf)) ?_
  refine L.nil ?_
  refine J.seq ?_
  refine J.seq ?_
  refine J.region ?_
  refine L.va rfl (X.move (by conv => lhs; whnf)) ?_
  refine L.va rfl (X.len rfl Try.underlying36) ?_
  refine L.va rfl (X.gtr rfl rfl) ?_
  refine L.nil ?_
  -- cond
  refine J.dec rfl (fun h1 => ?_) (fun h1 => ?_)
  · refine J.seq ?_
    refine J.region ?_
    refine L.va rfl (X.assign (by conv => lhs; whnf)) ?_
    refine L.nil ?_
    -- ret
    refine J.ret ?_
    refine thn_ret <| ?_
    refine fin1 ?_
    exact ⟨⟨_, rfl⟩, rfl⟩
  · refine J.skip ?_
    refine J.seq ?_
    refine J.seq ?_
    refine J.region ?_
    refine L.va rfl (X.assign (by conv => lhs; whnf)) ?_
    refine L.nil ?_
    refine J.block ?_
    -- loop
    refine J.loop (X := Nat) [2, 3, 7, 8, 9, 10, 11, 12, 13, 14, 15, 16, 17, 18, 19, 20, 21, 22, 23, 24, 25, 26, 27, 28, 29, 30, 31, 32, 33, 34, 35, 36, 37] (fun i => [(3, .int .i64 (i : Int))]) (fun i w' => w' = w ∧ i ≤ f.n) (fun i => f.n - i) (0) (At1 (by first | rfl | exact at_int rfl (by omega) | exact at_slice rfl (by omega) | exact at_int rfl (by simp))) ?_ ?_
    · exact ⟨rfl, Nat.zero_le _⟩
    · rintro i g w1 ⟨rfl, hi⟩
      refine J.seq ?_
      refine J.seq ?_
      refine J.region ?_
      refine L.va rfl (X.move (by conv => lhs; whnf)) ?_
      refine L.va rfl (X.move (by conv => lhs; whnf)) ?_
      refine L.va rfl (X.len rfl Try.underlying36) ?_
      refine L.va rfl (X.lss rfl rfl) ?_
      refine L.nil ?_
      -- cond
      refine J.dec rfl (fun hlt => ?_) (fun hlt => ?_)
      · have hA := hf.r.some_ (by omega)
        obtain ⟨x, hx⟩ : ∃ x, x = f.l.getD i fi0 := ⟨_, rfl⟩
        have hgt := gtF (l := f.l) (i := i) (by omega)
        rw [← hx] at hgt
        refine J.skip ?_
        refine J.seq ?_
        refine J.block ?_
        refine J.seq ?_
        refine J.region ?_
        refine L.va rfl (X.move (by conv => lhs; whnf)) ?_
        refine L.va rfl (X.move (by conv => lhs; whnf)) ?_
        refine L.va rfl ((by first | exact X.indexAddrn rfl rfl Try.underlying36 sz_90 (by first | exact Option.some_ne_none _ | exact hA) (by omega) | exact X.indexAddr rfl rfl Try.underlying36 sz_90 (by first | exact Option.some_ne_none _ | exact hA) (by omega))) ?_
        refine L.va rfl (X.fieldP rfl Try.underlying90 rfl sz_25 (by decide) (by first | exact Option.some_ne_none _ | exact hA)) ?_
        refine L.va rfl (X.load rfl sc_25 (by first | exact hA | exact Ld.flat2 fi_len hf.r hgt (r := 1) rfl)) ?_
        refine L.va rfl (X.len rfl Try.underlying25) ?_
        refine L.va rfl (X.gtr rfl rfl) ?_
        refine L.va rfl (X.move (by conv => lhs; whnf)) ?_
        -- case t20
        refine L.caseDec (k := 20) rfl (fun h2 => ?_) (fun h2 => ?_)
        · refine L.va rfl (X.move (by conv => lhs; whnf)) ?_
          refine L.va rfl (X.move (by conv => lhs; whnf)) ?_
          refine L.va rfl ((by first | exact X.indexAddrn rfl rfl Try.underlying36 sz_90 (by first | exact Option.some_ne_none _ | exact hA) (by omega) | exact X.indexAddr rfl rfl Try.underlying36 sz_90 (by first | exact Option.some_ne_none _ | exact hA) (by omega))) ?_
          refine L.va rfl (X.fieldP rfl Try.underlying90 rfl sz_25 (by decide) (by first | exact Option.some_ne_none _ | exact hA)) ?_
          refine L.va rfl (X.load rfl sc_25 (by first | exact hA | exact Ld.flat2 fi_len hf.r hgt (r := 1) rfl)) ?_
          refine L.va rfl (X.len rfl Try.underlying25) ?_
          refine L.va rfl (X.leq rfl rfl) ?_
          refine L.va rfl (X.pickT rfl (by conv => lhs; whnf)) ?_
          refine L.va rfl (X.move (by conv => lhs; whnf)) ?_
          -- case t29
          refine L.caseDec (k := 29) rfl (fun h3 => ?_) (fun h3 => ?_)
          · refine L.no rfl ?_
            refine L.no rfl ?_
            refine L.no rfl ?_
            refine L.no rfl ?_
            refine L.no rfl ?_
            refine L.no rfl ?_
            refine L.no rfl ?_
            refine L.va rfl (X.pickT rfl (by conv => lhs; whnf)) ?_
            refine L.nil ?_
            -- cond
            refine J.iteT rfl ?_
            refine J.seq ?_
            refine J.region ?_
            refine L.va rfl (X.assign (by conv => lhs; whnf)) ?_
            refine L.nil ?_
            -- ret
            refine J.ret ?_
            refine inB_ret <|  thn_ret <|  thn_ret <|  inB_ret <|  thn_ret <| ?_
            refine fin1 ?_
            exact ⟨⟨_, rfl⟩, rfl⟩
          · refine L.va rfl (X.move (by conv => lhs; whnf)) ?_
            refine L.va rfl (X.move (by conv => lhs; whnf)) ?_
            refine L.va rfl ((by first | exact X.indexAddrn rfl rfl Try.underlying36 sz_90 (by first | exact Option.some_ne_none _ | exact hA) (by omega) | exact X.indexAddr rfl rfl Try.underlying36 sz_90 (by first | exact Option.some_ne_none _ | exact hA) (by omega))) ?_
            refine L.va rfl (X.fieldP rfl Try.underlying90 rfl sz_25 (by decide) (by first | exact Option.some_ne_none _ | exact hA)) ?_
            refine L.va rfl (X.load rfl sc_25 (by first | exact hA | exact Ld.flat2 fi_len hf.r hgt (r := 1) rfl)) ?_
            refine L.va rfl (X.len rfl Try.underlying25) ?_
            refine L.va rfl (X.gtr rfl rfl) ?_
            refine L.va rfl (X.pickF rfl (by conv => lhs; whnf)) ?_
            refine L.nil ?_
            -- cond
            refine J.dec rfl (fun h4 => ?_) (fun h4 => ?_)
            · refine J.seq ?_
              refine J.region ?_
              refine L.va rfl (X.assign (by conv => lhs; whnf)) ?_
              refine L.nil ?_
              -- ret
              refine J.ret ?_
              refine inB_ret <|  thn_ret <|  thn_ret <|  inB_ret <|  thn_ret <| ?_
              refine fin1 ?_
              exact ⟨⟨_, rfl⟩, rfl⟩
            · refine J.skip ?_
              refine J.region ?_
              refine L.va rfl (X.move (by conv => lhs; whnf)) ?_
              refine L.va rfl (X.add rfl rfl (by omega)) ?_
              refine L.va rfl (X.assign (by conv => lhs; whnf)) ?_
              refine L.nil ?_
              -- loopend
              refine ⟨i + 1, At1 (by first | rfl | exact at_int rfl (by omega) | exact at_slice rfl (by omega) | exact at_int rfl (by simp)), (by (iterate 34 refine Agr.lk rfl ?_); exact Agr.lk rfl (Agr.hav rfl Agr.rfl')), ?_⟩
              exact ⟨⟨rfl, by omega⟩, by omega⟩
        · refine L.no rfl ?_
          refine L.no rfl ?_
          refine L.no rfl ?_
          refine L.no rfl ?_
          refine L.no rfl ?_
          refine L.no rfl ?_
          refine L.no rfl ?_
          refine L.va rfl (X.pickF rfl (by conv => lhs; whnf)) ?_
          refine L.va rfl (X.move (by conv => lhs; whnf)) ?_
          refine L.va rfl (X.move (by conv => lhs; whnf)) ?_
          refine L.va rfl (X.move (by conv => lhs; whnf)) ?_
          refine L.va rfl ((by first | exact X.indexAddrn rfl rfl Try.underlying36 sz_90 (by first | exact Option.some_ne_none _ | exact hA) (by omega) | exact X.indexAddr rfl rfl Try.underlying36 sz_90 (by first | exact Option.some_ne_none _ | exact hA) (by omega))) ?_
          refine L.va rfl (X.fieldP rfl Try.underlying90 rfl sz_25 (by decide) (by first | exact Option.some_ne_none _ | exact hA)) ?_
          refine L.va rfl (X.load rfl sc_25 (by first | exact hA | exact Ld.flat2 fi_len hf.r hgt (r := 1) rfl)) ?_
          refine L.va rfl (X.len rfl Try.underlying25) ?_
          refine L.va rfl (X.gtr rfl rfl) ?_
          refine L.va rfl (X.pickF rfl (by conv => lhs; whnf)) ?_
          refine L.nil ?_
          -- cond
          refine J.dec rfl (fun h4 => ?_) (fun h4 => ?_)
          · refine J.seq ?_
            refine J.region ?_
            refine L.va rfl (X.assign (by conv => lhs; whnf)) ?_
            refine L.nil ?_
            -- ret
            refine J.ret ?_
            refine inB_ret <|  thn_ret <|  thn_ret <|  inB_ret <|  thn_ret <| ?_
            refine fin1 ?_
            exact ⟨⟨_, rfl⟩, rfl⟩
          · refine J.skip ?_
            refine J.region ?_
            refine L.va rfl (X.move (by conv => lhs; whnf)) ?_
            refine L.va rfl (X.add rfl rfl (by omega)) ?_
            refine L.va rfl (X.assign (by conv => lhs; whnf)) ?_
            refine L.nil ?_
            -- loopend
            refine ⟨i + 1, At1 (by first | rfl | exact at_int rfl (by omega) | exact at_slice rfl (by omega) | exact at_int rfl (by simp)), (by (iterate 33 refine Agr.lk rfl ?_); exact Agr.lk rfl (Agr.hav rfl Agr.rfl')), ?_⟩
            exact ⟨⟨rfl, by omega⟩, by omega⟩
      · refine J.exit ?_
        refine J.seq ?_
        refine J.region ?_
        refine L.va rfl (X.assign (by conv => lhs; whnf)) ?_
        refine L.nil ?_
        -- ret
        refine J.ret ?_
        refine fin1 ?_
        exact ⟨⟨_, rfl⟩, rfl⟩
theorem light29 (q : Qu) {w : World} (hq : q.At w.heap.size w) : Calls Try.prog 16 #[q.val] w fun e w' => (∃ b, e = .returned (.bool b)) ∧ Ext w w' := by
  refine enter Try.func16 rfl (by kernel_rfl) ?_
  refine J.seq ?_
  refine J.region ?_
  -- box
  refine L.boxA (l := [_, _, _, _, _]) rfl rfl ?_
  intro b1 w1 hb1 hs1 hk1 he1
  have hk1 : Blk w1 b1 40 q.vs.toArray := hk1
  refine L.va rfl (X.assign (by conv => lhs; whnf)) ?_
  refine L.nil ?_
  refine J.seq ?_
  refine J.region ?_
  refine L.va rfl (X.fieldAddr rfl Try.underlying40 rfl sz_36 (by decide)) ?_
  refine L.va rfl (X.load rfl sc_36 (by first | exact Ld.blk hk1 rfl)) ?_
  -- callfn bushel/bushelref28.Light
  refine L.call rfl en_45 rfl (light28 q.f w1 ((hq.f.ext he1).more he1.le)) ?_
  rintro e _ ⟨⟨b, rfl⟩, rfl⟩
  refine ⟨_, rfl, ?_⟩
  refine L.va rfl (X.move (by conv => lhs; whnf)) ?_
  -- case t6
  cases b
  · refine L.caseBF (k := 6) rfl (by rfl) ?_
    refine L.no rfl ?_
    refine L.no rfl ?_
    refine L.no rfl ?_
    refine L.no rfl ?_
    refine L.va rfl (X.pickF rfl (by conv => lhs; whnf)) ?_
    refine L.va rfl (X.move (by conv => lhs; whnf)) ?_
    refine L.no rfl ?_
    refine L.no rfl ?_
    refine L.no rfl ?_
    refine L.no rfl ?_
    refine L.va rfl (X.pickF rfl (by conv => lhs; whnf)) ?_
    refine L.va rfl (X.assign (by conv => lhs; whnf)) ?_
    refine L.nil ?_
    -- ret
    refine J.ret ?_
    refine fin1 ?_
    exact ⟨⟨_, rfl⟩, he1⟩
  · refine L.caseBT (k := 6) rfl (by rfl) ?_
    refine L.va rfl (X.fieldAddr rfl Try.underlying40 rfl sz_37 (by decide)) ?_
    refine L.va rfl (X.load rfl sc_37 (by first | exact Ld.blk hk1 rfl)) ?_
    refine L.va rfl (X.len rfl Try.underlying37) ?_
    refine L.va rfl (X.leq rfl rfl) ?_
    refine L.va rfl (X.pickT rfl (by conv => lhs; whnf)) ?_
    refine L.va rfl (X.move (by conv => lhs; whnf)) ?_
    -- case t12
    refine L.caseDec (k := 12) rfl (fun h2 => ?_) (fun h2 => ?_)
    · refine L.va rfl (X.fieldAddr rfl Try.underlying40 rfl sz_38 (by decide)) ?_
      refine L.va rfl (X.load rfl sc_38 (by first | exact Ld.blk hk1 rfl)) ?_
      refine L.va rfl (X.len rfl Try.underlying38) ?_
      refine L.va rfl (X.leq rfl rfl) ?_
      refine L.va rfl (X.pickT rfl (by conv => lhs; whnf)) ?_
      refine L.va rfl (X.assign (by conv => lhs; whnf)) ?_
      refine L.nil ?_
      -- ret
      refine J.ret ?_
      refine fin1 ?_
      exact ⟨⟨_, rfl⟩, he1⟩
    · refine L.no rfl ?_
      refine L.no rfl ?_
      refine L.no rfl ?_
      refine L.no rfl ?_
      refine L.va rfl (X.pickF rfl (by conv => lhs; whnf)) ?_
      refine L.va rfl (X.assign (by conv => lhs; whnf)) ?_
      refine L.nil ?_
      -- ret
      refine J.ret ?_
      refine fin1 ?_
      exact ⟨⟨_, rfl⟩, he1⟩
end Go.Proofs.Ytlohbkcedpkjaaa
