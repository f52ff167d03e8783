/-
  A query's plain form: the reference's.
-/
import Derived.Test.YtlipeplfjkgamaaWQryO
namespace Go.Proofs.Ytlipeplfjkgamaa
set_option maxRecDepth 100000
open Go.RowKit H
open Nrm (nrm)
set_option linter.unusedVariables false
theorem rnorm29 {s : Sch} {q : Qu} {w : World} (H : s.Here w) (hq : q.At w.heap.size w) (hc : qcode s q = 0) : Calls Try.prog 38 #[s.val, q.val] w fun e w' => ∃ r : Qu, e = .returned r.val ∧ r.At w'.heap.size w' ∧ Qn s q r ∧ Ext w w' := by
  have hle := H.hle
  have lo := hq.lo
  have lc := hq.lc
  have hok := qc_ok hc
  refine enter Try.func38 rfl (by kernel_rfl) ?_
  refine J.seq ?_
  refine J.region ?_
  -- box
  refine L.boxA (l := [_, _, _, _]) rfl rfl ?_
  intro b1 w1 hb1 hs1 hk1 he1
  -- box
  refine L.boxA (l := [_, _, _, _, _]) rfl rfl ?_
  intro b2 w2 hb2 hs2 hk2 he2
  have hk12 := hk1.ext he2
  have he02 := he1.trans he2
  have hk2 : Blk w2 b2 54 q.vs.toArray := hk2
  -- alloc
  refine L.alloc rfl zr_54 ?_
  intro b3 w3 hb3 hs3 hk3 he3
  have hk3 : Blk w3 b3 54 #[.int .u32 0, .slice none 0 0, .slice none 0 0, .slice none 0 0, .int .i64 0] := hk3
  have he03 := he02.trans he3
  replace hk2 := hk2.ext he3
  replace hk12 := hk12.ext he3
  refine L.nil ?_
  refine J.seq ?_
  refine J.region ?_
  refine L.va rfl ((by first | exact X.loadAgg rfl (range_l hk2) Try.underlying54 rfl (by kernel_rfl) | exact X.loadAgg rfl (range_blk hk2) Try.underlying54 rfl (by kernel_rfl) | exact X.loadAgg rfl (range_l hk12) Try.underlying54 rfl (by kernel_rfl) | exact X.loadAgg rfl (range_blk hk12) Try.underlying54 rfl (by kernel_rfl))) ?_
  -- alloc
  refine L.alloc rfl zr_54 ?_
  intro b4 w4 hb4 hs4 hk4 he4
  have hk34 := hk3.ext he4
  replace hk2 := hk2.ext he4
  replace hk12 := hk12.ext he4
  -- store
  refine L.storeAgg (vs := [_, _, _, _, _]) rfl rfl rfl rfl sz_54 (hk4) rfl ?_
  intro w5 hk5 hg5 hs5
  have he35 : Ext w3 w5 := he4.grw hg5 (by intro g hg; injection hg with hg; omega)
  have hk5 : Blk w5 b4 54 q.vs.toArray := hk5
  have he05 := he03.trans he35
  have z5 := he05.le
  have l2 := hk12.lt
  have l3 := hk34.lt
  have lb2 := he02.le
  have hd42 : b2 ≠ b4 := by have := hk2.lt; omega
  have hd43 : b3 ≠ b4 := by have := he3.le; have := he4.le; omega
  have hk35 := hk34.grown hg5 (by intro e; injection e with e; exact hd43 e)
  replace hk2 := hk2.grown hg5 (by intro e; injection e with e; exact hd42 e)
  replace hk12 := hk12.grown hg5 (by intro e; injection e with e; have := hk3.lt; omega)
  refine L.nil ?_
  refine J.seq ?_
  refine J.region ?_
  refine L.va rfl ((by first | exact X.loadAgg rfl (range_l hk2) Try.underlying49 rfl (by kernel_rfl) | exact X.loadAgg rfl (range_blk hk2) Try.underlying49 rfl (by kernel_rfl) | exact X.loadAgg rfl (range_l hk12) Try.underlying49 rfl (by kernel_rfl) | exact X.loadAgg rfl (range_blk hk12) Try.underlying49 rfl (by kernel_rfl))) ?_
  refine L.va rfl (X.fieldAddr rfl Try.underlying54 rfl sz_51 (by decide)) ?_
  refine L.va rfl (X.load rfl sc_51 (by first | exact Ld.blk hk2 rfl | exact Ld.blk hk12 rfl)) ?_
  -- callfn bushel/bushelref28.Norm
  refine L.call rfl en_102 rfl (rnorm28 (H.ext he05) ((hq.ext he05).more z5).f hok.1) ?_
  rintro e w6 ⟨r, rfl, hr, hrk, he6⟩
  refine ⟨_, rfl, ?_⟩
  have he06 := he05.trans he6
  have z6 := he6.le
  have hk36 := hk35.ext he6
  have hk6 := hk5.ext he6
  replace hk2 := hk2.ext he6
  replace hk12 := hk12.ext he6
  refine L.va rfl (X.fieldAddr rfl Try.underlying54 rfl sz_51 (by decide)) ?_
  -- store
  refine L.store rfl rfl (by conv => lhs; whnf) rfl sz_51 (hk6) (by first | decide | exact Nat.le_of_ble_eq_true rfl) ?_
  intro w7 hk7 hg7 hs7
  have hC7 := TCh.put hk6 hg7
  have hr7 := hr.tch hC7 (by decide) (by decide)
  have hk37 := hk36.grown hg7 (by intro e; injection e with e; exact hd43 e)
  have hk27 := hk2.grown hg7 (by intro e; injection e with e; exact hd42 e)
  have he07 : Ext w w7 := he06.grw hg7 (by intro g hg; injection hg with hg; omega)
  have z7 := hC7.size
  refine L.nil ?_
  refine J.seq ?_
  refine J.region ?_
  refine L.va rfl (X.fieldAddr rfl Try.underlying54 rfl sz_22 (by decide)) ?_
  -- store
  refine L.store rfl rfl (by conv => lhs; whnf) rfl sz_22 (hk7) (by first | decide | exact Nat.le_of_ble_eq_true rfl) ?_
  intro w8 hk8 hg8 hs8
  have hC8 := TCh.put hk7 hg8
  have hr8 := hr7.tch hC8 (by decide) (by decide)
  have hk38 := hk37.grown hg8 (by intro e; injection e with e; exact hd43 e)
  have hk28 := hk27.grown hg8 (by intro e; injection e with e; exact hd42 e)
  have he08 : Ext w w8 := he07.grw hg8 (by intro g hg; injection hg with hg; omega)
  have z8 := hC8.size
  have hk8 : Blk w8 b4 54 #[.int .u32 (q.g : Int), r.val, .slice q.Ac q.nc q.cc, .slice none 0 0, .int .i64 q.m] := hk8
  have mo := hq.mo
  unfold maxLen at mo
  refine L.nil ?_
  refine J.seq ?_
  refine J.seq ?_
  refine J.region ?_
  refine L.va rfl (X.assign (by conv => lhs; whnf)) ?_
  refine L.nil ?_
  refine J.block ?_
  -- loop
  refine J.loop (X := Nat × Option Addr × Nat × Nat × List (Int × Bool)) [6, 7, 8, 16, 17, 18, 19, 20, 21, 22, 23, 24, 25, 26, 27, 28, 29, 30, 31, 32, 33, 34, 35, 36, 37, 38, 39, 40, 41, 42, 43, 44, 45, 46, 47, 48, 49, 50, 51, 52, 53, 54] (fun (i, A2, n2, c2, l) => [(6, .int .i64 (i : Int))]) (fun (i, A2, n2, c2, l) w' => i ≤ q.no ∧ l = dd (q.o.take i) ∧ n2 = l.length ∧ n2 ≤ i ∧ w'.ownsRow w8.heap.size 98 2 (.slice A2 n2 c2) n2 (l.flatMap oV) ∧ Blk w' b4 54 #[.int .u32 (q.g : Int), r.val, .slice q.Ac q.nc q.cc, .slice A2 n2 c2, .int .i64 q.m] ∧ FisOwn r w5.heap.size w' ∧ Blk w' b2 54 q.vs.toArray ∧ Blk w' b3 54 #[.int .u32 0, .slice none 0 0, .slice none 0 0, .slice none 0 0, .int .i64 0] ∧ w8.heap.size ≤ w'.heap.size ∧ Ext w w') (fun (i, _) => q.no - i) ((0, none, 0, 0, [])) (At1 (by first | rfl | exact at_int rfl (by omega) | exact at_slice rfl (by omega) | exact at_int rfl (by simp))) ?_ ?_
  · exact ⟨Nat.zero_le _, rfl, rfl, Nat.le_refl _, own_nil _ _ _ _, hk8, hr8, hk28, hk38, Nat.le_refl _, he08⟩
  · rintro ⟨i, A2, n2, c2, l⟩ g w9 ⟨hi, hl, hn2, hni, hro, hkq, hfr, hkb, hkt, hz9, he9⟩
    have hq9 := hq.ext he9
    have z9 := he9.le
    refine J.seq ?_
    refine J.seq ?_
    refine J.region ?_
    refine L.va rfl (X.move (by conv => lhs; whnf)) ?_
    refine L.va rfl (X.fieldAddr rfl Try.underlying54 rfl sz_22 (by decide)) ?_
    refine L.va rfl (X.load rfl sc_22 (by first | exact Ld.blk hkq rfl | exact Ld.blk hkb rfl)) ?_
    refine L.va rfl (X.len rfl Try.underlying22) ?_
    refine L.va rfl (X.lss rfl rfl) ?_
    refine L.nil ?_
    -- cond
    refine J.dec rfl (fun hlt => ?_) (fun hlt => ?_)
    · have hin : i < q.no := by omega
      have hA := hq9.o.some_ (by omega)
      obtain ⟨x, hx⟩ : ∃ x, x = q.o.getD i o0 := ⟨_, rfl⟩
      have hgt := gtO (l := q.o) (i := i) (by omega)
      have hnx := dd_take (l := q.o) (i := i) (by omega)
      rw [← hx] at hgt hnx
      rw [← hl] at hnx
      have hcd := hasC_dd0 (q.o.take i) x.1
      have hck := hasC_take (l := q.o) (i := i) (by omega) x.1
      rw [show dd (q.o.take i) = l from hl.symm] at hcd
      refine J.skip ?_
      refine J.seq ?_
      refine J.block ?_
      refine J.seq ?_
      refine J.region ?_
      refine L.va rfl (X.assign (by conv => lhs; whnf)) ?_
      refine L.nil ?_
      refine J.seq ?_
      refine J.seq ?_
      refine J.region ?_
      refine L.va rfl (X.assign (by conv => lhs; whnf)) ?_
      refine L.nil ?_
      refine J.block ?_
      -- loop
      refine J.loop (X := Nat × Bool) [7, 8, 23, 24, 25, 26, 27, 28, 29, 30, 31, 32, 33, 34, 35, 36, 37, 38, 39, 40, 41, 42, 43] (fun (k, b) => [(8, .int .i64 (k : Int)), (7, .bool b)]) (fun (k, b) w' => k ≤ i ∧ (b = true ↔ ∀ j, j < k → (q.o.getD j o0).1 ≠ x.1) ∧ Ext w9 w') (fun (k, _) => i - k) ((0, true)) (At2 (by first | rfl | exact at_int rfl (by omega) | exact at_slice rfl (by omega) | exact at_int rfl (by simp)) (by first | rfl | exact at_int rfl (by omega) | exact at_slice rfl (by omega) | exact at_int rfl (by simp))) ?_ ?_
      · exact ⟨Nat.zero_le _, ⟨fun _ j hj => absurd hj (by omega), fun _ => rfl⟩, Ext.refl _⟩
      · rintro ⟨k, b⟩ g wa ⟨hk, hb, hea⟩
        have hqa := hq9.ext hea
        have hkqa := hkq.ext hea
        have hkba := hkb.ext hea
        refine J.seq ?_
        refine J.seq ?_
        refine J.region ?_
        refine L.va rfl (X.move (by conv => lhs; whnf)) ?_
        refine L.va rfl (X.move (by conv => lhs; whnf)) ?_
        refine L.va rfl (X.lss rfl rfl) ?_
        refine L.nil ?_
        -- cond
        refine J.dec rfl (fun hlt2 => ?_) (fun hlt2 => ?_)
        · have hki : k < i := by omega
          have hAk := hqa.o.some_ (by omega)
          have hgk := gtO (l := q.o) (i := k) (by omega)
          refine J.skip ?_
          refine J.seq ?_
          refine J.block ?_
          -- draw
          cases b
          · refine J.draw (ℓ := 1000000) (S := Ext wa) mixed (fun wb hS hS_h => ?_)
            refine D.va 0 rfl (by kernel_rfl) (fun _ _ _ h => h) rfl (fun w' hw => X.move (by conv => lhs; whnf)) hS ?_
            refine D.va 1 rfl (by kernel_rfl) (fun _ _ _ h => h) rfl (fun w' hw => X.move (by conv => lhs; whnf)) hS ?_
            -- case t29
            refine D.caseBF (k := 29) rfl (by rfl) ?_
            refine D.no 2 rfl (by kernel_rfl) (fun _ _ _ h => h) rfl hS ?_
            refine D.no 3 rfl (by kernel_rfl) (fun _ _ _ h => h) rfl hS ?_
            refine D.no 4 rfl (by kernel_rfl) (fun _ _ _ h => h) rfl hS ?_
            refine D.no 5 rfl (by kernel_rfl) (fun _ _ _ h => h) rfl hS ?_
            refine D.no 6 rfl (by kernel_rfl) (fun _ _ _ h => h) rfl hS ?_
            refine D.no 7 rfl (by kernel_rfl) (fun _ _ _ h => h) rfl hS ?_
            refine D.no 8 rfl (by kernel_rfl) (fun _ _ _ h => h) rfl hS ?_
            refine D.no 9 rfl (by kernel_rfl) (fun _ _ _ h => h) rfl hS ?_
            refine D.no 10 rfl (by kernel_rfl) (fun _ _ _ h => h) rfl hS ?_
            refine D.no 11 rfl (by kernel_rfl) (fun _ _ _ h => h) rfl hS ?_
            refine D.no 12 rfl (by kernel_rfl) (fun _ _ _ h => h) rfl hS ?_
            refine D.no 13 rfl (by kernel_rfl) (fun _ _ _ h => h) rfl hS ?_
            refine D.no 14 rfl (by kernel_rfl) (fun _ _ _ h => h) rfl hS ?_
            refine D.va 15 rfl (by kernel_rfl) (fun _ _ _ h => h) rfl (fun w' hw => X.pickF rfl (by conv => lhs; whnf)) hS ?_
            refine D.va 16 rfl (by kernel_rfl) (fun _ _ _ h => h) rfl (fun w' hw => X.assign (by conv => lhs; whnf)) hS ?_
            refine D.done (by kernel_rfl) ?_
            replace hkqa := hkqa.ext hS
            replace hkba := hkba.ext hS
            refine J.region ?_
            refine L.va rfl (X.move (by conv => lhs; whnf)) ?_
            refine L.va rfl (X.add rfl rfl (by omega)) ?_
            refine L.va rfl (X.assign (by conv => lhs; whnf)) ?_
            refine L.nil ?_
            -- loopend
            -- loopend
            refine ⟨(k + 1, false), At2 (by first | rfl | exact at_int rfl (by omega) | exact at_slice rfl (by omega) | exact at_int rfl (by simp)) (by first | rfl | exact at_int rfl (by omega) | exact at_slice rfl (by omega) | exact at_int rfl (by simp)), (by (iterate 24 refine Agr.lk rfl ?_); exact Agr.lk rfl (Agr.hav rfl Agr.rfl')), ?_⟩
            refine ⟨⟨by omega, ⟨fun h => (by cases h), fun h => ?_⟩, hea.trans hS⟩, by show i - (k + 1) < i - k; omega⟩
            exact hb.2 (fun j hj => h j (by omega))
          · refine J.draw (ℓ := 1000000) (S := Ext wa) mixed (fun wb hS hS_h => ?_)
            refine D.va 0 rfl (by kernel_rfl) (fun _ _ _ h => h) rfl (fun w' hw => X.move (by conv => lhs; whnf)) hS ?_
            refine D.va 1 rfl (by kernel_rfl) (fun _ _ _ h => h) rfl (fun w' hw => X.move (by conv => lhs; whnf)) hS ?_
            -- case t29
            refine D.caseBT (k := 29) rfl (by rfl) ?_
            refine D.va 2 rfl (by kernel_rfl) (fun _ _ _ h => h) rfl (fun w' hw => X.fieldAddr rfl Try.underlying54 rfl sz_22 (by decide)) hS ?_
            refine D.va 3 rfl (by kernel_rfl) (fun _ _ _ h => h) rfl (fun w' hw => X.load rfl sc_22 (by first | exact Ld.blk (hkqa.ext hw) rfl | exact Ld.blk (hkba.ext hw) rfl | exact hAk | exact Ld.flat2 oV_len (hqa.o.ext hw) hgk (r := 0) rfl | exact Ld.flat2 oV_len (hqa.o.ext hw) hgt (r := 0) rfl)) hS ?_
            refine D.va 4 rfl (by kernel_rfl) (fun _ _ _ h => h) rfl (fun w' hw => X.move (by conv => lhs; whnf)) hS ?_
            refine D.va 5 rfl (by kernel_rfl) (fun _ _ _ h => h) rfl (fun w' hw => (by first | exact X.indexAddrn rfl rfl Try.underlying22 sz_98 (by first | exact Option.some_ne_none _ | exact hAk) (by omega) | exact X.indexAddr rfl rfl Try.underlying22 sz_98 (by first | exact Option.some_ne_none _ | exact hAk) (by omega))) hS ?_
            refine D.va 6 rfl (by kernel_rfl) (fun _ _ _ h => h) rfl (fun w' hw => X.fieldP rfl Try.underlying98 rfl sz_3 (by decide) (by first | exact Option.some_ne_none _ | exact hAk)) hS ?_
            refine D.va 7 rfl (by kernel_rfl) (fun _ _ _ h => h) rfl (fun w' hw => X.load rfl sc_3 (by first | exact Ld.blk (hkqa.ext hw) rfl | exact Ld.blk (hkba.ext hw) rfl | exact hAk | exact Ld.flat2 oV_len (hqa.o.ext hw) hgk (r := 0) rfl | exact Ld.flat2 oV_len (hqa.o.ext hw) hgt (r := 0) rfl)) hS ?_
            refine D.va 8 rfl (by kernel_rfl) (fun _ _ _ h => h) rfl (fun w' hw => X.fieldAddr rfl Try.underlying54 rfl sz_22 (by decide)) hS ?_
            refine D.va 9 rfl (by kernel_rfl) (fun _ _ _ h => h) rfl (fun w' hw => X.load rfl sc_22 (by first | exact Ld.blk (hkqa.ext hw) rfl | exact Ld.blk (hkba.ext hw) rfl | exact hAk | exact Ld.flat2 oV_len (hqa.o.ext hw) hgk (r := 0) rfl | exact Ld.flat2 oV_len (hqa.o.ext hw) hgt (r := 0) rfl)) hS ?_
            refine D.va 10 rfl (by kernel_rfl) (fun _ _ _ h => h) rfl (fun w' hw => X.move (by conv => lhs; whnf)) hS ?_
            refine D.va 11 rfl (by kernel_rfl) (fun _ _ _ h => h) rfl (fun w' hw => (by first | exact X.indexAddrn rfl rfl Try.underlying22 sz_98 (by first | exact Option.some_ne_none _ | exact hAk) (by omega) | exact X.indexAddr rfl rfl Try.underlying22 sz_98 (by first | exact Option.some_ne_none _ | exact hAk) (by omega))) hS ?_
            refine D.va 12 rfl (by kernel_rfl) (fun _ _ _ h => h) rfl (fun w' hw => X.fieldP rfl Try.underlying98 rfl sz_3 (by decide) (by first | exact Option.some_ne_none _ | exact hAk)) hS ?_
            refine D.va 13 rfl (by kernel_rfl) (fun _ _ _ h => h) rfl (fun w' hw => X.load rfl sc_3 (by first | exact Ld.blk (hkqa.ext hw) rfl | exact Ld.blk (hkba.ext hw) rfl | exact hAk | exact Ld.flat2 oV_len (hqa.o.ext hw) hgk (r := 0) rfl | exact Ld.flat2 oV_len (hqa.o.ext hw) hgt (r := 0) rfl)) hS ?_
            refine D.va 14 rfl (by kernel_rfl) (fun _ _ _ h => h) rfl (fun w' hw => X.neq rfl rfl) hS ?_
            refine D.va 15 rfl (by kernel_rfl) (fun _ _ _ h => h) rfl (fun w' hw => X.pickT rfl (by conv => lhs; whnf)) hS ?_
            refine D.va 16 rfl (by kernel_rfl) (fun _ _ _ h => h) rfl (fun w' hw => X.assign (by conv => lhs; whnf)) hS ?_
            refine D.done (by kernel_rfl) ?_
            replace hkqa := hkqa.ext hS
            replace hkba := hkba.ext hS
            refine J.region ?_
            refine L.va rfl (X.move (by conv => lhs; whnf)) ?_
            refine L.va rfl (X.add rfl rfl (by omega)) ?_
            refine L.va rfl (X.assign (by conv => lhs; whnf)) ?_
            refine L.nil ?_
            -- loopend
            -- loopend
            refine ⟨(k + 1, _), At2 (by first | rfl | exact at_int rfl (by omega) | exact at_slice rfl (by omega) | exact at_int rfl (by simp)) (by first | rfl | exact at_int rfl (by omega) | exact at_slice rfl (by omega) | exact at_int rfl (by simp)), (by (iterate 24 refine Agr.lk rfl ?_); exact Agr.lk rfl (Agr.hav rfl Agr.rfl')), ?_⟩
            refine ⟨⟨by omega, ?_, hea.trans hS⟩, by show i - (k + 1) < i - k; omega⟩
            show (!decide ((q.o.getD k o0).1 = x.1)) = true ↔ _
            rw [show ((!decide ((q.o.getD k o0).1 = x.1)) = true) = ((q.o.getD k o0).1 ≠ x.1) by simp]
            constructor
            · intro h j hj
              rcases Nat.lt_or_ge j k with h' | h'
              · exact hb.1 rfl j h'
              · obtain rfl : j = k := by omega
                exact h
            · intro h
              exact h k (by omega)
        · obtain rfl : i = k := by omega
          have hbb : b = !hasC l x.1 := by
            rw [hcd]
            cases hh : hasC (q.o.take i) x.1
            · refine hb.2 fun j hj e => ?_
              have := hck.2 ⟨j, hj, e⟩
              rw [hh] at this
              cases this
            · obtain ⟨j, hj, e⟩ := hck.1 hh
              cases b
              · rfl
              · exact absurd e (hb.1 rfl j hj)
          have he0a := he9.trans hea
          have hroa := hro.ext hea
          have hfra := hfr.ext hea
          have hkta := hkt.ext hea
          have za := hea.le
          refine J.exit ?_
          refine J.seq ?_
          refine J.region ?_
          refine L.va rfl (X.move (by conv => lhs; whnf)) ?_
          refine L.nil ?_
          -- cond
          cases hh : hasC l x.1
          · rw [hh] at hbb
            subst hbb
            refine J.iteT rfl ?_
            -- draw
            refine J.draw (ℓ := 10) (S := (fun w' => Ext w w' ∧ Blk w' b4 54 #[.int .u32 (q.g : Int), r.val, .slice q.Ac q.nc q.cc, .slice A2 n2 c2, .int .i64 q.m] ∧ Blk w' b2 54 q.vs.toArray)) mixed (fun wb hSE hS_h => ?_)
            have hS : ((fun w' => Ext w w' ∧ Blk w' b4 54 #[.int .u32 (q.g : Int), r.val, .slice q.Ac q.nc q.cc, .slice A2 n2 c2, .int .i64 q.m] ∧ Blk w' b2 54 q.vs.toArray)) wb := ⟨he0a.trans hSE, hkqa.ext hSE, hkba.ext hSE⟩
            -- t51
            refine D.va 0 rfl (by kernel_rfl) (fun _ _ _ h => h) rfl (fun w' hw => X.fieldAddr rfl Try.underlying54 rfl sz_22 (by decide)) hS ?_
            refine D.va 1 rfl (by kernel_rfl) (fun _ _ _ h => h) rfl (fun w' hw => X.load rfl sc_22 (by first | exact hA | exact Ld.blk hw.2.1 rfl | exact Ld.blk hw.2.2 rfl)) hS ?_
            refine D.va 2 rfl (by kernel_rfl) (fun _ _ _ h => h) rfl (fun w' hw => X.fieldAddr rfl Try.underlying54 rfl sz_22 (by decide)) hS ?_
            refine D.va 3 rfl (by kernel_rfl) (fun _ _ _ h => h) rfl (fun w' hw => X.load rfl sc_22 (by first | exact hA | exact Ld.blk hw.2.1 rfl | exact Ld.blk hw.2.2 rfl)) hS ?_
            refine D.va 4 rfl (by kernel_rfl) (fun _ _ _ h => h) rfl (fun w' hw => X.move (by conv => lhs; whnf)) hS ?_
            refine D.va 5 rfl (by kernel_rfl) (fun _ _ _ h => h) rfl (fun w' hw => (by first | exact X.indexAddrn rfl rfl Try.underlying22 sz_98 (by first | exact Option.some_ne_none _ | exact hA) (by omega) | exact X.indexAddr rfl rfl Try.underlying22 sz_98 (by first | exact Option.some_ne_none _ | exact hA) (by omega))) hS ?_
            refine D.va 6 rfl (by kernel_rfl) (fun _ _ _ h => h) rfl (fun w' hw => X.loadRow (cs := oV x) rfl (hq.ext hw.1).o (fun r u hu => flat_row oV_len hgt r u hu) (Nat.zero_lt_succ _) Try.underlying98 rfl (by kernel_rfl)) hS ?_
            -- buildSlice
            refine D.one 7 (by kernel_rfl) rfl ?_
            refine L.bslice1 (l := [_, _]) rfl rfl rfl Try.underlying22 sz_98 zr_98 rfl ?_
            intro bc wc hbc hsc hkc hec
            have hS1 := And.intro (hS.1.trans hec) (And.intro (hS.2.1.ext hec) (hS.2.2.ext hec))
            refine L.nil ?_
            refine ⟨fun _ => hS1, ?_⟩
            have heac := hSE.trans hec
            have hrc := hroa.ext heac
            have zc := heac.le
            have hkqc := hkqa.ext heac
            have hkbc := hkba.ext heac
            have he0c := he0a.trans heac
            have hones : ((oV x).all (·.oneCell')) = true := rfl
            -- append
            refine D.one 8 (by kernel_rfl) rfl ?_
            refine L.appendV (q := n2 + 1) (ys := l.flatMap oV ++ oV x) rfl rfl rfl Try.underlying22 el_98 (hrc) (blk_readsN (sz := 2) (q := 1) (l := oV x) hkc hkc.lt rfl) (by first | rfl | exact strs_ones _ | assumption) (by omega) (by simp) (by unfold maxLen; omega) (by omega) ?_
            intro A3 c3 wd hod hgd hbd hord
            have hS2 := And.intro (he0c.grw hgd (fun g hg ↦ by have := (own_ofT hrc hg).2; omega)) (And.intro ((TCh.row hrc hgd).blk hkqc (by decide)) ((TCh.row hrc hgd).blk hkbc (by decide)))
            refine L.nil ?_
            refine ⟨fun _ => hS2, ?_⟩
            have hTd := TCh.row hrc hgd
            have hkqd := hTd.blk hkqc (by decide)
            have hkbd := hTd.blk hkbc (by decide)
            have hfrd := (hfra.ext heac).tch hTd (by decide) (by decide)
            have zd := hTd.size
            have he0d : Ext w wd := he0c.grw hgd (fun g hg => by have := (own_ofT hrc hg).2; omega)
            have hktd := hTd.blk (hkta.ext heac) (by decide)
            refine D.va 9 rfl (by kernel_rfl) (fun _ _ _ h => h) rfl (fun w' hw => X.fieldAddr rfl Try.underlying54 rfl sz_22 (by decide)) hS2 ?_
            -- store
            refine D.one 10 (by kernel_rfl) rfl ?_
            refine L.store rfl rfl (by conv => lhs; whnf) rfl sz_22 (hkqd) (by first | decide | exact Nat.le_of_ble_eq_true rfl) ?_
            intro we hke hge hse
            refine L.nil ?_
            refine ⟨fun h => absurd rfl h, ?_⟩
            have hTe := TCh.put hkqd hge
            have hke : Blk we b4 54 #[.int .u32 (q.g : Int), r.val, .slice q.Ac q.nc q.cc, .slice A3 (n2 + 1) c3, .int .i64 q.m] := hke
            have ze := hTe.size
            refine D.done (by kernel_rfl) ?_
            refine J.region ?_
            refine L.va rfl (X.move (by conv => lhs; whnf)) ?_
            refine L.va rfl (X.add rfl rfl (by omega)) ?_
            refine L.va rfl (X.assign (by conv => lhs; whnf)) ?_
            refine L.nil ?_
            -- loopend
            refine ⟨(i + 1, A3, n2 + 1, c3, l ++ [x]), At1 (by first | rfl | exact at_int rfl (by omega) | exact at_slice rfl (by omega) | exact at_int rfl (by simp)), (by (iterate 17 refine Agr.lk rfl ?_); refine Agr.lk rfl ?_; refine Agr.hav rfl ?_; (iterate 7 refine Agr.lk rfl ?_); exact Agr.lk rfl (Agr.hav rfl Agr.rfl')), ?_⟩
            refine ⟨⟨by omega, ?_, by simp [hn2], by omega, hTe.own (by simpa using hod) (by decide), hke, hfrd.tch hTe (by decide) (by decide), hkbd.grown hge (by intro e; injection e with e; exact hd42 e), hktd.grown hge (by intro e; injection e with e; exact hd43 e), by omega, he0d.grw hge (by intro g hg; injection hg with hg; omega)⟩, by show q.no - (i + 1) < q.no - i; omega⟩
            rw [hnx]; unfold ddS; rw [hh]; rfl
          · rw [hh] at hbb
            subst hbb
            refine J.iteF rfl ?_
            refine J.skip ?_
            refine J.region ?_
            refine L.va rfl (X.move (by conv => lhs; whnf)) ?_
            refine L.va rfl (X.add rfl rfl (by omega)) ?_
            refine L.va rfl (X.assign (by conv => lhs; whnf)) ?_
            refine L.nil ?_
            -- loopend
            refine ⟨(i + 1, A2, n2, c2, l), At1 (by first | rfl | exact at_int rfl (by omega) | exact at_slice rfl (by omega) | exact at_int rfl (by simp)), (by (iterate 7 refine Agr.lk rfl ?_); refine Agr.lk rfl ?_; refine Agr.hav rfl ?_; (iterate 7 refine Agr.lk rfl ?_); exact Agr.lk rfl (Agr.hav rfl Agr.rfl')), ?_⟩
            refine ⟨⟨by omega, ?_, hn2, by omega, hroa, hkqa, hfra, hkba, hkta, by omega, he0a⟩, by show q.no - (i + 1) < q.no - i; omega⟩
            rw [hnx]; unfold ddS; rw [hh]; rfl
    · have e : q.o.take i = q.o := List.take_of_length_le (by omega)
      rw [e] at hl
      refine J.exit ?_
      refine J.seq ?_
      refine J.region ?_
      refine L.va rfl ((by first | exact X.loadAgg rfl (range_l hkq) Try.underlying54 rfl (by kernel_rfl) | exact X.loadAgg rfl (range_blk hkq) Try.underlying54 rfl (by kernel_rfl))) ?_
      -- store
      refine L.storeAgg (vs := [_, _, _, _, _]) rfl rfl rfl rfl sz_54 (hkt) rfl ?_
      intro wa hka hga hsa
      have hT := TCh.put hkt hga
      refine L.nil ?_
      -- ret
      refine J.ret ?_
      -- results [['ResultVar.cell', 4, 54]]
      refine finC rfl (run_cell hka Try.underlying54 rfl (by kernel_rfl)) ?_
      have hro9 := hT.own hro (by decide)
      have hfr9 := hfr.tch hT (by decide) (by decide)
      have hea : Ext w wa := he9.grw hga (by intro g hg; injection hg with hg; omega)
      refine ⟨⟨q.g, r, q.Ac, q.nc, q.cc, q.c, A2, n2, c2, l, q.m⟩, rfl, ⟨hq.g, hfr9.at, (hq.ext hea |>.more hea.le).c, lc, hq.mc, Reads.of_own hro9, hn2.symm, own_max hro9⟩, ⟨rfl, rfl, rfl, hl, hrk⟩, hea⟩
end Go.Proofs.Ytlipeplfjkgamaa
