/-
  The law KeyOf, walked: every schema and set, every list of codes.
-/
import Derived.Test.YtmiieppcoknmfaaWKeyD
namespace Go.Proofs.Ytmiieppcoknmfaa
set_option maxRecDepth 100000
open Go.RowKit H
set_option linter.unusedVariables false
theorem law_KeyOf (w : World) (vs0 : List Value) (a0 : (List ((Str) × (Nm .i64))) × (List (Str)) × (List (Str)) × (List (Nm .u32))) (hl0 : Lay.lies w w.heap.size vs0 a0) (x1 : Nm .u32) (A2 : Option Addr) (n2 c2 : Nat) (xs2 : List (Nm .i64)) (hn2 : n2 ≤ c2) (hc2 : c2 ≤ maxLen) (hA2 : A2 = none → c2 = 0) (hl2 : LiesSlice w w.heap.size A2 n2 xs2) :
    Calls Try.prog 3 #[.agg vs0.toArray, .int .u32 x1.z, .slice A2 n2 c2] w fun e w' => e = .returned (.bool true) ∧ Below w.heap.size w w' := by
  obtain ⟨s, rfl, hH⟩ := sch_of hl0
  obtain ⟨m, hm⟩ := Int.eq_ofNat_of_zero_le x1.u32.1
  have hm32 : m < 4294967296 := by have := x1.u32.2; omega
  rw [hm]
  have r2 := hl2.reads
  generalize zsOf xs2 = cs at r2
  unfold maxLen at hc2
  refine enter Try.func3 rfl (by kernel_rfl) ?_
  refine J.seq ?_
  refine J.region ?_
  -- box
  refine L.boxA (l := [_, _, _, _]) rfl rfl ?_
  intro b1 w1 hb1 hs1 hk1 he1
  refine L.va rfl (X.assign (by conv => lhs; whnf)) ?_
  refine L.nil ?_
  refine J.seq ?_
  refine J.seq ?_
  refine J.region ?_
  refine L.va rfl ((by first | exact X.loadAgg rfl (range_l hk1) Try.underlying26 rfl (by kernel_rfl) | exact X.loadAgg rfl (range_blk hk1) Try.underlying26 rfl (by kernel_rfl))) ?_
  -- callfn bushel/bushelref11.Light
  refine L.call rfl en_14 rfl ((hH.ext he1).light) ?_
  rintro e w3 ⟨l, rfl, hll, he3⟩
  refine ⟨_, rfl, ?_⟩
  have he3 : Ext w1 w3 := he3
  have he03 := he1.trans he3
  replace hk1 := hk1.ext he3
  refine L.va rfl (X.not rfl) ?_
  refine L.va rfl (X.move (by conv => lhs; whnf)) ?_
  -- case t18
  cases l
  · -- case t18
    refine L.caseBT (k := 18) rfl (by rfl) ?_
    refine L.no rfl ?_
    refine L.no rfl ?_
    refine L.no rfl ?_
    refine L.va rfl (X.pickT rfl (by conv => lhs; whnf)) ?_
    refine L.nil ?_
    -- cond
    refine J.iteT rfl ?_
    refine J.seq ?_
    refine J.region ?_
    -- callfn bushel/bushellaw13.awake
    refine L.call rfl en_15 rfl (awake13 _) ?_
    rintro e w4 ⟨rfl, he4⟩
    refine ⟨_, rfl, ?_⟩
    refine L.va rfl (X.assign (by conv => lhs; whnf)) ?_
    refine L.nil ?_
    -- ret
    refine J.ret ?_
    refine thn_ret <| ?_
    refine fin1 ?_
    exact ⟨rfl, he03.trans he4⟩
  · have H3 : s.Here w3 := (hH.ext he03).here (hll rfl)
    -- case t18
    refine L.caseBF (k := 18) rfl (by rfl) ?_
    refine L.va rfl (X.move (by conv => lhs; whnf)) ?_
    refine L.va rfl (X.len rfl Try.underlying28) ?_
    refine L.va rfl (X.gtr rfl rfl) ?_
    refine L.va rfl (X.pickF rfl (by conv => lhs; whnf)) ?_
    refine L.nil ?_
    -- cond
    refine J.dec rfl (fun g1 => ?_) (fun g1 => ?_)
    · refine J.seq ?_
      refine J.region ?_
      -- callfn bushel/bushellaw13.awake
      refine L.call rfl en_15 rfl (awake13 _) ?_
      rintro e w4 ⟨rfl, he4⟩
      refine ⟨_, rfl, ?_⟩
      refine L.va rfl (X.assign (by conv => lhs; whnf)) ?_
      refine L.nil ?_
      -- ret
      refine J.ret ?_
      refine thn_ret <| ?_
      refine fin1 ?_
      exact ⟨rfl, he03.trans he4⟩
    · refine J.skip ?_
      refine J.seq ?_
      refine J.region ?_
      refine L.va rfl ((by first | exact X.loadAgg rfl (range_l hk1) Try.underlying26 rfl (by kernel_rfl) | exact X.loadAgg rfl (range_blk hk1) Try.underlying26 rfl (by kernel_rfl))) ?_
      refine L.va rfl (X.move (by conv => lhs; whnf)) ?_
      refine L.va rfl (X.move (by conv => lhs; whnf)) ?_
      -- callfn bushel/key.Of
      refine L.call rfl en_16 rfl (H3.of hm32 A2 n2 c2 cs ((r2.ext he03).here (by decide)) (by omega)) ?_
      rintro e w4 ⟨rfl, he4⟩
      refine ⟨_, rfl, ?_⟩
      have he4 : Ext w3 w4 := he4
      have he04 := he03.trans he4
      have H4 := H3.ext he4
      have hle := H4.hle
      replace hk1 := hk1.ext he4
      refine L.va rfl (X.move (by conv => lhs; whnf)) ?_
      refine L.va rfl (X.extract rfl rfl) ?_
      refine L.va rfl (X.extract rfl rfl) ?_
      refine L.va rfl (X.assign (by conv => lhs; whnf)) ?_
      refine L.va rfl (X.assign (by conv => lhs; whnf)) ?_
      refine L.nil ?_
      refine J.seq ?_
      refine J.region ?_
      refine L.va rfl (X.assign (by conv => lhs; whnf)) ?_
      refine L.nil ?_
      -- until
      refine J.cut (X := Int) [9, 31, 32, 33, 34, 35, 36, 37, 38, 39, 40, 41, 42, 43, 44] (fun x => [(9, .int .i64 x)]) (fun x w' => ((x = 0 ∧ s.askE m = 0 ∧ n2 = s.nd) ∨ (x ≠ 0 ∧ x = s.ofE m n2 cs)) ∧ Ext w4 w') ?_ ?_
      · refine J.seq ?_
        refine J.region ?_
        refine L.va rfl ((by first | exact X.loadAgg rfl (range_l hk1) Try.underlying26 rfl (by kernel_rfl) | exact X.loadAgg rfl (range_blk hk1) Try.underlying26 rfl (by kernel_rfl))) ?_
        -- callfn bushel/bushelref11.Check
        refine L.call rfl en_17 rfl (H4.rcheck) ?_
        rintro e w5 ⟨rfl, he5⟩
        refine ⟨_, rfl, ?_⟩
        have he5 : Ext w4 w5 := he5
        have H5 := H4.ext he5
        replace hk1 := hk1.ext he5
        refine L.va rfl (X.neq rfl rfl) ?_
        refine L.nil ?_
        -- cond
        refine J.ndec rfl (fun hc => ?_) (fun hc => ?_)
        · have hA : s.askE m = 1 := by rw [Sch.askE, if_pos hc]
          have hE := (Sch.ofE_a (s := s) (m := m) (nc := n2) (cs := cs) (by omega)).1
          refine J.region ?_
          refine L.va rfl (X.assign (by conv => lhs; whnf)) ?_
          refine L.nil ?_
          -- cutend
          refine ⟨1, At1 (by first | rfl | exact at_int rfl (by omega) | exact at_slice rfl (by omega) | exact at_int rfl (by simp)), (by (iterate 4 refine Agr.lk rfl ?_); exact Agr.rfl'), ?_⟩
          exact ⟨.inr ⟨by decide, by rw [hE, hA]⟩, he5⟩
        · have hc0 : s.code = 0 := hc
          refine J.seq ?_
          refine J.region ?_
          refine L.va rfl (X.move (by conv => lhs; whnf)) ?_
          refine L.va rfl ((by first | exact X.loadAgg rfl (range_l hk1) Try.underlying26 rfl (by kernel_rfl) | exact X.loadAgg rfl (range_blk hk1) Try.underlying26 rfl (by kernel_rfl))) ?_
          -- callfn bushel/bushelref11.Full
          refine L.call rfl en_19 rfl (H5.rfull hc0) ?_
          rintro e w6 ⟨rfl, he6⟩
          refine ⟨_, rfl, ?_⟩
          have he6 : Ext w5 w6 := he6
          have H6 := H5.ext he6
          replace hk1 := hk1.ext he6
          -- callfn bushel/bushelref11.Sub
          refine L.call rfl en_18 rfl (Sch.Here.rsub (w := w6) hc0 hm32) ?_
          rintro e _ ⟨rfl, rfl⟩
          refine ⟨_, rfl, ?_⟩
          refine L.va rfl (X.not rfl) ?_
          refine L.nil ?_
          -- cond
          refine J.ite rfl (fun hF => ?_) (fun hF => ?_)
          · have hF' : ¬ (m : Int) ≤ s.F := nd_t hF
            have hA : s.askE m = 11 := by rw [Sch.askE, if_neg (fun k => k hc0), if_neg hF']
            have hE := (Sch.ofE_a (s := s) (m := m) (nc := n2) (cs := cs) (by omega)).1
            refine J.region ?_
            refine L.va rfl (X.assign (by conv => lhs; whnf)) ?_
            refine L.nil ?_
            -- cutend
            refine ⟨11, At1 (by first | rfl | exact at_int rfl (by omega) | exact at_slice rfl (by omega) | exact at_int rfl (by simp)), (by (iterate 9 refine Agr.lk rfl ?_); exact Agr.rfl'), ?_⟩
            exact ⟨.inr ⟨by decide, by rw [hE, hA]⟩, he5.trans he6⟩
          · have hF' : (m : Int) ≤ s.F := nd_f hF
            have hA : s.askE m = 0 := by rw [Sch.askE, if_neg (fun k => k hc0), if_pos hF']
            refine J.seq ?_
            refine J.region ?_
            refine L.va rfl (X.move (by conv => lhs; whnf)) ?_
            refine L.va rfl (X.len rfl Try.underlying28) ?_
            refine L.va rfl (X.fieldAddr rfl Try.underlying26 rfl sz_22 (by decide)) ?_
            refine L.va rfl (X.load rfl sc_22 (by first | exact Ld.blk hk1 rfl)) ?_
            refine L.va rfl (X.len rfl Try.underlying22) ?_
            refine L.va rfl (X.neq rfl rfl) ?_
            refine L.nil ?_
            -- cond
            refine J.ndec rfl (fun hn => ?_) (fun hn => ?_)
            · have hE := (Sch.ofE_3 (s := s) (m := m) (nc := n2) (cs := cs) hA (by omega)).1
              refine J.region ?_
              refine L.va rfl (X.assign (by conv => lhs; whnf)) ?_
              refine L.nil ?_
              -- cutend
              refine ⟨3, At1 (by first | rfl | exact at_int rfl (by omega) | exact at_slice rfl (by omega) | exact at_int rfl (by simp)), (by (iterate 15 refine Agr.lk rfl ?_); exact Agr.rfl'), ?_⟩
              exact ⟨.inr ⟨by decide, by rw [hE]⟩, he5.trans he6⟩
            · refine J.skip ?_
              -- cutend
              refine ⟨0, At1 (by first | rfl | exact at_int rfl (by omega) | exact at_slice rfl (by omega) | exact at_int rfl (by simp)), (by (iterate 14 refine Agr.lk rfl ?_); exact Agr.rfl'), ?_⟩
              exact ⟨.inl ⟨rfl, hA, by omega⟩, he5.trans he6⟩
      · rintro x g w5 ⟨hx, he5⟩
        have H5 := H4.ext he5
        have he05 := he04.trans he5
        replace hk1 := hk1.ext he5
        -- until
        refine J.cut (X := Int) [9, 10, 45, 46, 47, 48, 49, 50, 51, 52, 53, 54, 55, 56, 57, 58, 59, 60, 61, 62, 63, 64, 65, 66, 67, 68, 69, 70, 71, 72, 73, 74, 75, 76, 77] (fun x => [(9, .int .i64 x)]) (fun x w' => x = s.ofE m n2 cs ∧ Ext w5 w') ?_ ?_
        · refine J.seq ?_
          refine J.region ?_
          refine L.va rfl (X.assign (by conv => lhs; whnf)) ?_
          refine L.nil ?_
          refine J.block ?_
          -- loop
          have r25 := r2.ext he05
          have hd5 := H5.hd
          refine J.loop (X := Nat × Int) [9, 10, 45, 46, 47, 48, 49, 50, 51, 52, 53, 54, 55, 56, 57, 58, 59, 60, 61, 62, 63, 64, 65, 66, 67, 68, 69, 70, 71, 72, 73, 74, 75, 76, 77] (fun y => [(10, .int .i64 (y.1 : Int)), (9, .int .i64 y.2)]) (fun y w' => Ext w5 w' ∧ y.1 ≤ n2 ∧ ((y.2 = 0 ∧ s.askE m = 0 ∧ n2 = s.nd ∧ okO s.ds m cs y.1 = true) ∨ (y.2 ≠ 0 ∧ y.2 = s.ofE m n2 cs))) (fun y => n2 - y.1) ((0, x)) (At2 (by first | rfl | exact at_int rfl (by omega) | exact at_slice rfl (by omega) | exact at_int rfl (by simp)) (by first | rfl | exact at_int rfl (by omega) | exact at_slice rfl (by omega) | exact at_int rfl (by simp))) ?_ ?_
          · refine ⟨Ext.refl _, by dsimp only; omega, ?_⟩
            rcases hx with ⟨h1, h2, h3⟩ | h
            · exact .inl ⟨h1, h2, h3, rfl⟩
            · exact .inr h
          · rintro ⟨i, x⟩ g w6 ⟨he6, hi, hx⟩
            dsimp only at hi hx
            have q1 : ((i, x) : Nat × Int).1 = i := rfl
            have q2 : ((i, x) : Nat × Int).2 = x := rfl
            have hk6 := hk1.ext he6
            have r26 := r25.ext he6
            have hd6 := hd5.ext he6
            refine J.seq ?_
            refine J.seq ?_
            refine J.region ?_
            refine L.va rfl (X.move (by conv => lhs; whnf)) ?_
            refine L.va rfl (X.eql rfl rfl) ?_
            refine L.va rfl (X.move (by conv => lhs; whnf)) ?_
            -- case t47
            refine L.caseDec (k := 47) rfl (fun h9 => ?_) (fun h9 => ?_)
            · have h9' : x = 0 := h9
              rcases hx with ⟨_, hA, hn, hO⟩ | ⟨h, _⟩
              case inr => exact absurd h9' h
              obtain ⟨hc0, hF⟩ := Sch.askE_0 hA
              obtain ⟨g0, g1⟩ := Sch.good hc0
              have hl := H5.len
              refine L.va rfl (X.move (by conv => lhs; whnf)) ?_
              refine L.va rfl (X.move (by conv => lhs; whnf)) ?_
              refine L.va rfl (X.len rfl Try.underlying28) ?_
              refine L.va rfl (X.lss rfl rfl) ?_
              refine L.va rfl (X.pickT rfl (by conv => lhs; whnf)) ?_
              refine L.nil ?_
              -- cond
              refine J.dec rfl (fun hlt => ?_) (fun hlt => ?_)
              · have hil : i < n2 := by dsimp only at hlt; omega
                have hE2 := fun h => (Sch.ofE_2 (s := s) (m := m) (nc := n2) (cs := cs) hA hn h).1
                have hmf := fun k => mono_f (okO_s s.ds m cs) (by omega : i + 1 ≤ s.nd) k
                have hno := @okO_no s.ds m cs i
                have hmk := @okO_mk s.ds m cs i hO
                have hdv : (s.ds.getD i d0).2 = szD s.ds i := rfl
                have hld := fun w' (hw : Ext w6 w') => (show Ld w' (pA s.Ad (i * 2 + 1)) (.int .i64 (szD s.ds i)) from Ld.dimN (hd6.ext hw) (by omega))
                generalize szD s.ds i = dv at *
                refine J.skip ?_
                refine J.seq ?_
                refine J.block ?_
                refine J.seq ?_
                -- draw
                refine J.quiet mixed (by kernel_rfl) ?_
                refine Qt.va rfl (fun w' hw => X.move (by conv => lhs; whnf)) ?_
                refine Qt.va rfl (fun w' hw => X.move (by conv => lhs; whnf)) ?_
                -- callfn bushel/bushelref11.In
                refine Qt.call rfl en_20 rfl (fun w' hw => calls_same hw (rin_any m i _ hm32 (by omega))) ?_
                -- t74
                refine Qt.va rfl (fun w' hw => X.move (by conv => lhs; whnf)) ?_
                -- case t58
                refine Qt.caseB (k := 58) rfl (fun ht => ?_) (fun ht => ?_)
                · replace hno := hno ht
                  replace hmk := fun k => hmk (fun _ => k)
                  have m3 : cs.getD ((i, x) : Nat × Int).1 0 = cs.getD i 0 := rfl
                  refine Qt.va rfl (fun w' hw => X.move (by conv => lhs; whnf)) ?_
                  refine Qt.va rfl (fun w' hw => X.move (by conv => lhs; whnf)) ?_
                  refine Qt.va rfl (fun w' hw => (by first | exact X.index1n rfl rfl Try.underlying28 sz_3 (by first | exact Option.some_ne_none _ | exact r26.some_ (by omega) | exact hd6.some_ (by omega)) (by omega) | exact X.index1 rfl rfl Try.underlying28 sz_3 (by first | exact Option.some_ne_none _ | exact r26.some_ (by omega) | exact hd6.some_ (by omega)) (by omega))) ?_
                  refine Qt.va rfl (fun w' hw => X.load rfl sc_3 (by first | exact Ld.blk (hk6.ext hw) rfl | exact Ld.num (r26.ext hw) (by omega) | exact Ld.rd (hd6.ext hw) (by omega))) ?_
                  refine Qt.va rfl (fun w' hw => X.lss rfl rfl) ?_
                  refine Qt.va rfl (fun w' hw => X.move (by conv => lhs; whnf)) ?_
                  -- case t64
                  refine Qt.caseDec (k := 64) rfl (fun h5 => ?_) (fun h5 => ?_)
                  · have hbad := hE2 (hmf (hno (by omega)))
                    refine Qt.no rfl ?_
                    refine Qt.no rfl ?_
                    refine Qt.no rfl ?_
                    refine Qt.no rfl ?_
                    refine Qt.no rfl ?_
                    refine Qt.no rfl ?_
                    refine Qt.no rfl ?_
                    refine Qt.no rfl ?_
                    refine Qt.no rfl ?_
                    refine Qt.no rfl ?_
                    refine Qt.no rfl ?_
                    refine Qt.va rfl (fun w' hw => X.pickT rfl (by conv => lhs; whnf)) ?_
                    refine Qt.va rfl (fun w' hw => X.pickT rfl (by conv => lhs; whnf)) ?_
                    refine Qt.nil (fun w7 hq => ?_)
                    replace hk6 := hk6.ext hq
                    replace r26 := r26.ext hq
                    replace hd6 := hd6.ext hq
                    -- cond
                    refine J.iteT rfl ?_
                    refine J.region ?_
                    refine L.va rfl (X.assign (by conv => lhs; whnf)) ?_
                    refine L.nil ?_
                    refine J.region ?_
                    refine L.va rfl (X.move (by conv => lhs; whnf)) ?_
                    refine L.va rfl (X.add rfl rfl (by omega)) ?_
                    refine L.va rfl (X.assign (by conv => lhs; whnf)) ?_
                    refine L.nil ?_
                    -- loopend
                    refine ⟨(i + 1, 2), At2 (by first | rfl | exact at_int rfl (by omega) | exact at_slice rfl (by omega) | exact at_int rfl (by simp)) (by first | rfl | exact at_int rfl (by omega) | exact at_slice rfl (by omega) | exact at_int rfl (by simp)), (by (iterate 38 refine Agr.lk rfl ?_); exact Agr.lk rfl (Agr.hav rfl Agr.rfl')), ?_⟩
                    exact ⟨⟨he6.trans hq, by dsimp only; omega, .inr ⟨by dsimp only; decide, hbad.symm⟩⟩, by dsimp only; omega⟩
                  · refine Qt.va rfl (fun w' hw => X.move (by conv => lhs; whnf)) ?_
                    refine Qt.va rfl (fun w' hw => X.move (by conv => lhs; whnf)) ?_
                    refine Qt.va rfl (fun w' hw => (by first | exact X.index1n rfl rfl Try.underlying28 sz_3 (by first | exact Option.some_ne_none _ | exact r26.some_ (by omega) | exact hd6.some_ (by omega)) (by omega) | exact X.index1 rfl rfl Try.underlying28 sz_3 (by first | exact Option.some_ne_none _ | exact r26.some_ (by omega) | exact hd6.some_ (by omega)) (by omega))) ?_
                    refine Qt.va rfl (fun w' hw => X.load rfl sc_3 (by first | exact Ld.blk (hk6.ext hw) rfl | exact Ld.num (r26.ext hw) (by omega) | exact Ld.rd (hd6.ext hw) (by omega))) ?_
                    refine Qt.va rfl (fun w' hw => X.fieldAddr rfl Try.underlying26 rfl sz_22 (by decide)) ?_
                    refine Qt.va rfl (fun w' hw => X.load rfl sc_22 (by first | exact Ld.blk (hk6.ext hw) rfl | exact Ld.num (r26.ext hw) (by omega) | exact Ld.rd (hd6.ext hw) (by omega))) ?_
                    refine Qt.va rfl (fun w' hw => X.move (by conv => lhs; whnf)) ?_
                    refine Qt.va rfl (fun w' hw => (by first | exact X.indexAddrn rfl rfl Try.underlying22 sz_40 (by first | exact Option.some_ne_none _ | exact r26.some_ (by omega) | exact hd6.some_ (by omega)) (by omega) | exact X.indexAddr rfl rfl Try.underlying22 sz_40 (by first | exact Option.some_ne_none _ | exact r26.some_ (by omega) | exact hd6.some_ (by omega)) (by omega))) ?_
                    refine Qt.va rfl (fun w' hw => X.fieldP rfl Try.underlying40 rfl sz_3 (by decide) (by first | exact Option.some_ne_none _ | exact r26.some_ (by omega) | exact hd6.some_ (by omega))) ?_
                    refine Qt.va rfl (fun w' hw => X.load rfl sc_3 (hld _ hw)) ?_
                    refine Qt.va rfl (fun w' hw => X.geq rfl rfl) ?_
                    refine Qt.va rfl (fun w' hw => X.pickF rfl (by conv => lhs; whnf)) ?_
                    refine Qt.va rfl (fun w' hw => X.pickT rfl (by conv => lhs; whnf)) ?_
                    refine Qt.nil (fun w7 hq => ?_)
                    replace hk6 := hk6.ext hq
                    replace r26 := r26.ext hq
                    replace hd6 := hd6.ext hq
                    -- cond
                    refine J.dec rfl (fun h6 => ?_) (fun h6 => ?_)
                    · have hbad := hE2 (hmf (hno (by omega)))
                      refine J.region ?_
                      refine L.va rfl (X.assign (by conv => lhs; whnf)) ?_
                      refine L.nil ?_
                      refine J.region ?_
                      refine L.va rfl (X.move (by conv => lhs; whnf)) ?_
                      refine L.va rfl (X.add rfl rfl (by omega)) ?_
                      refine L.va rfl (X.assign (by conv => lhs; whnf)) ?_
                      refine L.nil ?_
                      -- loopend
                      refine ⟨(i + 1, 2), At2 (by first | rfl | exact at_int rfl (by omega) | exact at_slice rfl (by omega) | exact at_int rfl (by simp)) (by first | rfl | exact at_int rfl (by omega) | exact at_slice rfl (by omega) | exact at_int rfl (by simp)), (by (iterate 38 refine Agr.lk rfl ?_); exact Agr.lk rfl (Agr.hav rfl Agr.rfl')), ?_⟩
                      exact ⟨⟨he6.trans hq, by dsimp only; omega, .inr ⟨by dsimp only; decide, hbad.symm⟩⟩, by dsimp only; omega⟩
                    · refine J.skip ?_
                      refine J.region ?_
                      refine L.va rfl (X.move (by conv => lhs; whnf)) ?_
                      refine L.va rfl (X.add rfl rfl (by omega)) ?_
                      refine L.va rfl (X.assign (by conv => lhs; whnf)) ?_
                      refine L.nil ?_
                      -- loopend
                      refine ⟨(i + 1, x), At2 (by first | rfl | exact at_int rfl (by omega) | exact at_slice rfl (by omega) | exact at_int rfl (by simp)) (by first | rfl | exact at_int rfl (by omega) | exact at_slice rfl (by omega) | exact at_int rfl (by simp)), (by (iterate 37 refine Agr.lk rfl ?_); exact Agr.lk rfl (Agr.hav rfl Agr.rfl')), ?_⟩
                      exact ⟨⟨he6.trans hq, by dsimp only; omega, .inl ⟨h9', hA, hn, hmk (by omega)⟩⟩, by dsimp only; omega⟩
                · rw [ht] at hmk
                  refine Qt.no rfl ?_
                  refine Qt.no rfl ?_
                  refine Qt.no rfl ?_
                  refine Qt.no rfl ?_
                  refine Qt.no rfl ?_
                  refine Qt.no rfl ?_
                  refine Qt.no rfl ?_
                  refine Qt.no rfl ?_
                  refine Qt.no rfl ?_
                  refine Qt.no rfl ?_
                  refine Qt.no rfl ?_
                  refine Qt.no rfl ?_
                  refine Qt.no rfl ?_
                  refine Qt.no rfl ?_
                  refine Qt.no rfl ?_
                  refine Qt.no rfl ?_
                  refine Qt.no rfl ?_
                  refine Qt.no rfl ?_
                  refine Qt.va rfl (fun w' hw => X.pickF rfl (by conv => lhs; whnf)) ?_
                  refine Qt.nil (fun w7 hq => ?_)
                  replace hk6 := hk6.ext hq
                  replace r26 := r26.ext hq
                  replace hd6 := hd6.ext hq
                  -- cond
                  refine J.iteF rfl ?_
                  refine J.skip ?_
                  refine J.region ?_
                  refine L.va rfl (X.move (by conv => lhs; whnf)) ?_
                  refine L.va rfl (X.add rfl rfl (by omega)) ?_
                  refine L.va rfl (X.assign (by conv => lhs; whnf)) ?_
                  refine L.nil ?_
                  -- loopend
                  refine ⟨(i + 1, x), At2 (by first | rfl | exact at_int rfl (by omega) | exact at_slice rfl (by omega) | exact at_int rfl (by simp)) (by first | rfl | exact at_int rfl (by omega) | exact at_slice rfl (by omega) | exact at_int rfl (by simp)), (by (iterate 36 refine Agr.lk rfl ?_); exact Agr.lk rfl (Agr.hav rfl Agr.rfl')), ?_⟩
                  exact ⟨⟨he6.trans hq, by dsimp only; omega, .inl ⟨h9', hA, hn, hmk (fun k => by cases k)⟩⟩, by dsimp only; omega⟩
              · obtain rfl : i = n2 := by dsimp only at hlt; omega
                have hE0 := (Sch.ofE_0 (s := s) (m := m) (nc := i) (cs := cs) hA hn (hn ▸ hO)).1
                refine J.exit ?_
                -- cutend
                refine ⟨x, At1 (by first | rfl | exact at_int rfl (by omega) | exact at_slice rfl (by omega) | exact at_int rfl (by simp)), (by (iterate 9 refine Agr.lk rfl ?_); refine Agr.lk rfl ?_; refine Agr.hav rfl ?_; (iterate 1 refine Agr.lk rfl ?_); exact Agr.rfl'), ?_⟩
                exact ⟨by rw [h9', hE0], he6⟩
            · have h9' : x ≠ 0 := h9
              rcases hx with ⟨h, _⟩ | ⟨_, hxE⟩
              case inl => exact absurd h h9'
              refine L.no rfl ?_
              refine L.no rfl ?_
              refine L.no rfl ?_
              refine L.no rfl ?_
              refine L.va rfl (X.pickF rfl (by conv => lhs; whnf)) ?_
              refine L.nil ?_
              -- cond
              refine J.iteF rfl ?_
              refine J.exit ?_
              -- cutend
              refine ⟨x, At1 (by first | rfl | exact at_int rfl (by omega) | exact at_slice rfl (by omega) | exact at_int rfl (by simp)), (by (iterate 9 refine Agr.lk rfl ?_); refine Agr.lk rfl ?_; refine Agr.hav rfl ?_; (iterate 1 refine Agr.lk rfl ?_); exact Agr.rfl'), ?_⟩
              exact ⟨hxE, he6⟩
        · rintro x g w6 ⟨rfl, he6⟩
          have H6 := H5.ext he6
          have he06 := he05.trans he6
          replace hk1 := hk1.ext he6
          refine J.seq ?_
          refine J.seq ?_
          refine J.region ?_
          refine L.va rfl (X.move (by conv => lhs; whnf)) ?_
          refine L.va rfl (X.neq rfl rfl) ?_
          refine L.nil ?_
          -- cond
          refine J.ndec rfl (fun hE => ?_) (fun hE => ?_)
          · have hK : s.ofK m n2 cs = 0 := by rw [Sch.ofK, if_neg hE]
            rw [hK]
            refine J.seq ?_
            refine J.region ?_
            refine L.va rfl (X.move (by conv => lhs; whnf)) ?_
            refine L.va rfl (X.eql rfl rfl) ?_
            refine L.va rfl (X.move (by conv => lhs; whnf)) ?_
            -- case t82
            refine L.caseDecT (k := 82) rfl (by rfl) ?_
            refine L.va rfl (X.move (by conv => lhs; whnf)) ?_
            refine L.va rfl (X.move (by conv => lhs; whnf)) ?_
            refine L.va rfl (X.eql rfl rfl) ?_
            refine L.va rfl (X.pickT rfl (by conv => lhs; whnf)) ?_
            refine L.va rfl (X.move (by conv => lhs; whnf)) ?_
            -- case t87
            refine L.caseDecT (k := 87) rfl (by rfl) ?_
            -- callfn bushel/bushellaw13.awake
            refine L.call rfl en_15 rfl (awake13 _) ?_
            rintro e w7 ⟨rfl, he7⟩
            refine ⟨_, rfl, ?_⟩
            refine L.va rfl (X.pickT rfl (by conv => lhs; whnf)) ?_
            refine L.va rfl (X.assign (by conv => lhs; whnf)) ?_
            refine L.nil ?_
            -- ret
            refine J.ret ?_
            refine thn_ret <| ?_
            refine fin1 ?_
            exact ⟨rfl, he06.trans he7⟩
          · have hE0 : s.ofE m n2 cs = 0 := hE
            obtain ⟨hA, hn, hO⟩ := Sch.ofE_ok hE0
            subst hn
            obtain ⟨hc0, hF⟩ := Sch.askE_0 hA
            obtain ⟨g0, g1⟩ := Sch.good hc0
            have hK := (Sch.ofE_0 (s := s) (m := m) (nc := s.nd) (cs := cs) hA rfl hO).2
            have hbd := kyO_bd g1 s.nd (Nat.le_refl _) hO
            have hbp := kyP_bd m g1 s.nd (Nat.le_refl _)
            have hco := coK_of g1 hO
            rw [hK, hE0]
            generalize hk : kyO s.ds m cs s.nd = k at *
            have hC := Sch.coE_0 (s := s) (m := m) (k := k) hA (by omega)
            have c7 := H6.codes hm32 k (by omega)
            rw [hC.1, hC.2, hco] at c7
            have hml : (mkC m s.nd cs).length = s.nd := by simp [mkC]
            rw [hml] at c7
            refine J.skip ?_
            refine J.seq ?_
            refine J.region ?_
            refine L.va rfl ((by first | exact X.loadAgg rfl (range_l hk1) Try.underlying26 rfl (by kernel_rfl) | exact X.loadAgg rfl (range_blk hk1) Try.underlying26 rfl (by kernel_rfl))) ?_
            refine L.va rfl (X.move (by conv => lhs; whnf)) ?_
            refine L.va rfl (X.move (by conv => lhs; whnf)) ?_
            -- callfn bushel/key.Codes
            refine L.call rfl en_21 rfl (c7) ?_
            rintro e w7 ⟨A7, c7', rfl, ho7, he7⟩
            refine ⟨_, rfl, ?_⟩
            have he7 : Ext w6 w7 := he7
            have H7 := H6.ext he7
            have he07 := he06.trans he7
            replace hk1 := hk1.ext he7
            refine L.va rfl (X.move (by conv => lhs; whnf)) ?_
            refine L.va rfl (X.extract rfl rfl) ?_
            refine L.va rfl (X.extract rfl rfl) ?_
            refine L.va rfl (X.assign (by conv => lhs; whnf)) ?_
            refine L.va rfl (X.assign (by conv => lhs; whnf)) ?_
            refine L.nil ?_
            refine J.seq ?_
            refine J.seq ?_
            refine J.region ?_
            refine L.va rfl (X.move (by conv => lhs; whnf)) ?_
            refine L.va rfl (X.neq rfl rfl) ?_
            refine L.va rfl (X.move (by conv => lhs; whnf)) ?_
            -- case t99
            refine L.caseNdecF (k := 99) rfl (by omega) ?_
            refine L.va rfl (X.move (by conv => lhs; whnf)) ?_
            refine L.va rfl ((by first | exact X.loadAgg rfl (range_l hk1) Try.underlying26 rfl (by kernel_rfl) | exact X.loadAgg rfl (range_blk hk1) Try.underlying26 rfl (by kernel_rfl))) ?_
            refine L.va rfl (X.move (by conv => lhs; whnf)) ?_
            refine L.va rfl (X.move (by conv => lhs; whnf)) ?_
            -- callfn bushel/bushelref13.Of
            have c8 := H7.rof hc0 hm32 A2 s.nd c2 cs ((r2.ext he07).here (by decide)) rfl hO
            rw [hk] at c8
            refine L.call rfl en_22 rfl (c8) ?_
            rintro e w8 ⟨rfl, he8⟩
            refine ⟨_, rfl, ?_⟩
            have he8 : Ext w7 w8 := he8
            have H8 := H7.ext he8
            have he08 := he07.trans he8
            have ho8 := ho7.ext he8
            replace hk1 := hk1.ext he8
            refine L.va rfl (X.neq rfl rfl) ?_
            refine L.va rfl (X.pickF rfl (by conv => lhs; whnf)) ?_
            refine L.va rfl (X.move (by conv => lhs; whnf)) ?_
            -- case t107
            refine L.caseNdecF (k := 107) rfl (by omega) ?_
            refine L.va rfl (X.move (by conv => lhs; whnf)) ?_
            refine L.va rfl (X.neq rfl rfl) ?_
            refine L.va rfl (X.pickF rfl (by conv => lhs; whnf)) ?_
            refine L.va rfl (X.move (by conv => lhs; whnf)) ?_
            -- case t111
            refine L.caseNdecF (k := 111) rfl (by omega) ?_
            refine L.va rfl (X.move (by conv => lhs; whnf)) ?_
            refine L.va rfl (X.len rfl Try.underlying28) ?_
            refine L.va rfl (X.move (by conv => lhs; whnf)) ?_
            refine L.va rfl (X.len rfl Try.underlying28) ?_
            refine L.va rfl (X.neq rfl rfl) ?_
            refine L.va rfl (X.pickF rfl (by conv => lhs; whnf)) ?_
            refine L.nil ?_
            -- cond
            refine J.ndecF rfl (by omega) ?_
            have r28 := r2.ext he08
            refine J.skip ?_
            refine J.seq ?_
            refine J.seq ?_
            refine J.region ?_
            refine L.va rfl (X.assign (by conv => lhs; whnf)) ?_
            refine L.nil ?_
            refine J.block ?_
            -- loop
            refine J.loop (X := Nat) [6, 13, 14, 118, 119, 120, 121, 122, 123, 124, 125, 126, 127, 128, 129, 130, 131, 132, 133, 134, 135, 136, 137, 138, 139, 140, 141, 142, 143, 144, 145] (fun i => [(13, .int .i64 (i : Int))]) (fun i w' => Ext w8 w' ∧ i ≤ s.nd) (fun i => s.nd - i) (0) (At1 (by first | rfl | exact at_int rfl (by omega) | exact at_slice rfl (by omega) | exact at_int rfl (by simp))) ?_ ?_
            · exact ⟨Ext.refl _, by omega⟩
            · rintro i g w9 ⟨he9, hi⟩
              have hk9 := hk1.ext he9
              have r29 := r28.ext he9
              have ho9 := ho8.ext he9
              have H9 := H8.ext he9
              have he09 := he08.trans he9
              refine J.seq ?_
              refine J.seq ?_
              refine J.region ?_
              refine L.va rfl (X.move (by conv => lhs; whnf)) ?_
              refine L.va rfl (X.move (by conv => lhs; whnf)) ?_
              refine L.va rfl (X.len rfl Try.underlying28) ?_
              refine L.va rfl (X.lss rfl rfl) ?_
              refine L.nil ?_
              -- cond
              refine J.dec rfl (fun hlt => ?_) (fun hlt => ?_)
              · have hil : i < s.nd := by omega
                have hmk : (mkC m s.nd cs).getD i 0 = if m.testBit i then cs.getD i 0 else -1 := range_getD hil
                have hcd : s.cdE m k (i : Int) = (mkC m s.nd cs).getD i 0 := by
                  rw [Sch.cdE, hC.1, if_neg (by omega), ← hco, coK_at hil]
                  rfl
                have c9 := H9.code1 hm32 k (by omega) (i : Int)
                rw [hcd, hmk] at c9
                refine J.skip ?_
                refine J.seq ?_
                refine J.block ?_
                refine J.seq ?_
                refine J.region ?_
                refine L.va rfl (X.assign (by conv => lhs; whnf)) ?_
                refine L.nil ?_
                refine J.seq ?_
                refine J.seq ?_
                refine J.region ?_
                refine L.va rfl (X.move (by conv => lhs; whnf)) ?_
                refine L.va rfl (X.move (by conv => lhs; whnf)) ?_
                -- callfn bushel/bushelref11.In
                refine L.call rfl en_20 rfl (rin_any m i _ hm32 (by omega)) ?_
                rintro e _ ⟨rfl, rfl⟩
                refine ⟨_, rfl, ?_⟩
                cases ht : m.testBit i
                · rw [ht, if_neg (by decide)] at hmk c9
                  refine L.nil ?_
                  -- cond
                  refine J.iteF rfl ?_
                  refine J.skip ?_
                  refine J.seq ?_
                  refine J.region ?_
                  refine L.va rfl (X.move (by conv => lhs; whnf)) ?_
                  refine L.va rfl (X.move (by conv => lhs; whnf)) ?_
                  refine L.va rfl ((by first | exact X.index1n rfl rfl Try.underlying28 sz_3 (by first | exact Option.some_ne_none _ | exact r29.some_ (by omega) | exact own_ne ho9 (by omega)) (by omega) | exact X.index1 rfl rfl Try.underlying28 sz_3 (by first | exact Option.some_ne_none _ | exact r29.some_ (by omega) | exact own_ne ho9 (by omega)) (by omega))) ?_
                  refine L.va rfl (X.load rfl sc_3 (by first | exact Ld.blk hk9 rfl | exact Ld.num r29 (by omega) | exact Ld.own ho9 (by omega))) ?_
                  refine L.va rfl (X.move (by conv => lhs; whnf)) ?_
                  refine L.va rfl (X.neq rfl rfl) ?_
                  refine L.va rfl (X.move (by conv => lhs; whnf)) ?_
                  -- case t137
                  rw [hmk]
                  refine L.caseNdecF (k := 137) rfl (by omega) ?_
                  refine L.va rfl ((by first | exact X.loadAgg rfl (range_l hk9) Try.underlying26 rfl (by kernel_rfl) | exact X.loadAgg rfl (range_blk hk9) Try.underlying26 rfl (by kernel_rfl))) ?_
                  refine L.va rfl (X.move (by conv => lhs; whnf)) ?_
                  refine L.va rfl (X.move (by conv => lhs; whnf)) ?_
                  refine L.va rfl (X.move (by conv => lhs; whnf)) ?_
                  -- callfn bushel/key.Code
                  refine L.call rfl en_23 rfl (c9) ?_
                  rintro e w10 ⟨rfl, he10⟩
                  refine ⟨_, rfl, ?_⟩
                  have he10 : Ext w9 w10 := he10
                  replace hk9 := hk9.ext he10
                  replace r29 := r29.ext he10
                  replace ho9 := ho9.ext he10
                  refine L.va rfl (X.move (by conv => lhs; whnf)) ?_
                  refine L.va rfl (X.neq rfl rfl) ?_
                  refine L.va rfl (X.pickF rfl (by conv => lhs; whnf)) ?_
                  refine L.nil ?_
                  -- cond
                  refine J.ndecF rfl (by omega) ?_
                  refine J.skip ?_
                  refine J.region ?_
                  refine L.va rfl (X.move (by conv => lhs; whnf)) ?_
                  refine L.va rfl (X.add rfl rfl (by omega)) ?_
                  refine L.va rfl (X.assign (by conv => lhs; whnf)) ?_
                  refine L.nil ?_
                  -- loopend
                  refine ⟨i + 1, At1 (by first | rfl | exact at_int rfl (by omega) | exact at_slice rfl (by omega) | exact at_int rfl (by simp)), (by (iterate 27 refine Agr.lk rfl ?_); exact Agr.lk rfl (Agr.hav rfl Agr.rfl')), ?_⟩
                  exact ⟨⟨he9.trans he10, by omega⟩, by omega⟩
                · rw [ht, if_pos rfl] at hmk c9
                  refine L.nil ?_
                  -- cond
                  refine J.iteT rfl ?_
                  refine J.region ?_
                  refine L.va rfl (X.move (by conv => lhs; whnf)) ?_
                  refine L.va rfl (X.move (by conv => lhs; whnf)) ?_
                  refine L.va rfl ((by first | exact X.index1n rfl rfl Try.underlying28 sz_3 (by first | exact Option.some_ne_none _ | exact r29.some_ (by omega) | exact own_ne ho9 (by omega)) (by omega) | exact X.index1 rfl rfl Try.underlying28 sz_3 (by first | exact Option.some_ne_none _ | exact r29.some_ (by omega) | exact own_ne ho9 (by omega)) (by omega))) ?_
                  refine L.va rfl (X.load rfl sc_3 (by first | exact Ld.blk hk9 rfl | exact Ld.num r29 (by omega) | exact Ld.own ho9 (by omega))) ?_
                  refine L.va rfl (X.assign (by conv => lhs; whnf)) ?_
                  refine L.nil ?_
                  refine J.seq ?_
                  refine J.region ?_
                  refine L.va rfl (X.move (by conv => lhs; whnf)) ?_
                  refine L.va rfl (X.move (by conv => lhs; whnf)) ?_
                  refine L.va rfl ((by first | exact X.index1n rfl rfl Try.underlying28 sz_3 (by first | exact Option.some_ne_none _ | exact r29.some_ (by omega) | exact own_ne ho9 (by omega)) (by omega) | exact X.index1 rfl rfl Try.underlying28 sz_3 (by first | exact Option.some_ne_none _ | exact r29.some_ (by omega) | exact own_ne ho9 (by omega)) (by omega))) ?_
                  refine L.va rfl (X.load rfl sc_3 (by first | exact Ld.blk hk9 rfl | exact Ld.num r29 (by omega) | exact Ld.own ho9 (by omega))) ?_
                  refine L.va rfl (X.move (by conv => lhs; whnf)) ?_
                  refine L.va rfl (X.neq rfl rfl) ?_
                  refine L.va rfl (X.move (by conv => lhs; whnf)) ?_
                  -- case t137
                  rw [hmk]
                  refine L.caseNdecF (k := 137) rfl (by omega) ?_
                  refine L.va rfl ((by first | exact X.loadAgg rfl (range_l hk9) Try.underlying26 rfl (by kernel_rfl) | exact X.loadAgg rfl (range_blk hk9) Try.underlying26 rfl (by kernel_rfl))) ?_
                  refine L.va rfl (X.move (by conv => lhs; whnf)) ?_
                  refine L.va rfl (X.move (by conv => lhs; whnf)) ?_
                  refine L.va rfl (X.move (by conv => lhs; whnf)) ?_
                  -- callfn bushel/key.Code
                  refine L.call rfl en_23 rfl (c9) ?_
                  rintro e w10 ⟨rfl, he10⟩
                  refine ⟨_, rfl, ?_⟩
                  have he10 : Ext w9 w10 := he10
                  replace hk9 := hk9.ext he10
                  replace r29 := r29.ext he10
                  replace ho9 := ho9.ext he10
                  refine L.va rfl (X.move (by conv => lhs; whnf)) ?_
                  refine L.va rfl (X.neq rfl rfl) ?_
                  refine L.va rfl (X.pickF rfl (by conv => lhs; whnf)) ?_
                  refine L.nil ?_
                  -- cond
                  refine J.ndecF rfl (by omega) ?_
                  refine J.skip ?_
                  refine J.region ?_
                  refine L.va rfl (X.move (by conv => lhs; whnf)) ?_
                  refine L.va rfl (X.add rfl rfl (by omega)) ?_
                  refine L.va rfl (X.assign (by conv => lhs; whnf)) ?_
                  refine L.nil ?_
                  -- loopend
                  refine ⟨i + 1, At1 (by first | rfl | exact at_int rfl (by omega) | exact at_slice rfl (by omega) | exact at_int rfl (by simp)), (by (iterate 32 refine Agr.lk rfl ?_); exact Agr.lk rfl (Agr.hav rfl Agr.rfl')), ?_⟩
                  exact ⟨⟨he9.trans he10, by omega⟩, by omega⟩
              · refine J.exit ?_
                refine J.seq ?_
                refine J.region ?_
                -- callfn bushel/bushellaw13.awake
                refine L.call rfl en_15 rfl (awake13 _) ?_
                rintro e w10 ⟨rfl, he10⟩
                refine ⟨_, rfl, ?_⟩
                refine L.va rfl (X.assign (by conv => lhs; whnf)) ?_
                refine L.nil ?_
                -- ret
                refine J.ret ?_
                refine fin1 ?_
                exact ⟨rfl, he09.trans he10⟩
end Go.Proofs.Ytmiieppcoknmfaa
