/-
  The reference's Get of schemas, walked.
-/
import Derived.Test.YtlohbkcedpkjaaaWSchI
namespace Go.Proofs.Ytlohbkcedpkjaaa
set_option maxRecDepth 100000
open Go.RowKit H
open Byts Cod
set_option linter.unusedVariables false
/-- a block that is neither the reader's nor its bytes' is changed -/
theorem RdB.off {w w' : World} {b g N : Nat} {A : Option Addr} {n c : Nat} {zs : List Int} {s : RS} (h : RdB w b A n c zs s) (hr : Reads w N 1 A n (nums .u8 zs)) (hg : w.grownBy w' (some g)) (hb : g ≠ b) (hN : N ≤ g) (hNb : N ≤ b) : RdB w' b A n c zs s :=
  ⟨h.hk.grown hg (by intro e; injection e with e; omega), (hr.grw hg (by intro k e; injection e with e; omega)).more hNb, h.hnc, h.hz, h.hm, h.hf⟩
theorem rsget_ (A : Option Addr) (n c : Nat) (zs : List Int) (w : World) (hr : Reads w w.heap.size 1 A n (nums .u8 zs)) (hz : ∀ z ∈ zs, 0 ≤ z ∧ z < 256) (hn : n ≤ 1000000) (hnc : n ≤ c) :
    Calls Try.prog 38 #[.slice A n c] w (SGot zs w) := by
  have f0 := rdU_fit hz 6 (by decide) (sfit0 zs)
  have g0 := sg0_fit hz
  have g1 := sg1_fit hz
  have g2 := sg2_fit hz
  have g3 := sg3_n hz
  have g4 := sg3_fit hz
  obtain ⟨k0, hk0⟩ : ∃ k : Nat, (rdU zs 6 (0, 0)).1 = (k : Int) := ⟨(rdU zs 6 (0, 0)).1.toNat, by omega⟩
  have er0 : sg0 zs = rdL (fD zs) k0 (rdU zs 6 (0, 0)).2 := by unfold sg0; rw [hk0, Int.toNat_natCast]
  obtain ⟨k3, hk3⟩ : ∃ k : Nat, (rdU zs 15 (sg2 zs).2).1 = (k : Int) := ⟨(rdU zs 15 (sg2 zs).2).1.toNat, by omega⟩
  have er3 : sg3 zs = rdL (fun s => rdU zs 4294967295 s) k3 (rdU zs 15 (sg2 zs).2).2 := by unfold sg3; rw [hk3, Int.toNat_natCast]
  refine enter Try.func38 rfl (by kernel_rfl) ?_
  refine J.seq ?_
  refine J.region ?_
  -- alloc
  refine L.alloc rfl zr_34 ?_
  intro b2 w1 hb2 hs1 hk2 he1
  refine L.va rfl (X.assign (by conv => lhs; whnf)) ?_
  refine L.nil ?_
  refine J.seq ?_
  refine J.region ?_
  refine L.va rfl (X.build (l := [_, _, _, _]) Evs.nil (bld_run Try.underlying34 (bp_34 Try.underlying34) zr_34 rfl)) ?_
  -- alloc
  refine L.alloc rfl zr_34 ?_
  intro b4 w1' hb4 hs2 hk4' he1'
  -- store
  refine L.storeAgg (vs := [_, _, _, _]) rfl rfl rfl rfl sz_34 (hk4') rfl ?_
  intro w2 hk4 hg2 hs2'
  have hk4 : Blk w2 b4 34 #[.slice none 0 0, .slice none 0 0, .slice none 0 0, .slice none 0 0] := hk4
  have he2 : Ext w1 w2 := he1'.grw hg2 (by intro g hg; injection hg with hg; omega)
  have he02 := he1.trans he2
  have hk22 := hk2.ext he2
  have hr2 := hr.ext he02
  refine L.nil ?_
  refine J.seq ?_
  refine J.region ?_
  refine L.va rfl (X.move (by conv => lhs; whnf)) ?_
  refine L.va rfl (X.build (l := [_, _, _]) (Evs.cons (by conv => lhs; whnf) Evs.nil) (bld_run Try.underlying128 (bp_128 Try.underlying128) zr_128 rfl)) ?_
  -- box
  refine L.boxA (l := [_, _, _]) rfl rfl ?_
  intro b w3 hb3 hs3 hk3' he3
  have hk43 := hk4.ext he3
  have hk23 := hk22.ext he3
  have hr3 := hr2.ext he3
  have z3 := he3.le
  have hI3 : RdB w3 b A n c zs (0, 0) := ⟨hk3', hr3.more (by omega), hnc, hz, hn, Nat.zero_le _, Int.le_refl _, by decide⟩
  have bl3 := hI3.hk.lt
  refine L.va rfl (X.assign (by conv => lhs; whnf)) ?_
  refine L.nil ?_
  refine J.seq ?_
  refine J.region ?_
  refine L.va rfl (X.move (by conv => lhs; whnf)) ?_
  -- callfn (*bushel/bushelref11.Reader).U
  refine L.call rfl en_82 rfl (hI3.rU 6 (by decide)) ?_
  rintro e w4 ⟨rfl, hI4, hc4⟩
  refine ⟨_, rfl, ?_⟩
  have hk44 := hc4.blk hk43 (by omega)
  have hk24 := hc4.blk hk23 (by omega)
  have z4 := hc4.size
  have y4 : Below w1.heap.size w3 w4 := hc4.below (by omega) (fun g hg => by omega)
  have hr4 := hr3.low y4 (by omega)
  rw [hk0]
  have hx4 : Ext w w4 := (he02.trans he3).low y4 (by omega)
  refine L.va rfl ((by first | exact X.convI rfl is_73 Try.underlying3 (by omega) | exact X.convw rfl is_73 Try.underlying3)) ?_
  refine L.va rfl (X.assign (by conv => lhs; whnf)) ?_
  refine L.nil ?_
  refine J.seq ?_
  refine J.seq ?_
  refine J.region ?_
  refine L.va rfl (X.assign (by conv => lhs; whnf)) ?_
  refine L.nil ?_
  refine J.block ?_
  -- loop
  refine J.loop (X := Nat) [7, 8, 17, 18, 19, 20, 21, 22, 23, 24, 25, 26, 27, 28, 29, 30, 31, 32, 33] (fun i => [(7, .int .i64 (i : Int))]) (fun i w' => i ≤ k0 ∧ RdB w' b A n c zs (rdL (fD zs) i (rdU zs 6 (0, 0)).2).2 ∧ (∃ A c, Blk w' b4 34 #[.slice A i c, .slice none 0 0, .slice none 0 0, .slice none 0 0] ∧ w'.ownsRow w1.heap.size 88 2 (.slice A i c) i (dimsV ((rdL (fD zs) i (rdU zs 6 (0, 0)).2).1.map dS))) ∧ Below w1.heap.size w4 w') (fun i => k0 - i) (0) (At1 (by first | rfl | exact at_int rfl (by omega) | exact at_slice rfl (by omega) | exact at_int rfl (by simp))) ?_ ?_
  · exact ⟨Nat.zero_le _, hI4, ⟨none, 0, hk44, own_nil _ _ _ _⟩, Below.refl _ _⟩
  · rintro i g w9 ⟨hi, hI9, ⟨A9, c9, hk9, ho9⟩, hc9⟩
    have hk29 := hk24.low hc9 (by omega)
    have hr9 := hr4.low hc9 (by omega)
    have z9 := hc9.size
    have bl9 := hI9.hk.lt
    have b49 := hk9.lt
    refine J.seq ?_
    refine J.seq ?_
    refine J.region ?_
    refine L.va rfl (X.move (by conv => lhs; whnf)) ?_
    refine L.va rfl (X.move (by conv => lhs; whnf)) ?_
    refine L.va rfl (X.lss rfl rfl) ?_
    refine L.nil ?_
    -- cond
    refine J.dec rfl (fun hlt => ?_) (fun hlt => ?_)
    · have f0 := hI9.hf
      have f1 := rdT_fit hz 16 (by decide) f0
      have f2 := rdU_fit hz 4096 (by decide) f1.1
      refine J.skip ?_
      refine J.seq ?_
      refine J.block ?_
      refine J.seq ?_
      refine J.region ?_
      refine L.va rfl (X.move (by conv => lhs; whnf)) ?_
      -- callfn (*bushel/bushelref11.Reader).T
      refine L.call rfl en_83 rfl (hI9.rT 16 (by decide)) ?_
      rintro e wf ⟨rfl, hIf, hcf⟩
      refine ⟨_, rfl, ?_⟩
      have hkf := hcf.blk hk9 (by omega)
      have yf : Below w1.heap.size w9 wf := hcf.below (by omega) (fun g hg => by omega)
      have hrf := hr9.low yf (by omega)
      have hof := hcf.own ho9 (fun g hg e => own_blkne ho9 hI9.hk (by decide) (e ▸ hg))
      have zf := hcf.size
      refine L.va rfl (X.assign (by conv => lhs; whnf)) ?_
      refine L.nil ?_
      -- draw
      refine J.draw (ℓ := 10) (S := (fun w' => Blk w' b4 34 #[.slice A9 i c9, .slice none 0 0, .slice none 0 0, .slice none 0 0])) mixed (fun wg hSE hS_h => ?_)
      have hS : ((fun w' => Blk w' b4 34 #[.slice A9 i c9, .slice none 0 0, .slice none 0 0, .slice none 0 0])) wg := hkf.ext hSE
      -- t25
      have hIg := hIf.ext hSE
      have hog := hof.ext hSE
      have hrg := hrf.ext hSE
      have zg := hSE.le
      refine D.va 0 rfl (by kernel_rfl) (fun _ _ _ h => h) rfl (fun w' hw => X.fieldAddr rfl Try.underlying34 rfl sz_30 (by decide)) hS ?_
      refine D.va 1 rfl (by kernel_rfl) (fun _ _ _ h => h) rfl (fun w' hw => X.load rfl sc_30 (Ld.blk hw rfl)) hS ?_
      refine D.va 2 rfl (by kernel_rfl) (fun _ _ _ h => h) rfl (fun w' hw => X.move (by conv => lhs; whnf)) hS ?_
      refine D.va 3 rfl (by kernel_rfl) (fun _ _ _ h => h) rfl (fun w' hw => X.move (by conv => lhs; whnf)) hS ?_
      -- callfn (*bushel/bushelref11.Reader).U
      refine D.one 4 (by kernel_rfl) rfl ?_
      refine L.call rfl en_82 rfl (hIg.rU 4096 (by decide)) ?_
      rintro e wh ⟨rfl, hIh, hch⟩
      refine ⟨_, rfl, ?_⟩
      have hS1 := hch.blk hS (by omega)
      refine L.nil ?_
      refine ⟨fun _ => hS1, ?_⟩
      have zh := hch.size
      have yh : Below w1.heap.size wg wh := hch.below (by omega) (fun g hg => by omega)
      have hrh := hrg.low yh (by omega)
      have hoh := hch.own hog (fun g hg e => own_blkne hog hIg.hk (by decide) (e ▸ hg))
      refine D.va 5 rfl (by kernel_rfl) (fun _ _ _ h => h) rfl (fun w' hw => (by first | exact X.convI rfl is_73 Try.underlying3 (by omega) | exact X.convw rfl is_73 Try.underlying3)) hS1 ?_
      refine D.va 6 rfl (by kernel_rfl) (fun _ _ _ h => h) rfl (fun w' hw => X.build (l := [_, _]) (Evs.cons (by conv => lhs; whnf) (Evs.cons (by conv => lhs; whnf) Evs.nil)) (bld_run Try.underlying88 (bp_88 Try.underlying88) zr_88 rfl)) hS1 ?_
      -- buildSlice
      refine D.one 7 (by kernel_rfl) rfl ?_
      refine L.bslice1 (l := [_, _]) rfl rfl rfl Try.underlying30 sz_88 zr_88 rfl ?_
      intro bi wi hbi hsi hki hei
      have hS2 := hS1.ext hei
      refine L.nil ?_
      refine ⟨fun _ => hS2, ?_⟩
      have hoi := hoh.ext hei
      have hIi := hIh.ext hei
      have hri := hrh.ext hei
      have zi := hei.le
      -- append
      refine D.one 8 (by kernel_rfl) rfl ?_
      refine L.appendV (q := i + 1) (ys := _) rfl rfl rfl Try.underlying30 el_88 (hoi) (blk_readsN (sz := 2) (q := 1) (l := [.string (strOfNums (rdT zs 16 (rdL (fD zs) i (rdU zs 6 (0, 0)).2).2).1), .int .i64 (rdU zs 4096 (rdT zs 16 (rdL (fD zs) i (rdU zs 6 (0, 0)).2).2).2).1]) hki hki.lt rfl) (by first | rfl | exact strs_ones _ | assumption) (by omega) rfl (by unfold maxLen; omega) (by omega) ?_
      intro Aj cj wj hoj hgj hbj horj
      have hS3 := hS2.grown hgj (fun e ↦ own_blkne hoi hS2 (by decide) e.symm)
      refine L.nil ?_
      refine ⟨fun _ => hS3, ?_⟩
      have hgj : wi.grownBy wj (Value.slice A9 i c9).ownBlock := hgj
      have zj := hbj.size
      have hrj := hri.low hbj (by omega)
      have hIj : RdB wj b A n c zs (rdU zs 4096 (rdT zs 16 (rdL (fD zs) i (rdU zs 6 (0, 0)).2).2).2).2 := ⟨hIi.hk.grown hgj (fun e => own_blkne hoi hIi.hk (by decide) e.symm), hrj.more (by omega), hnc, hz, hn, hIi.hf⟩
      have ezr : dimsV ((rdL (fD zs) (i + 1) (rdU zs 6 (0, 0)).2).1.map dS) = dimsV ((rdL (fD zs) i (rdU zs 6 (0, 0)).2).1.map dS) ++ [.string (strOfNums (rdT zs 16 (rdL (fD zs) i (rdU zs 6 (0, 0)).2).2).1), .int .i64 (rdU zs 4096 (rdT zs 16 (rdL (fD zs) i (rdU zs 6 (0, 0)).2).2).2).1] := dimsV_snoc _ (_, _)
      rw [← ezr] at hoj
      refine D.va 9 rfl (by kernel_rfl) (fun _ _ _ h => h) rfl (fun w' hw => X.fieldAddr rfl Try.underlying34 rfl sz_30 (by decide)) hS3 ?_
      -- store
      refine D.one 10 (by kernel_rfl) rfl ?_
      refine L.store rfl rfl (by conv => lhs; whnf) rfl sz_30 (hS3) (by first | decide | exact Nat.le_of_ble_eq_true rfl) ?_
      intro wk hkk hgk hsk
      refine L.nil ?_
      refine ⟨fun h => absurd rfl h, ?_⟩
      have hkk : Blk wk b4 34 #[.slice Aj (i + 1) cj, .slice none 0 0, .slice none 0 0, .slice none 0 0] := hkk
      refine D.done (by kernel_rfl) ?_
      refine J.region ?_
      refine L.va rfl (X.move (by conv => lhs; whnf)) ?_
      refine L.va rfl (X.add rfl rfl (by omega)) ?_
      refine L.va rfl (X.assign (by conv => lhs; whnf)) ?_
      refine L.nil ?_
      -- loopend
      refine ⟨i + 1, At1 (by first | rfl | exact at_int rfl (by omega) | exact at_slice rfl (by omega) | exact at_int rfl (by simp)), (by (iterate 19 refine Agr.lk rfl ?_); exact Agr.lk rfl (Agr.hav rfl Agr.rfl')), ?_⟩
      have y1 : Below w1.heap.size w9 wi := ((yf.trans (Below.mono hSE (by omega))).trans yh).trans (Below.mono hei (by omega))
      have y1z := y1.size
      have y2 : Below w1.heap.size w9 wk := (y1.trans hbj).grown hgk (by omega) (by intro g hg; injection hg with hg; omega)
      exact ⟨⟨by omega, hIj.off hrj hgk (by omega) (by omega) (by omega), ⟨Aj, cj, hkk, hoj.kept hgk (.inr (fun e => own_blkne hoj hS3 (by decide) e))⟩, hc9.trans y2⟩, by omega⟩
    · obtain rfl : i = k0 := by omega
      rw [← er0] at hI9 ho9
      have hx9 := hx4.low hc9 (by omega)
      have el : i = (sg0 zs).1.length := by rw [er0, rdL_length]
      refine J.exit ?_
      refine J.seq ?_
      refine J.region ?_
      refine L.va rfl (X.move (by conv => lhs; whnf)) ?_
      -- callfn (*bushel/bushelref11.Reader).list
      refine L.call rfl en_84 rfl (hI9.list 3 (by decide)) ?_
      rintro e wa ⟨A1, c1, rfl, ho1a, hIa, hca⟩
      refine ⟨_, rfl, ?_⟩
      have hka := hca.blk hk9 (by omega)
      have hka2 := hca.blk hk29 (by omega)
      have ya : Below w1.heap.size w9 wa := hca.below (by omega) (fun g hg => by omega)
      have hra := hr9.low ya (by omega)
      have hoa := hca.own ho9 (fun g hg e => own_blkne ho9 hI9.hk (by decide) (e ▸ hg))
      have za := hca.size
      refine L.va rfl (X.fieldAddr rfl Try.underlying34 rfl sz_31 (by decide)) ?_
      -- store
      refine L.store rfl rfl (by conv => lhs; whnf) rfl sz_31 (hka) (by first | decide | exact Nat.le_of_ble_eq_true rfl) ?_
      intro wb hkb hgb hsb
      have hkb : Blk wb b4 34 #[.slice A9 i c9, .slice A1 (sg1 zs).1.length c1, .slice none 0 0, .slice none 0 0] := hkb
      have hrb := hra.grw hgb (by intro g hg; injection hg with hg; omega)
      have hIb := hIa.off hra hgb (by omega) (by omega) (by omega)
      have hkb2 := hka2.grown hgb (by intro e; injection e with e; omega)
      have hob := hoa.kept hgb (.inr (fun e => own_blkne hoa hka (by decide) e))
      have ho1b := ho1a.kept hgb (.inr (fun e => own_blkne ho1a hka (by decide) e))
      refine L.nil ?_
      refine J.seq ?_
      refine J.region ?_
      refine L.va rfl (X.move (by conv => lhs; whnf)) ?_
      -- callfn (*bushel/bushelref11.Reader).list
      refine L.call rfl en_84 rfl (hIb.list 2 (by decide)) ?_
      rintro e wc ⟨A2, c2, rfl, ho2c, hIc, hcc⟩
      refine ⟨_, rfl, ?_⟩
      have hkc := hcc.blk hkb (by omega)
      have hkc2 := hcc.blk hkb2 (by omega)
      have yc : Below w1.heap.size wb wc := hcc.below (by omega) (fun g hg => by omega)
      have hrc := hrb.low yc (by omega)
      have hoc := hcc.own hob (fun g hg e => own_blkne hob hIb.hk (by decide) (e ▸ hg))
      have ho1c := hcc.own ho1b (fun g hg e => own_blkne ho1b hIb.hk (by decide) (e ▸ hg))
      have zc := hcc.size
      refine L.va rfl (X.fieldAddr rfl Try.underlying34 rfl sz_31 (by decide)) ?_
      -- store
      refine L.store rfl rfl (by conv => lhs; whnf) rfl sz_31 (hkc) (by first | decide | exact Nat.le_of_ble_eq_true rfl) ?_
      intro wd hkd hgd hsd
      have hkd : Blk wd b4 34 #[.slice A9 i c9, .slice A1 (sg1 zs).1.length c1, .slice A2 (sg2 zs).1.length c2, .slice none 0 0] := hkd
      have hrd := hrc.grw hgd (by intro g hg; injection hg with hg; omega)
      have hId := hIc.off hrc hgd (by omega) (by omega) (by omega)
      have hkd2 := hkc2.grown hgd (by intro e; injection e with e; omega)
      have hod := hoc.kept hgd (.inr (fun e => own_blkne hoc hkc (by decide) e))
      have ho1d := ho1c.kept hgd (.inr (fun e => own_blkne ho1c hkc (by decide) e))
      have ho2d := ho2c.kept hgd (.inr (fun e => own_blkne ho2c hkc (by decide) e))
      refine L.nil ?_
      refine J.seq ?_
      refine J.region ?_
      refine L.va rfl (X.move (by conv => lhs; whnf)) ?_
      -- callfn (*bushel/bushelref11.Reader).U
      refine L.call rfl en_82 rfl (hId.rU 15 (by decide)) ?_
      rintro e we ⟨rfl, hIe, hce⟩
      refine ⟨_, rfl, ?_⟩
      have hke := hce.blk hkd (by omega)
      have hke2 := hce.blk hkd2 (by omega)
      have hoe := hce.own hod (fun g hg e => own_blkne hod hId.hk (by decide) (e ▸ hg))
      have ho1e := hce.own ho1d (fun g hg e => own_blkne ho1d hId.hk (by decide) (e ▸ hg))
      have ho2e := hce.own ho2d (fun g hg e => own_blkne ho2d hId.hk (by decide) (e ▸ hg))
      have ze := hce.size
      have ye : Below w1.heap.size wd we := hce.below (by omega) (fun g hg => by omega)
      have hre := hrd.low ye (by omega)
      have e15 : (rdU zs 15 (rdX zs 2 (rdX zs 3 (sg0 zs).2).2).2).1 = (k3 : Int) := hk3
      rw [e15]
      have y1 : Below w1.heap.size w9 wb := ya.grown hgb (by omega) (by intro g hg; injection hg with hg; omega)
      have y2 : Below w1.heap.size w9 wd := (y1.trans yc).grown hgd (by omega) (by intro g hg; injection hg with hg; omega)
      have y3 : Below w1.heap.size w9 we := y2.trans ye
      have hxe := hx9.low y3 (by omega)
      have zxe := hxe.le
      have z9e := y3.size
      refine L.va rfl ((by first | exact X.convI rfl is_73 Try.underlying3 (by omega) | exact X.convw rfl is_73 Try.underlying3)) ?_
      refine L.va rfl (X.assign (by conv => lhs; whnf)) ?_
      refine L.nil ?_
      refine J.seq ?_
      refine J.seq ?_
      refine J.region ?_
      refine L.va rfl (X.assign (by conv => lhs; whnf)) ?_
      refine L.nil ?_
      refine J.block ?_
      -- loop
      refine J.loop (X := Nat) [9, 43, 44, 45, 46, 47, 48, 49, 50, 51, 52, 53, 54, 55] (fun j => [(9, .int .i64 (j : Int))]) (fun j w' => j ≤ k3 ∧ RdB w' b A n c zs (rdL (fun s => rdU zs 4294967295 s) j (rdU zs 15 (sg2 zs).2).2).2 ∧ w'.ownsRow w1.heap.size 88 2 (.slice A9 i c9) i (dimsV ((sg0 zs).1.map dS)) ∧ w'.ownsRow w9.heap.size 9 1 (.slice A1 (sg1 zs).1.length c1) (sg1 zs).1.length (strs ((sg1 zs).1.map strOfNums)) ∧ w'.ownsRow wb.heap.size 9 1 (.slice A2 (sg2 zs).1.length c2) (sg2 zs).1.length (strs ((sg2 zs).1.map strOfNums)) ∧ (∃ A c, Blk w' b4 34 #[.slice A9 i c9, .slice A1 (sg1 zs).1.length c1, .slice A2 (sg2 zs).1.length c2, .slice A j c] ∧ w'.ownsRow w1.heap.size 35 1 (.slice A j c) j (nums .u32 (rdL (fun s => rdU zs 4294967295 s) j (rdU zs 15 (sg2 zs).2).2).1)) ∧ Below w1.heap.size we w') (fun j => k3 - j) (0) (At1 (by first | rfl | exact at_int rfl (by omega) | exact at_slice rfl (by omega) | exact at_int rfl (by simp))) ?_ ?_
      · exact ⟨Nat.zero_le _, hIe, hoe, ho1e, ho2e, ⟨none, 0, hke, own_nil _ _ _ _⟩, Below.refl _ _⟩
      · rintro j g wf ⟨hj, hIf, hof, ho1f, ho2f, ⟨Af, cf, hkf, hovf⟩, hcf⟩
        have hkf2 := hke2.low hcf (by omega)
        have hrf := hre.low hcf (by omega)
        have zf := hcf.size
        have blf := hIf.hk.lt
        have b4f := hkf.lt
        refine J.seq ?_
        refine J.seq ?_
        refine J.region ?_
        refine L.va rfl (X.move (by conv => lhs; whnf)) ?_
        refine L.va rfl (X.move (by conv => lhs; whnf)) ?_
        refine L.va rfl (X.lss rfl rfl) ?_
        refine L.nil ?_
        -- cond
        refine J.dec rfl (fun hlt2 => ?_) (fun hlt2 => ?_)
        · have f0 := hIf.hf
          have f1 := rdU_fit hz 4294967295 (by decide) f0
          refine J.skip ?_
          refine J.seq ?_
          refine J.block ?_
          -- draw
          refine J.draw (ℓ := 8) (S := (fun w' => Blk w' b4 34 #[.slice A9 i c9, .slice A1 (sg1 zs).1.length c1, .slice A2 (sg2 zs).1.length c2, .slice Af j cf])) mixed (fun wg hSE hS_h => ?_)
          have hS : ((fun w' => Blk w' b4 34 #[.slice A9 i c9, .slice A1 (sg1 zs).1.length c1, .slice A2 (sg2 zs).1.length c2, .slice Af j cf])) wg := hkf.ext hSE
          -- t49
          have hIg := hIf.ext hSE
          have zg := hSE.le
          have hrg := hrf.ext hSE
          have hovg := hovf.ext hSE
          have hog := hof.ext hSE
          have ho1g := ho1f.ext hSE
          have ho2g := ho2f.ext hSE
          refine D.va 0 rfl (by kernel_rfl) (fun _ _ _ h => h) rfl (fun w' hw => X.fieldAddr rfl Try.underlying34 rfl sz_32 (by decide)) hS ?_
          refine D.va 1 rfl (by kernel_rfl) (fun _ _ _ h => h) rfl (fun w' hw => X.load rfl sc_32 (Ld.blk hw rfl)) hS ?_
          refine D.va 2 rfl (by kernel_rfl) (fun _ _ _ h => h) rfl (fun w' hw => X.move (by conv => lhs; whnf)) hS ?_
          -- callfn (*bushel/bushelref11.Reader).U
          refine D.one 3 (by kernel_rfl) rfl ?_
          refine L.call rfl en_82 rfl (hIg.rU 4294967295 (by decide)) ?_
          rintro e wh ⟨rfl, hIh, hch⟩
          refine ⟨_, rfl, ?_⟩
          have hS1 := hch.blk hS (by omega)
          refine L.nil ?_
          refine ⟨fun _ => hS1, ?_⟩
          have zh := hch.size
          have yh : Below w1.heap.size wg wh := hch.below (by omega) (fun g hg => by omega)
          have hrh := hrg.low yh (by omega)
          have hovh := hch.own hovg (fun g hg e => own_blkne hovg hIg.hk (by decide) (e ▸ hg))
          have hoh := hch.own hog (fun g hg e => own_blkne hog hIg.hk (by decide) (e ▸ hg))
          have ho1h := hch.own ho1g (fun g hg e => own_blkne ho1g hIg.hk (by decide) (e ▸ hg))
          have ho2h := hch.own ho2g (fun g hg e => own_blkne ho2g hIg.hk (by decide) (e ▸ hg))
          refine D.va 4 rfl (by kernel_rfl) (fun _ _ _ h => h) rfl (fun w' hw => (by first | exact X.conv32 rfl is_73 Try.underlying35 (by omega) | exact X.convw rfl is_73 Try.underlying35)) hS1 ?_
          -- buildSlice
          refine D.one 5 (by kernel_rfl) rfl ?_
          refine L.bslice (vs := [_]) rfl (Evs.cons (by conv => lhs; whnf) Evs.nil) rfl rfl rfl rfl Try.underlying32 sz_35 zr_35 (by decide) ?_
          intro bi wi hbi hsi hki hei
          have hS2 := hS1.ext hei
          refine L.nil ?_
          refine ⟨fun _ => hS2, ?_⟩
          have hovi := hovh.ext hei
          have zi := hei.le
          have hri := hrh.ext hei
          have hoi := hoh.ext hei
          have ho1i := ho1h.ext hei
          have ho2i := ho2h.ext hei
          have hIi := hIh.ext hei
          -- append
          refine D.one 6 (by kernel_rfl) rfl ?_
          refine L.appendQ (q := j + 1) (ys := (rdL (fun s => rdU zs 4294967295 s) j (rdU zs 15 (sg2 zs).2).2).1 ++ [(rdU zs 4294967295 (rdL (fun s => rdU zs 4294967295 s) j (rdU zs 15 (sg2 zs).2).2).2).1]) rfl rfl rfl Try.underlying32 el_35 (hovi) (blk_readsN (sz := 1) (q := 1) (l := nums .u32 [(rdU zs 4294967295 (rdL (fun s => rdU zs 4294967295 s) j (rdU zs 15 (sg2 zs).2).2).2).1]) hki hki.lt rfl) (by omega) (by simp) (by unfold maxLen; omega) (by omega) ?_
          intro Aj cj wj hoj hgj hbj horj
          have hS3 := hS2.grown hgj (fun e ↦ own_blkne hovi hS2 (by decide) e.symm)
          refine L.nil ?_
          refine ⟨fun _ => hS3, ?_⟩
          have hgj : wi.grownBy wj (Value.slice Af j cf).ownBlock := hgj
          have zj := hbj.size
          have hrj := hri.low hbj (by omega)
          have hIj : RdB wj b A n c zs (rdU zs 4294967295 (rdL (fun s => rdU zs 4294967295 s) j (rdU zs 15 (sg2 zs).2).2).2).2 := ⟨hIi.hk.grown hgj (fun e => own_blkne hovi hIi.hk (by decide) e.symm), hrj.more (by omega), hnc, hz, hn, hIi.hf⟩
          have hoj0 := hoi.kept hgj (own_or hoi hovi (by decide))
          have ho1j := ho1i.kept hgj (own_or ho1i hovi (by decide))
          have ho2j := ho2i.kept hgj (own_or ho2i hovi (by decide))
          refine D.va 7 rfl (by kernel_rfl) (fun _ _ _ h => h) rfl (fun w' hw => X.fieldAddr rfl Try.underlying34 rfl sz_32 (by decide)) hS3 ?_
          -- store
          refine D.one 8 (by kernel_rfl) rfl ?_
          refine L.store rfl rfl (by conv => lhs; whnf) rfl sz_32 (hS3) (by first | decide | exact Nat.le_of_ble_eq_true rfl) ?_
          intro wk hkk hgk hsk
          refine L.nil ?_
          refine ⟨fun h => absurd rfl h, ?_⟩
          have hkk : Blk wk b4 34 #[.slice A9 i c9, .slice A1 (sg1 zs).1.length c1, .slice A2 (sg2 zs).1.length c2, .slice Aj (j + 1) cj] := hkk
          refine D.done (by kernel_rfl) ?_
          refine J.region ?_
          refine L.va rfl (X.move (by conv => lhs; whnf)) ?_
          refine L.va rfl (X.add rfl rfl (by omega)) ?_
          refine L.va rfl (X.assign (by conv => lhs; whnf)) ?_
          refine L.nil ?_
          -- loopend
          refine ⟨j + 1, At1 (by first | rfl | exact at_int rfl (by omega) | exact at_slice rfl (by omega) | exact at_int rfl (by simp)), (by (iterate 14 refine Agr.lk rfl ?_); exact Agr.lk rfl (Agr.hav rfl Agr.rfl')), ?_⟩
          have k1 : Below w1.heap.size wf wi := ((Below.mono hSE (by omega)).trans yh).trans (Below.mono hei (by omega))
          have k1z := k1.size
          have k2 : Below w1.heap.size wf wk := (k1.trans hbj).grown hgk (by omega) (by intro g hg; injection hg with hg; omega)
          exact ⟨⟨by omega, hIj.off hrj hgk (by omega) (by omega) (by omega), hoj0.kept hgk (.inr (fun e => own_blkne hoj0 hS3 (by decide) e)), ho1j.kept hgk (.inr (fun e => own_blkne ho1j hS3 (by decide) e)), ho2j.kept hgk (.inr (fun e => own_blkne ho2j hS3 (by decide) e)), ⟨Aj, cj, hkk, hoj.kept hgk (.inr (fun e => own_blkne hoj hS3 (by decide) e))⟩, hcf.trans k2⟩, by omega⟩
        · obtain rfl : j = k3 := by omega
          rw [← er3] at hIf hovf
          have el3 : j = (sg3 zs).1.length := by rw [er3, rdL_length]
          subst el3
          subst el
          have hxf := hxe.low hcf (by omega)
          refine J.exit ?_
          refine J.seq ?_
          refine J.seq ?_
          refine J.region ?_
          refine L.va rfl (X.move (by conv => lhs; whnf)) ?_
          -- callfn (*bushel/bushelref11.Reader).End
          refine L.call rfl en_85 rfl (hIf.End) ?_
          rintro e wg ⟨rfl, hIg, hcg⟩
          refine ⟨_, rfl, ?_⟩
          have hkg := hcg.blk hkf (by omega)
          have hkg2 := hcg.blk hkf2 (by omega)
          have hog := hcg.own hof (fun g hg e => own_blkne hof hIf.hk (by decide) (e ▸ hg))
          have ho1g := hcg.own ho1f (fun g hg e => own_blkne ho1f hIf.hk (by decide) (e ▸ hg))
          have ho2g := hcg.own ho2f (fun g hg e => own_blkne ho2f hIf.hk (by decide) (e ▸ hg))
          have hovg := hcg.own hovf (fun g hg e => own_blkne hovf hIf.hk (by decide) (e ▸ hg))
          have hxg := hxf.low (hcg.below (B := w1.heap.size) (by omega) (fun g hg => by omega)) (by omega)
          have zg := hcg.size
          have HH := here_sg hz (cd := c9) (c1 := c1) (c2 := c2) (cv := cf) (Reads.of_own hog) (Reads.of_own ho1g) (Reads.of_own ho2g) (Reads.of_own hovg)
          have hgk := hIg.hk
          refine L.va rfl (X.neq rfl rfl) ?_
          refine L.nil ?_
          -- cond
          refine J.ndec rfl (fun h3 => ?_) (fun h3 => ?_)
          · have eg : gE zs = rdE zs (sg3 zs).2 := by unfold gE; rw [if_pos h3]
            refine J.seq ?_
            -- draw
            refine J.draw (ℓ := 1000000) (S := (fun w' => Blk w' b 128 #[.slice A n c, .int .i64 ((sg3 zs).2.1 : Int), .int .i64 (rdE zs (sg3 zs).2)])) mixed (fun wh hSE hS_h => ?_)
            have hS : ((fun w' => Blk w' b 128 #[.slice A n c, .int .i64 ((sg3 zs).2.1 : Int), .int .i64 (rdE zs (sg3 zs).2)])) wh := hgk.ext hSE
            -- t63
            refine D.va 0 rfl (by kernel_rfl) (fun _ _ _ h => h) rfl (fun w' hw => X.build (l := [_, _, _, _]) Evs.nil (bld_run Try.underlying34 (bp_34 Try.underlying34) zr_34 rfl)) hS ?_
            refine D.va 1 rfl (by kernel_rfl) (fun _ _ _ h => h) rfl (fun w' hw => X.move (by conv => lhs; whnf)) hS ?_
            refine D.va 2 rfl (by kernel_rfl) (fun _ _ _ h => h) rfl (fun w' hw => X.nilCheck rfl) hS ?_
            refine D.va 3 rfl (by kernel_rfl) (fun _ _ _ h => h) rfl (fun w' hw => X.fieldAddr rfl Try.underlying128 rfl sz_3 (by decide)) hS ?_
            refine D.va 4 rfl (by kernel_rfl) (fun _ _ _ h => h) rfl (fun w' hw => X.load rfl sc_3 (Ld.blk hw rfl)) hS ?_
            -- store
            refine D.one 5 (by kernel_rfl) rfl ?_
            refine L.storeAgg (vs := [_, _, _, _]) rfl rfl rfl rfl sz_34 (hkg2.ext hSE) rfl ?_
            intro wi hki hgi hsi
            have hS1 := hS.grown hgi (by intro e; injection e with e; omega)
            refine L.nil ?_
            refine ⟨fun _ => hS1, ?_⟩
            refine D.va 6 rfl (by kernel_rfl) (fun _ _ _ h => h) rfl (fun w' hw => X.assign (by conv => lhs; whnf)) hS1 ?_
            refine D.done (by kernel_rfl) ?_
            -- ret
            refine J.ret ?_
            refine thn_ret <| ?_
            -- results [['ResultVar.cell', 2, 34], ['ResultVar.tmp', 3]]
            refine finCT rfl (run_cell hki Try.underlying34 rfl (by kernel_rfl)) ?_
            exact SGot_bad eg h3 ((hxg.trans hSE).grw hgi (by intro g hg; injection hg with hg; omega))
          · refine J.skip ?_
            refine J.seq ?_
            refine J.seq ?_
            refine J.region ?_
            refine L.va rfl ((by first | exact X.loadAgg rfl (range_l hkg) Try.underlying34 rfl (by kernel_rfl) | exact X.loadAgg rfl (range_blk hkg) Try.underlying34 rfl (by kernel_rfl) | exact X.loadAgg rfl (range_l hkg2) Try.underlying34 rfl (by kernel_rfl) | exact X.loadAgg rfl (range_blk hkg2) Try.underlying34 rfl (by kernel_rfl))) ?_
            -- callfn bushel/bushelref11.Check
            refine L.call rfl en_42 rfl (HH.rcheck) ?_
            rintro e wh ⟨rfl, heh⟩
            refine ⟨_, rfl, ?_⟩
            have hkh := hkg.ext heh
            have hkh2 := hkg2.ext heh
            have eg : gE zs = scode (sg zs) := by unfold gE; rw [if_neg (fun hh => hh h3)]
            have ec : (Sch.mk A9 (sg0 zs).1.length c9 A1 (sg1 zs).1.length c1 A2 (sg2 zs).1.length c2 Af (sg3 zs).1.length cf ((sg0 zs).1.map dS) ((sg1 zs).1.map strOfNums) ((sg2 zs).1.map strOfNums) (sg3 zs).1).code = gE zs := eg.symm
            rw [ec]
            refine L.va rfl (X.neq rfl rfl) ?_
            refine L.nil ?_
            -- cond
            refine J.ndec rfl (fun h4 => ?_) (fun h4 => ?_)
            · refine J.seq ?_
              refine J.region ?_
              refine L.va rfl (X.build (l := [_, _, _, _]) Evs.nil (bld_run Try.underlying34 (bp_34 Try.underlying34) zr_34 rfl)) ?_
              refine L.va rfl ((by first | exact X.loadAgg rfl (range_l hkh) Try.underlying34 rfl (by kernel_rfl) | exact X.loadAgg rfl (range_blk hkh) Try.underlying34 rfl (by kernel_rfl) | exact X.loadAgg rfl (range_l hkh2) Try.underlying34 rfl (by kernel_rfl) | exact X.loadAgg rfl (range_blk hkh2) Try.underlying34 rfl (by kernel_rfl))) ?_
              -- callfn bushel/bushelref11.Check
              refine L.call rfl en_42 rfl ((HH.ext heh).rcheck) ?_
              rintro e wi ⟨rfl, hei⟩
              refine ⟨_, rfl, ?_⟩
              rw [ec]
              -- store
              refine L.storeAgg (vs := [_, _, _, _]) rfl rfl rfl rfl sz_34 (hkh2.ext hei) rfl ?_
              intro wj hkj hgj hsj
              refine L.va rfl (X.assign (by conv => lhs; whnf)) ?_
              refine L.nil ?_
              -- ret
              refine J.ret ?_
              refine thn_ret <| ?_
              -- results [['ResultVar.cell', 2, 34], ['ResultVar.tmp', 3]]
              refine finCT rfl (run_cell hkj Try.underlying34 rfl (by kernel_rfl)) ?_
              exact SGot_bad rfl h4 (((hxg.trans heh).trans hei).grw hgj (by intro g hg; injection hg with hg; omega))
            · refine J.skip ?_
              refine J.seq ?_
              refine J.region ?_
              refine L.va rfl ((by first | exact X.loadAgg rfl (range_l hkh) Try.underlying34 rfl (by kernel_rfl) | exact X.loadAgg rfl (range_blk hkh) Try.underlying34 rfl (by kernel_rfl) | exact X.loadAgg rfl (range_l hkh2) Try.underlying34 rfl (by kernel_rfl) | exact X.loadAgg rfl (range_blk hkh2) Try.underlying34 rfl (by kernel_rfl))) ?_
              -- store
              refine L.storeAgg (vs := [_, _, _, _]) rfl rfl rfl rfl sz_34 (hkh2) rfl ?_
              intro wi hki hgi hsi
              refine L.va rfl (X.assign (by conv => lhs; whnf)) ?_
              refine L.nil ?_
              -- ret
              refine J.ret ?_
              -- results [['ResultVar.cell', 2, 34], ['ResultVar.tmp', 3]]
              refine finCT rfl (run_cell hki Try.underlying34 rfl (by kernel_rfl)) ?_
              have h4' : gE zs = 0 := h4
              refine ⟨_, by rw [h4']; rfl, here_sg hz (Reads.of_own ((hog.ext heh).kept hgi (.inr (fun e => by have := hog.lt _ e; omega)))) (Reads.of_own ((ho1g.ext heh).kept hgi (.inr (fun e => by have := ho1g.lt _ e; omega)))) (Reads.of_own ((ho2g.ext heh).kept hgi (.inr (fun e => by have := ho2g.lt _ e; omega)))) (Reads.of_own ((hovg.ext heh).kept hgi (.inr (fun e => by have := hovg.lt _ e; omega)))), ?_, (hxg.trans heh).grw hgi (by intro g hg; injection hg with hg; omega)⟩
              unfold gC
              rw [if_neg (fun hh => hh h4')]
              exact ⟨rfl, rfl, rfl, rfl⟩
end Go.Proofs.Ytlohbkcedpkjaaa
