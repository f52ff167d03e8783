/-
  The law SealGets, walked.
-/
import Derived.Test.YtfgkbghagklacaaDoorWSealI
import Derived.Test.YtfgkbghagklacaaDoorLSealSame
namespace Go.Proofs.YtfgkbghagklacaaDoor
open Go.RowKit H
open Byts Seal
open Fram (getD_nn)
set_option linter.unusedVariables false
theorem _root_.Go.Proofs.YtfgkbghagklacaaDoor.Tab.ext {w w' : World} (h : Tab w) (he : Ext w w') : Tab w' := h.below he (Nat.le_refl _)
set_option maxRecDepth 100000 in
set_option maxHeartbeats 1000000 in
theorem law_SealGets (w : World) (ht : Tab w) (A0 : Option Addr) (n0 c0 : Nat) (xs0 : List (Nm .u8)) (hn0 : n0 ≤ c0) (hc0 : c0 ≤ maxLen) (hA0 : A0 = none → c0 = 0) (hl0 : LiesSlice w w.heap.size A0 n0 xs0) (x1 : Bool) :
    Calls Tryd.prog 10 #[.slice A0 n0 c0, .bool x1] w fun e w' => e = .returned (.bool true) ∧ Below w.heap.size w w' := by
  have hr := hl0.reads
  have hz := zsOf_u8 xs0
  generalize zsOf xs0 = zs at hr hz
  unfold maxLen at hc0
  have hl : zs.length = n0 := by have := hr.1; simpa [nums] using this
  have ho : Ext w w := Ext.refl w
  refine enter Tryd.func10 rfl (by kernel_rfl) ?_
  refine J.seq ?_
  refine J.region ?_
  refine L.va rfl (X.assign (by conv => lhs; whnf)) ?_
  refine L.nil ?_
  refine J.seq ?_
  refine J.seq ?_
  refine J.region ?_
  refine L.va rfl (X.move (by conv => lhs; whnf)) ?_
  refine L.va rfl (X.len rfl Tryd.underlying22) ?_
  refine L.va rfl (X.gtr rfl rfl) ?_
  refine L.nil ?_
  -- cond
  refine J.dec rfl (fun h3 => ?_) (fun h3 => ?_)
  · refine J.seq ?_
    refine J.region ?_
    -- callfn bushel/bushellaw20.awake
    refine L.call rfl en_21 rfl (awake20 _ ht) ?_
    rintro e w1 ⟨rfl, hb⟩
    refine ⟨_, rfl, ?_⟩
    refine L.va rfl (X.assign (by conv => lhs; whnf)) ?_
    refine L.nil ?_
    -- ret
    refine J.ret ?_
    refine thn_ret <| ?_
    refine fin1 ?_
    exact ⟨rfl, hb⟩
  · refine J.skip ?_
    refine J.seq ?_
    refine J.region ?_
    -- buildSlice
    refine L.bslice (vs := []) rfl Evs.nil rfl rfl rfl rfl Tryd.underlying22 sz_5 zr_5 (by decide) ?_
    intro b1 w1 hb1 hs1 hk1 he1
    replace ho := ho.ext he1
    have hz1 := ho.le
    have ho1 : w1.ownsRow w.heap.size 5 1 (.slice (some ⟨b1, 0, none⟩) 0 0) 0 (nums .u8 []) := blk_own1 hk1 (by omega) (by decide) rfl
    refine L.va rfl (X.move (by conv => lhs; whnf)) ?_
    -- append
    refine L.appendQ (q := n0) (ys := zs) rfl rfl rfl Tryd.underlying22 el_5 (ho1) (hr.ext ho) (by omega) (by simp) (by unfold maxLen; omega) (by omega) ?_
    intro A2 c2 w2 ho2 hg2 hb2 hor2
    replace ho := ho.low hb2 (Nat.le_refl _)
    have hz2 := ho.le
    have hc2 := own_bd ho2
    unfold maxLen at hc2
    refine L.va rfl (X.assign (by conv => lhs; whnf)) ?_
    refine L.nil ?_
    -- until
    refine J.cut (X := Option Addr × Nat × Nat × List Int) [5, 6, 18, 19, 20, 21, 22, 23, 24, 25, 26, 27, 28, 29, 30, 31, 32, 33, 34, 35, 36, 37, 38, 39, 40, 41] (fun x => [(5, .slice x.1 x.2.1 x.2.2.1)]) (fun x w' => w'.ownsRow w.heap.size 5 1 (.slice x.1 x.2.1 x.2.2.1) x.2.1 (nums .u8 x.2.2.2) ∧ (∀ z ∈ x.2.2.2, 0 ≤ z ∧ z < 256) ∧ Ext w w' ∧ x.2.1 ≤ 5000) ?_ ?_
    · refine J.seq ?_
      refine J.region ?_
      refine L.va rfl (X.move (by conv => lhs; whnf)) ?_
      refine L.va rfl (X.move (by conv => lhs; whnf)) ?_
      -- case t19
      refine L.caseB (k := 19) rfl (fun hf => ?_) (fun hf => ?_)
      · refine L.va rfl (X.move (by conv => lhs; whnf)) ?_
        refine L.va rfl (X.len rfl Tryd.underlying22) ?_
        refine L.va rfl (X.geq rfl rfl) ?_
        refine L.va rfl (X.pickT rfl (by conv => lhs; whnf)) ?_
        refine L.nil ?_
        -- cond
        refine J.dec rfl (fun hge => ?_) (fun hge => ?_)
        · refine J.seq ?_
          refine J.region ?_
          refine L.va rfl (X.move (by conv => lhs; whnf)) ?_
          refine L.va rfl ((by first | exact X.sliceTon (j := 1020) rfl rfl Tryd.underlying22 sz_5 (by omega) | exact X.sliceTo rfl rfl Tryd.underlying22 sz_5 (by omega))) ?_
          -- callfn bushel/bushelref06.Sum
          refine L.call rfl en_16 rfl (refsum_any _ 1020 _ (zs.take 1020) _ (own_reads (own_cutN ho2 (k := 1020) (by omega))) (fun z h => hz z (List.mem_of_mem_take h)) (by omega)) ?_
          rintro e _ ⟨rfl, rfl⟩
          refine ⟨_, rfl, ?_⟩
          refine L.va rfl (X.assign (by conv => lhs; whnf)) ?_
          refine L.nil ?_
          refine J.region ?_
          refine L.va rfl (X.move (by conv => lhs; whnf)) ?_
          refine L.va rfl ((by first | exact X.sliceTon (j := 1020) rfl rfl Tryd.underlying22 sz_5 (by omega) | exact X.sliceTo rfl rfl Tryd.underlying22 sz_5 (by omega))) ?_
          refine L.va rfl (X.move (by conv => lhs; whnf)) ?_
          refine L.va rfl ((by first | exact X.conv8 rfl is_23 Tryd.underlying5 (by omega) | exact X.convw rfl is_23 Tryd.underlying5)) ?_
          refine L.va rfl (X.move (by conv => lhs; whnf)) ?_
          refine L.va rfl (X.shr rfl rfl (by omega)) ?_
          refine L.va rfl ((by first | exact X.conv8 rfl is_23 Tryd.underlying5 (by omega) | exact X.convw rfl is_23 Tryd.underlying5)) ?_
          refine L.va rfl (X.move (by conv => lhs; whnf)) ?_
          refine L.va rfl (X.shr rfl rfl (by omega)) ?_
          refine L.va rfl ((by first | exact X.conv8 rfl is_23 Tryd.underlying5 (by omega) | exact X.convw rfl is_23 Tryd.underlying5)) ?_
          refine L.va rfl (X.move (by conv => lhs; whnf)) ?_
          refine L.va rfl (X.shr rfl rfl (by omega)) ?_
          refine L.va rfl ((by first | exact X.conv8 rfl is_23 Tryd.underlying5 (by omega) | exact X.convw rfl is_23 Tryd.underlying5)) ?_
          -- buildSlice
          refine L.bslice (vs := [_, _, _, _]) rfl (Evs.cons (by conv => lhs; whnf) (Evs.cons (by conv => lhs; whnf) (Evs.cons (by conv => lhs; whnf) (Evs.cons (by conv => lhs; whnf) Evs.nil)))) rfl rfl rfl rfl Tryd.underlying22 sz_5 zr_5 (by decide) ?_
          intro b4 w4 hb4 hs4 hk4 he4
          replace ho := ho.ext he4
          have hz4 := ho.le
          -- append
          refine L.appendQ (q := 1024) (ys := _) rfl rfl rfl Tryd.underlying22 el_5 (own_cutN (ho2.ext he4) (k := 1020) (by omega)) (blk_reads (l := nums .u8 [_, _, _, _]) hk4 (Nat.lt_succ_self _) rfl) (by omega) rfl (by unfold maxLen; omega) (by omega) ?_
          intro A5 c5 w5 ho5 hg5 hb5 hor5
          replace ho := ho.low hb5 (Nat.le_refl _)
          refine L.va rfl (X.assign (by conv => lhs; whnf)) ?_
          refine L.nil ?_
          -- cutend
          obtain ⟨ys, hyb, ho5⟩ : ∃ ys, (∀ z ∈ ys, 0 ≤ z ∧ z < 256) ∧ w5.ownsRow w.heap.size 5 1 (.slice A5 1024 c5) 1024 (nums .u8 ys) := by
            refine ⟨_, ?_, ho5⟩
            intro z hzm
            simp only [List.mem_append, List.mem_cons, List.not_mem_nil, or_false] at hzm
            rcases hzm with h | rfl | rfl | rfl | rfl
            · exact hz z (List.mem_of_mem_take h)
            all_goals exact wrap8 _
          refine ⟨(A5, 1024, c5, ys), At1 (by first | rfl | exact at_int rfl (by omega) | exact at_slice rfl (by omega) | exact at_int rfl (by simp)), (by (iterate 27 refine Agr.lk rfl ?_); exact Agr.rfl'), ?_⟩
          exact ⟨ho5, hyb, ho, (by omega : 1024 ≤ 5000)⟩
        · refine J.skip ?_
          -- cutend
          refine ⟨(A2, n0, c2, zs), At1 (by first | rfl | exact at_int rfl (by omega) | exact at_slice rfl (by omega) | exact at_int rfl (by simp)), (by (iterate 7 refine Agr.lk rfl ?_); exact Agr.rfl'), ?_⟩
          exact ⟨ho2, hz, ho, (by omega : n0 ≤ 5000)⟩
      · refine L.no rfl ?_
        refine L.no rfl ?_
        refine L.no rfl ?_
        refine L.va rfl (X.pickF rfl (by conv => lhs; whnf)) ?_
        refine L.nil ?_
        -- cond
        refine J.iteF rfl ?_
        refine J.skip ?_
        -- cutend
        refine ⟨(A2, n0, c2, zs), At1 (by first | rfl | exact at_int rfl (by omega) | exact at_slice rfl (by omega) | exact at_int rfl (by simp)), (by (iterate 7 refine Agr.lk rfl ?_); exact Agr.rfl'), ?_⟩
        exact ⟨ho2, hz, ho, (by omega : n0 ≤ 5000)⟩
    · rintro ⟨A3, m, c3, ys⟩ g w3 ⟨ho3, hy, ho, hm⟩
      have hc3 := own_bd ho3
      unfold maxLen at hc3
      simp only at hm hc3 hy
      have hly : ys.length = m := by have := ho3.1; simpa [nums] using this
      have hz3 := ho.le
      refine J.seq ?_
      refine J.region ?_
      refine L.va rfl (X.move (by conv => lhs; whnf)) ?_
      -- callfn bushel/seal.Get
      refine L.call rfl en_29 rfl (sget_any A3 m c3 ys _ (ht.ext ho) (own_reads ho3) hy hc3.1 hc3.2) ?_
      rintro e w4 ⟨A4, c4, rfl, hr4, he4⟩
      refine ⟨_, rfl, ?_⟩
      have he4 : Ext w3 w4 := he4
      replace ho := ho.trans he4
      have ho4 := ho3.ext he4
      generalize hl4 : (sV smZ ys).length = q4 at hr4
      refine L.va rfl (X.move (by conv => lhs; whnf)) ?_
      refine L.va rfl (X.extract rfl rfl) ?_
      refine L.va rfl (X.extract rfl rfl) ?_
      -- alloc
      refine L.alloc rfl zr_35 ?_
      intro b5 w5 hb5 hs5 hk5 he5
      replace ho := ho.trans he5
      replace hr4 := hr4.ext he5
      have ho5 := ho4.ext he5
      -- store
      refine L.storeAgg (vs := [_, _, _, _]) rfl rfl rfl rfl sz_35 (hk5) rfl ?_
      intro w6 hk6 hg6 hs6
      have hz5 := ho.le
      replace ho := ho.grw hg6 (by intro g hg; injection hg with hg; have := he4.le; omega)
      replace hr4 := hr4.grw hg6 (by intro g hg; injection hg with hg; omega)
      have ho6 := ho5.kept hg6 (.inr (own_blk_ne ho5 hk5 (by decide)))
      refine L.va rfl (X.assign (by conv => lhs; whnf)) ?_
      refine L.nil ?_
      refine J.seq ?_
      refine J.region ?_
      refine L.va rfl (X.move (by conv => lhs; whnf)) ?_
      -- callfn bushel/bushelref20.Get
      refine L.call rfl en_30 rfl (srefget_any A3 m c3 ys _ (own_reads ho6) hy hc3.1 hc3.2) ?_
      rintro e w7 ⟨A7, c7, rfl, hr7, he7⟩
      refine ⟨_, rfl, ?_⟩
      have he7 : Ext w6 w7 := he7
      replace ho := ho.trans he7
      replace hr4 := hr4.ext he7
      replace hk6 := hk6.ext he7
      have ho7 := ho6.ext he7
      rw [hl4] at hr7
      rw [hl4]
      refine L.va rfl (X.move (by conv => lhs; whnf)) ?_
      refine L.va rfl (X.extract rfl rfl) ?_
      refine L.va rfl (X.extract rfl rfl) ?_
      -- alloc
      refine L.alloc rfl zr_35 ?_
      intro b8 w8 hb8 hs8 hk8 he8
      replace ho := ho.trans he8
      replace hr4 := hr4.ext he8
      replace hr7 := hr7.ext he8
      replace hk6 := hk6.ext he8
      have ho8 := ho7.ext he8
      have hz8 := ho.le
      -- store
      refine L.storeAgg (vs := [_, _, _, _]) rfl rfl rfl rfl sz_35 (hk8) rfl ?_
      intro w9 hk9 hg9 hs9
      replace ho := ho.grw hg9 (by intro g hg; injection hg with hg; have := he7.le; omega)
      replace hr4 := hr4.grw hg9 (by intro g hg; injection hg with hg; have := he7.le; omega)
      replace hr7 := hr7.grw hg9 (by intro g hg; injection hg with hg; omega)
      replace hk6 := hk6.grown hg9 (by intro hg; injection hg with hg; have := he7.le; omega)
      have ho9 := ho8.kept hg9 (.inr (own_blk_ne ho8 hk8 (by decide)))
      have hVz := sV_bytes smZ ys hy
      have hq4 : q4 ≤ 9223372036854775807 := by
        rw [← hl4]; unfold sV
        split
        · simp; omega
        · simp
      have cSame : ∀ w', Ext w9 w' → Calls Tryd.prog 23 #[.agg #[.int .i64 (sK smZ ys), .int .u64 (sA smZ ys), .int .u64 (sB smZ ys), .slice A4 q4 c4], .agg #[.int .i64 (sK smZ ys), .int .u64 (sA smZ ys), .int .u64 (sB smZ ys), .slice A7 q4 c7]] w' fun e w'' => e = .returned (.bool true) ∧ Ext w' w'' := by
        intro w' hw'
        have := refsame_any (sK smZ ys) (sA smZ ys) (sB smZ ys) (sK smZ ys) (sA smZ ys) (sB smZ ys) A4 A7 q4 c4 q4 c7 (sV smZ ys) (sV smZ ys) w' ((hr4.ext hw').here (by omega)) ((hr7.ext hw').here (by omega)) hVz hVz hq4 hq4
        simp only [beq_self_eq_true, Bool.and_self] at this
        exact this
      by_cases hsE : sE smZ ys = 0
      · have hn : m = 1024 ∧ ys.drop 1020 = smZ (ys.take 1020) ∧ ¬ (ys.getD 0 0 = 0 ∨ 1001 < sN ys) ∧ ¬ ∃ z ∈ sT ys, z ≠ 0 := by
          have h := hsE
          unfold sE at h
          split at h
          · cases h
          · rename_i h1
            split at h
            · cases h
            · rename_i h2
              split at h
              · cases h
              · rename_i h3
                split at h
                · cases h
                · rename_i h4
                  exact ⟨by omega, Classical.not_not.1 h2, h3, h4⟩
        obtain ⟨hm1, hsum, hzn, hnT⟩ := hn
        have hsec := (sec_same smZ smZ_length ys hy (by omega) hsum (by omega)).2 hnT
        have eK : sK smZ ys = ys.getD 0 0 := by unfold sK; rw [if_pos hsE]
        have eA : sA smZ ys = num ((ys.drop 1).take 8) := by unfold sA; rw [if_pos hsE]
        have eB : sB smZ ys = num ((ys.drop 9).take 8) := by unfold sB; rw [if_pos hsE]
        have eV : sV smZ ys = (ys.drop 19).take (sN ys).toNat := by unfold sV; rw [if_pos hsE]
        rw [← eK, ← eA, ← eB, ← eV] at hsec
        obtain ⟨a0, a1⟩ := num_mid hy 1 8 (by omega)
        obtain ⟨b0, b1⟩ := num_mid hy 9 8 (by omega)
        rw [← eA] at a0 a1
        rw [← eB] at b0 b1
        obtain ⟨z0, z1⟩ := getD_nn hy 0
        have hq : q4 ≤ 1001 := by
          rw [← hl4, eV, List.length_take]
          have := (sN_bd hy).1
          omega
        rw [hsE]
        refine L.va rfl (X.assign (by conv => lhs; whnf)) ?_
        refine L.nil ?_
        refine J.seq ?_
        -- draw
        refine J.draw (S := Ext w9) mixed (fun wa hS hS_h => ?_)
        -- t68
        refine D.va 0 rfl (by kernel_rfl) (fun _ _ _ h => h) rfl (fun w' hw => X.move (by conv => lhs; whnf)) hS ?_
        refine D.va 1 rfl (by kernel_rfl) (fun _ _ _ h => h) rfl (fun w' hw => X.move (by conv => lhs; whnf)) hS ?_
        refine D.va 2 rfl (by kernel_rfl) (fun _ _ _ h => h) rfl (fun w' hw => X.eql rfl rfl) hS ?_
        refine D.va 3 rfl (by kernel_rfl) (fun _ _ _ h => h) rfl (fun w' hw => X.move (by conv => lhs; whnf)) hS ?_
        -- case t55
        refine D.caseDecT (k := 55) rfl (by rfl) ?_
        refine D.va 4 rfl (by kernel_rfl) (fun _ _ _ h => h) rfl (fun w' hw => (by first | exact X.loadAgg rfl (range_l (hk6.ext hw)) Tryd.underlying35 rfl (by kernel_rfl) | exact X.loadAgg rfl (range_blk (hk6.ext hw)) Tryd.underlying35 rfl (by kernel_rfl) | exact X.loadAgg rfl (range_l (hk9.ext hw)) Tryd.underlying35 rfl (by kernel_rfl) | exact X.loadAgg rfl (range_blk (hk9.ext hw)) Tryd.underlying35 rfl (by kernel_rfl))) hS ?_
        refine D.va 5 rfl (by kernel_rfl) (fun _ _ _ h => h) rfl (fun w' hw => (by first | exact X.loadAgg rfl (range_l (hk6.ext hw)) Tryd.underlying35 rfl (by kernel_rfl) | exact X.loadAgg rfl (range_blk (hk6.ext hw)) Tryd.underlying35 rfl (by kernel_rfl) | exact X.loadAgg rfl (range_l (hk9.ext hw)) Tryd.underlying35 rfl (by kernel_rfl) | exact X.loadAgg rfl (range_blk (hk9.ext hw)) Tryd.underlying35 rfl (by kernel_rfl))) hS ?_
        -- callfn bushel/bushelref20.Same
        refine D.one 6 (by kernel_rfl) rfl ?_
        refine L.call rfl en_23 rfl (cSame _ hS) ?_
        rintro e wb ⟨rfl, heb⟩
        refine ⟨_, rfl, ?_⟩
        have hS1 := hS.trans heb
        refine L.nil ?_
        refine ⟨hS1, ?_⟩
        refine D.va 7 rfl (by kernel_rfl) (fun _ _ _ h => h) rfl (fun w' hw => X.pickT rfl (by conv => lhs; whnf)) hS1 ?_
        refine D.va 8 rfl (by kernel_rfl) (fun _ _ _ h => h) rfl (fun w' hw => X.move (by conv => lhs; whnf)) hS1 ?_
        -- case t60
        refine D.caseBT (k := 60) rfl (by rfl) ?_
        refine D.va 9 rfl (by kernel_rfl) (fun _ _ _ h => h) rfl (fun w' hw => X.move (by conv => lhs; whnf)) hS1 ?_
        refine D.va 10 rfl (by kernel_rfl) (fun _ _ _ h => h) rfl (fun w' hw => X.neq rfl rfl) hS1 ?_
        refine D.va 11 rfl (by kernel_rfl) (fun _ _ _ h => h) rfl (fun w' hw => X.move (by conv => lhs; whnf)) hS1 ?_
        -- case t63
        refine D.caseNdecF (k := 63) rfl (by simp) ?_
        refine D.va 12 rfl (by kernel_rfl) (fun _ _ _ h => h) rfl (fun w' hw => (by first | exact X.loadAgg rfl (range_l (hk6.ext hw)) Tryd.underlying35 rfl (by kernel_rfl) | exact X.loadAgg rfl (range_blk (hk6.ext hw)) Tryd.underlying35 rfl (by kernel_rfl) | exact X.loadAgg rfl (range_l (hk9.ext hw)) Tryd.underlying35 rfl (by kernel_rfl) | exact X.loadAgg rfl (range_blk (hk9.ext hw)) Tryd.underlying35 rfl (by kernel_rfl))) hS1 ?_
        refine D.va 15 rfl (by kernel_rfl) (fun _ _ _ h => h) rfl (fun w' hw => X.move (by conv => lhs; whnf)) hS1 ?_
        refine D.va 16 rfl (by kernel_rfl) (fun _ _ _ h => h) rfl (fun w' hw => X.conv rfl ((own_reads (ho9.ext hw)).conv Tryd.underlying22 Tryd.underlying5 Tryd.underlying9)) hS1 ?_
        -- callfn bushel/bushelref20.Put
        refine D.one 13 (by kernel_rfl) rfl ?_
        refine L.call rfl en_31 rfl (frefput20 _ _ _ A4 q4 c4 (sV smZ ys) _ (by omega) (by omega) a0 a1 b0 b1 hq ((hr4.ext hS1).here (by omega)) hVz) ?_
        rintro e wc ⟨Ac, cc, rfl, hoc, hec⟩
        refine ⟨_, rfl, ?_⟩
        have hS2 := hS1.trans hec
        refine L.nil ?_
        refine ⟨hS2, ?_⟩
        rw [hsec] at hoc
        -- convert
        refine D.one 14 (by kernel_rfl) rfl ?_
        refine L.va rfl (X.conv rfl ((own_reads hoc).conv Tryd.underlying22 Tryd.underlying5 Tryd.underlying9)) ?_
        refine L.nil ?_
        refine ⟨hS2, ?_⟩
        refine D.va 17 rfl (by kernel_rfl) (fun _ _ _ h => h) rfl (fun w' hw => X.eqlS rfl rfl) hS2 ?_
        refine D.va 18 rfl (by kernel_rfl) (fun _ _ _ h => h) rfl (fun w' hw => X.pickF rfl (by conv => lhs; whnf)) hS2 ?_
        refine D.va 19 rfl (by kernel_rfl) (fun _ _ _ h => h) rfl (fun w' hw => X.pickT rfl (by conv => lhs; whnf)) hS2 ?_
        refine D.va 20 rfl (by kernel_rfl) (fun _ _ _ h => h) rfl (fun w' hw => X.move (by conv => lhs; whnf)) hS2 ?_
        -- case t72
        refine D.caseDecT (k := 72) rfl (by rfl) ?_
        -- callfn bushel/bushellaw20.awake
        refine D.one 21 (by kernel_rfl) rfl ?_
        refine L.call rfl en_21 rfl (awake20 _ ((ht.ext ho).ext hS2)) ?_
        rintro e wd ⟨rfl, hed⟩
        refine ⟨_, rfl, ?_⟩
        have hS3 := hS2.trans hed
        refine L.nil ?_
        refine ⟨hS3, ?_⟩
        refine D.va 22 rfl (by kernel_rfl) (fun _ _ _ h => h) rfl (fun w' hw => X.pickT rfl (by conv => lhs; whnf)) hS3 ?_
        refine D.va 23 rfl (by kernel_rfl) (fun _ _ _ h => h) rfl (fun w' hw => X.assign (by conv => lhs; whnf)) hS3 ?_
        refine D.done (by kernel_rfl) ?_
        replace hk6 := hk6.ext hS3
        replace hk9 := hk9.ext hS3
        replace hr4 := hr4.ext hS3
        replace ho9 := ho9.ext hS3
        replace ho := ho.ext hS3
        -- ret
        refine J.ret ?_
        refine fin1 ?_
        exact ⟨rfl, ho⟩
      · refine L.va rfl (X.assign (by conv => lhs; whnf)) ?_
        refine L.nil ?_
        refine J.seq ?_
        -- draw
        refine J.draw (S := Ext w9) mixed (fun wa hS hS_h => ?_)
        refine D.va 0 rfl (by kernel_rfl) (fun _ _ _ h => h) rfl (fun w' hw => X.move (by conv => lhs; whnf)) hS ?_
        refine D.va 1 rfl (by kernel_rfl) (fun _ _ _ h => h) rfl (fun w' hw => X.move (by conv => lhs; whnf)) hS ?_
        refine D.va 2 rfl (by kernel_rfl) (fun _ _ _ h => h) rfl (fun w' hw => X.eql rfl rfl) hS ?_
        refine D.va 3 rfl (by kernel_rfl) (fun _ _ _ h => h) rfl (fun w' hw => X.move (by conv => lhs; whnf)) hS ?_
        -- case t55
        refine D.caseDecT (k := 55) rfl (by rfl) ?_
        refine D.va 4 rfl (by kernel_rfl) (fun _ _ _ h => h) rfl (fun w' hw => (by first | exact X.loadAgg rfl (range_l (hk6.ext hw)) Tryd.underlying35 rfl (by kernel_rfl) | exact X.loadAgg rfl (range_blk (hk6.ext hw)) Tryd.underlying35 rfl (by kernel_rfl) | exact X.loadAgg rfl (range_l (hk9.ext hw)) Tryd.underlying35 rfl (by kernel_rfl) | exact X.loadAgg rfl (range_blk (hk9.ext hw)) Tryd.underlying35 rfl (by kernel_rfl))) hS ?_
        refine D.va 5 rfl (by kernel_rfl) (fun _ _ _ h => h) rfl (fun w' hw => (by first | exact X.loadAgg rfl (range_l (hk6.ext hw)) Tryd.underlying35 rfl (by kernel_rfl) | exact X.loadAgg rfl (range_blk (hk6.ext hw)) Tryd.underlying35 rfl (by kernel_rfl) | exact X.loadAgg rfl (range_l (hk9.ext hw)) Tryd.underlying35 rfl (by kernel_rfl) | exact X.loadAgg rfl (range_blk (hk9.ext hw)) Tryd.underlying35 rfl (by kernel_rfl))) hS ?_
        -- callfn bushel/bushelref20.Same
        refine D.one 6 (by kernel_rfl) rfl ?_
        refine L.call rfl en_23 rfl (cSame _ hS) ?_
        rintro e wb ⟨rfl, heb⟩
        refine ⟨_, rfl, ?_⟩
        have hS1 := hS.trans heb
        refine L.nil ?_
        refine ⟨hS1, ?_⟩
        refine D.va 7 rfl (by kernel_rfl) (fun _ _ _ h => h) rfl (fun w' hw => X.pickT rfl (by conv => lhs; whnf)) hS1 ?_
        refine D.va 8 rfl (by kernel_rfl) (fun _ _ _ h => h) rfl (fun w' hw => X.move (by conv => lhs; whnf)) hS1 ?_
        -- case t60
        refine D.caseBT (k := 60) rfl (by rfl) ?_
        refine D.va 9 rfl (by kernel_rfl) (fun _ _ _ h => h) rfl (fun w' hw => X.move (by conv => lhs; whnf)) hS1 ?_
        refine D.va 10 rfl (by kernel_rfl) (fun _ _ _ h => h) rfl (fun w' hw => X.neq rfl rfl) hS1 ?_
        refine D.va 11 rfl (by kernel_rfl) (fun _ _ _ h => h) rfl (fun w' hw => X.move (by conv => lhs; whnf)) hS1 ?_
        -- case t63
        refine D.caseNdecT (k := 63) rfl (by exact hsE) ?_
        refine D.no 12 rfl (by kernel_rfl) (fun _ _ _ h => h) rfl hS1 ?_
        refine D.no 13 rfl (by kernel_rfl) (fun _ _ _ h => h) rfl hS1 ?_
        refine D.no 14 rfl (by kernel_rfl) (fun _ _ _ h => h) rfl hS1 ?_
        refine D.no 15 rfl (by kernel_rfl) (fun _ _ _ h => h) rfl hS1 ?_
        refine D.no 16 rfl (by kernel_rfl) (fun _ _ _ h => h) rfl hS1 ?_
        refine D.no 17 rfl (by kernel_rfl) (fun _ _ _ h => h) rfl hS1 ?_
        refine D.va 18 rfl (by kernel_rfl) (fun _ _ _ h => h) rfl (fun w' hw => X.pickT rfl (by conv => lhs; whnf)) hS1 ?_
        refine D.va 19 rfl (by kernel_rfl) (fun _ _ _ h => h) rfl (fun w' hw => X.pickT rfl (by conv => lhs; whnf)) hS1 ?_
        refine D.va 20 rfl (by kernel_rfl) (fun _ _ _ h => h) rfl (fun w' hw => X.move (by conv => lhs; whnf)) hS1 ?_
        -- callfn bushel/bushellaw20.awake
        refine D.one 21 (by kernel_rfl) rfl ?_
        refine L.call rfl en_21 rfl (awake20 _ ((ht.ext ho).ext hS1)) ?_
        rintro e wc ⟨rfl, hec⟩
        refine ⟨_, rfl, ?_⟩
        have hS2 := hS1.trans hec
        refine L.nil ?_
        refine ⟨hS2, ?_⟩
        refine D.va 22 rfl (by kernel_rfl) (fun _ _ _ h => h) rfl (fun w' hw => X.pickT rfl (by conv => lhs; whnf)) hS2 ?_
        refine D.va 23 rfl (by kernel_rfl) (fun _ _ _ h => h) rfl (fun w' hw => X.assign (by conv => lhs; whnf)) hS2 ?_
        refine D.done (by kernel_rfl) ?_
        replace hk6 := hk6.ext hS2
        replace hk9 := hk9.ext hS2
        replace hr4 := hr4.ext hS2
        replace ho9 := ho9.ext hS2
        replace ho := ho.ext hS2
        -- ret
        refine J.ret ?_
        refine fin1 ?_
        exact ⟨rfl, ho⟩
end Go.Proofs.YtfgkbghagklacaaDoor
