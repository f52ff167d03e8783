/-
  The law DiskNobody, walked: every deed.
-/
import Derived.Test.YtdmfikedojgjbaaWDiskN
namespace Go.Proofs.Ytdmfikedojgjbaa
set_option maxRecDepth 100000
open Go.RowKit H
set_option linter.unusedVariables false
theorem law_DiskNobody (w : World) (vs0 : List Value) (a0 : (Nm .i64) × (Nm .i64) × (List (Nm .u8)) × (Bool) × (List (Bool))) (hl0 : Lay.lies w w.heap.size vs0 a0) :
    Calls Try.prog 7 #[.agg vs0.toArray] w fun e w' => e = .returned (.bool true) ∧ Below w.heap.size w w' := by
  obtain ⟨x, rfl, hx⟩ : ∃ x : Dm, vs0 = x.vals ∧ x.At w.heap.size w := by
    obtain ⟨u1, v1, rfl, e1, u2, v2, rfl, e2, u3, v3, rfl, ⟨dA, dn, dc, rfl, k1, k2, _, k3⟩, u4, v4, rfl, e4, kA, kn, kc, rfl, m1, m2, _, m3⟩ := hl0
    obtain rfl : u1 = [.int .i64 a0.1.z] := e1
    obtain rfl : u2 = [.int .i64 a0.2.1.z] := e2
    obtain rfl : u4 = [.bool a0.2.2.2.1] := e4
    exact ⟨⟨a0.1.z, a0.2.1.z, dA, dn, dc, a0.2.2.2.1, kA, kn, kc, zsOf a0.2.2.1, a0.2.2.2.2⟩, rfl, k3.reads, m3.bools, zsOf_u8 _, a0.2.1.i64, by dsimp only; omega⟩
  refine enter Try.func7 rfl (by kernel_rfl) ?_
  refine J.seq ?_
  refine J.region ?_
  -- box
  refine L.boxA (l := [_, _, _, _, _]) rfl rfl ?_
  intro b1 w1 hb1 hs1 hk1 he1
  refine L.va rfl (X.assign (by conv => lhs; whnf)) ?_
  refine L.nil ?_
  refine J.seq ?_
  refine J.seq ?_
  refine J.region ?_
  refine L.va rfl ((by first | exact X.loadAgg rfl (range_l hk1) Try.underlying34 rfl (by kernel_rfl) | exact X.loadAgg rfl (range_blk hk1) Try.underlying34 rfl (by kernel_rfl))) ?_
  -- buildSlice
  refine L.bslice1 (l := [_, _, _, _, _]) rfl rfl rfl Try.underlying22 sz_34 zr_34 rfl ?_
  intro b2 w2 hb2 hs2 hk2 he2
  have he02 := he1.trans he2
  have hk12 := hk1.ext he2
  have X2 := hx.low he02
  have hds : DmsAt [x] (some ⟨b2, 0, none⟩) 1 w2.heap.size w2 := ⟨blk_readsN hk2 hk2.lt rfl, fun y hy => by
    obtain rfl : y = x := by simpa using hy
    have z := he02.le
    exact ⟨X2.hd.more z, X2.hk.more z, X2.hb, X2.hn, X2.hl⟩, rfl⟩
  -- callfn bushel/bushelref19.Light
  refine L.call rfl en_15 rfl ((light_ hds (by decide))) ?_
  rintro e _ ⟨rfl, rfl⟩
  refine ⟨_, rfl, ?_⟩
  refine L.va rfl (X.not rfl) ?_
  refine L.nil ?_
  -- cond
  refine J.ite rfl (fun hL => ?_) (fun hL => ?_)
  · refine J.seq ?_
    refine J.region ?_
    -- callfn bushel/bushellaw19.awake
    refine L.call rfl en_16 rfl (awake19 w2) ?_
    rintro e w3 ⟨rfl, he3⟩
    refine ⟨_, rfl, ?_⟩
    refine L.va rfl (X.assign (by conv => lhs; whnf)) ?_
    refine L.nil ?_
    -- ret
    refine J.ret ?_
    refine thn_ret <| ?_
    refine fin1 ?_
    exact ⟨rfl, he02.trans he3⟩
  · have hL' : lightD [x] = true := by simpa using hL
    have hlx := (light_of hL').2 x (by simp)
    refine J.skip ?_
    refine J.seq ?_
    refine J.seq ?_
    refine J.region ?_
    refine L.va rfl (X.assign (by conv => lhs; whnf)) ?_
    refine L.nil ?_
    refine J.block ?_
    -- loop
    refine J.loop (X := Nat) [2, 3, 4, 5, 6, 7, 8, 9, 15, 16, 17, 18, 19, 20, 21, 22, 23, 24, 25, 26, 27, 28, 29, 30, 31, 32, 33, 34, 35, 36, 37, 38, 39, 40, 41, 42, 43, 44, 45, 46, 47, 48, 49, 50, 51, 52, 53, 54, 55, 56, 57, 58, 59, 60, 61, 62, 63, 64, 65, 66, 67, 68, 69, 70, 71, 72, 73, 74, 75, 76, 77, 78, 79, 80, 81, 82, 83, 84, 85, 86, 87, 88] (fun k => [(3, .int .i64 (k : Int))]) (fun k w' => k ≤ 2 ∧ Ext w2 w') (fun k => 2 - k) (0) (At1 (by first | rfl | exact at_int rfl (by omega) | exact at_slice rfl (by omega) | exact at_int rfl (by simp))) ?_ ?_
    · exact ⟨by omega, Ext.refl _⟩
    · rintro k g w3 ⟨hk, he3⟩
      have hk13 := hk12.ext he3
      have he03 := he02.trans he3
      have X3 := hx.low he03
      refine J.seq ?_
      refine J.seq ?_
      refine J.region ?_
      refine L.va rfl (X.move (by conv => lhs; whnf)) ?_
      refine L.va rfl (X.lss rfl rfl) ?_
      refine L.nil ?_
      -- cond
      refine J.dec rfl (fun hlt => ?_) (fun hlt => ?_)
      · refine J.skip ?_
        refine J.seq ?_
        refine J.block ?_
        refine J.seq ?_
        refine J.region ?_
        refine L.va rfl (X.assign (by conv => lhs; whnf)) ?_
        refine L.nil ?_
        -- until
        refine J.cut (X := Value) [4, 19, 20, 21, 22] (fun p => [(4, p)]) (fun p w' => Closed p w' ∧ Ext w3 w') ?_ ?_
        · refine J.seq ?_
          refine J.region ?_
          refine L.va rfl (X.move (by conv => lhs; whnf)) ?_
          refine L.va rfl (X.eql rfl rfl) ?_
          refine L.nil ?_
          -- cond
          refine J.dec rfl (fun h1 => ?_) (fun h1 => ?_)
          · refine J.region ?_
            refine L.va rfl (X.build (l := [_, _, _, _, _, _, _, _]) Evs.nil (bld_run Try.underlying58 (bp_58 Try.underlying58) zr_58 rfl)) ?_
            -- box
            refine L.boxA (l := [_, _, _, _, _, _, _, _]) rfl rfl ?_
            intro b4 w4 hb4 hs4 hk4 he4
            refine L.va rfl (X.assign (by conv => lhs; whnf)) ?_
            refine L.nil ?_
            -- cutend
            refine ⟨(.pointer (some ⟨b4, 0, none⟩)), At1 (rfl), (by (iterate 5 refine Agr.lk rfl ?_); exact Agr.rfl'), ?_⟩
            exact ⟨.inr ⟨b4, rfl, hk4⟩, he4⟩
          · refine J.skip ?_
            -- cutend
            refine ⟨(.pointer none), At1 (rfl), (by (iterate 2 refine Agr.lk rfl ?_); exact Agr.rfl'), ?_⟩
            exact ⟨.inl rfl, Ext.refl _⟩
        · rintro p g w4 ⟨hp, he4⟩
          have hk14 := hk13.ext he4
          have X4 := hx.low (he03.trans he4)
          have z4 := (he03.trans he4).le
          refine J.seq ?_
          refine J.region ?_
          refine L.va rfl (X.move (by conv => lhs; whnf)) ?_
          refine L.va rfl ((by first | exact X.loadAgg rfl (range_l hk14) Try.underlying34 rfl (by kernel_rfl) | exact X.loadAgg rfl (range_blk hk14) Try.underlying34 rfl (by kernel_rfl))) ?_
          -- callfn bushel/bushellaw19.Do
          refine L.call rfl en_18 rfl ((hp.lawdo x X4 z4 (by omega))) ?_
          rintro e w5 ⟨rfl, he5⟩
          refine ⟨_, rfl, ?_⟩
          have hk15 := hk14.ext he5
          have hp5 := hp.ext he5
          refine L.va rfl (X.move (by conv => lhs; whnf)) ?_
          refine L.va rfl (X.extract rfl rfl) ?_
          refine L.va rfl (X.extract rfl rfl) ?_
          refine L.va rfl (X.assign (by conv => lhs; whnf)) ?_
          refine L.va rfl (X.assign (by conv => lhs; whnf)) ?_
          refine L.nil ?_
          refine J.seq ?_
          refine J.region ?_
          refine L.va rfl (X.move (by conv => lhs; whnf)) ?_
          -- callfn (*bushel/disk.Disk).Counts
          refine L.call rfl en_30 rfl (hp5.counts_) ?_
          rintro e _ ⟨rfl, rfl⟩
          refine ⟨_, rfl, ?_⟩
          refine L.va rfl (X.move (by conv => lhs; whnf)) ?_
          refine L.va rfl (X.extract rfl rfl) ?_
          refine L.va rfl (X.extract rfl rfl) ?_
          refine L.va rfl (X.extract rfl rfl) ?_
          refine L.va rfl (X.assign (by conv => lhs; whnf)) ?_
          refine L.va rfl (X.assign (by conv => lhs; whnf)) ?_
          refine L.va rfl (X.assign (by conv => lhs; whnf)) ?_
          refine L.nil ?_
          -- until
          refine J.cut (X := Unit) [35, 36, 37, 38, 39, 40, 41, 42, 43, 44, 45, 46, 47, 48, 49, 50, 51, 52, 53, 54, 55, 56, 57, 58, 59, 60, 61, 62, 63, 64, 65, 66, 67, 68, 69, 70, 71, 72, 73, 74, 75, 76, 77, 78, 79, 80, 81, 82, 83, 84, 85, 86, 87, 88] (fun _ => [(88, .bool false)]) (fun _ w' => w' = w5) ?_ ?_
          · refine J.region ?_
            refine L.va rfl (X.move (by conv => lhs; whnf)) ?_
            refine L.va rfl (X.len rfl Try.underlying30) ?_
            refine L.va rfl (X.neq rfl rfl) ?_
            refine L.va rfl (X.move (by conv => lhs; whnf)) ?_
            -- case t38
            refine L.caseNdecF (k := 38) rfl (by rfl) ?_
            refine L.va rfl (X.fieldAddr rfl Try.underlying34 rfl sz_3 (by decide)) ?_
            refine L.va rfl (X.load rfl sc_3 (by first | exact Ld.blk hk15 rfl)) ?_
            refine L.va rfl (X.geq rfl rfl) ?_
            refine L.va rfl (X.move (by conv => lhs; whnf)) ?_
            -- case t42
            by_cases hk2 : 0 ≤ x.kind ∧ x.kind ≤ 2
            · rw [if_pos hk2]
              refine L.caseDecT (k := 42) rfl (by omega) ?_
              refine L.va rfl (X.fieldAddr rfl Try.underlying34 rfl sz_3 (by decide)) ?_
              refine L.va rfl (X.load rfl sc_3 (by first | exact Ld.blk hk15 rfl)) ?_
              refine L.va rfl (X.leq rfl rfl) ?_
              refine L.va rfl (X.pickT rfl (by conv => lhs; whnf)) ?_
              refine L.va rfl (X.move (by conv => lhs; whnf)) ?_
              -- case t47
              refine L.caseDecT (k := 47) rfl (by omega) ?_
              refine L.va rfl (X.move (by conv => lhs; whnf)) ?_
              refine L.va rfl (X.neq rfl rfl) ?_
              refine L.va rfl (X.pickT rfl (by conv => lhs; whnf)) ?_
              refine L.va rfl (X.pickF rfl (by conv => lhs; whnf)) ?_
              refine L.va rfl (X.move (by conv => lhs; whnf)) ?_
              -- case t52
              refine L.caseNdecF (k := 52) rfl (by rfl) ?_
              refine L.va rfl (X.move (by conv => lhs; whnf)) ?_
              refine L.va rfl (X.neq rfl rfl) ?_
              refine L.va rfl (X.pickF rfl (by conv => lhs; whnf)) ?_
              refine L.va rfl (X.move (by conv => lhs; whnf)) ?_
              -- case t56
              refine L.caseNdecF (k := 56) rfl (by rfl) ?_
              refine L.va rfl (X.move (by conv => lhs; whnf)) ?_
              refine L.va rfl (X.neq rfl rfl) ?_
              refine L.va rfl (X.pickF rfl (by conv => lhs; whnf)) ?_
              refine L.va rfl (X.move (by conv => lhs; whnf)) ?_
              -- case t60
              refine L.caseNdecF (k := 60) rfl (by rfl) ?_
              refine L.va rfl (X.move (by conv => lhs; whnf)) ?_
              refine L.va rfl (X.neq rfl rfl) ?_
              refine L.va rfl (X.pickF rfl (by conv => lhs; whnf)) ?_
              refine L.va rfl (X.move (by conv => lhs; whnf)) ?_
              -- case t64
              refine L.caseNdecF (k := 64) rfl (by rfl) ?_
              refine L.va rfl (X.move (by conv => lhs; whnf)) ?_
              -- callfn (*bushel/disk.Disk).Len
              refine L.call rfl en_31 rfl (hp5.len_) ?_
              rintro e _ ⟨rfl, rfl⟩
              refine ⟨_, rfl, ?_⟩
              refine L.va rfl (X.neq rfl rfl) ?_
              refine L.va rfl (X.pickF rfl (by conv => lhs; whnf)) ?_
              refine L.va rfl (X.move (by conv => lhs; whnf)) ?_
              -- case t69
              refine L.caseNdecF (k := 69) rfl (by rfl) ?_
              refine L.va rfl (X.move (by conv => lhs; whnf)) ?_
              -- callfn (*bushel/disk.Disk).Pending
              refine L.call rfl en_23 rfl (hp5.pending_) ?_
              rintro e _ ⟨rfl, rfl⟩
              refine ⟨_, rfl, ?_⟩
              refine L.va rfl (X.neq rfl rfl) ?_
              refine L.va rfl (X.pickF rfl (by conv => lhs; whnf)) ?_
              refine L.va rfl (X.move (by conv => lhs; whnf)) ?_
              -- case t74
              refine L.caseNdecF (k := 74) rfl (by rfl) ?_
              refine L.va rfl (X.move (by conv => lhs; whnf)) ?_
              -- callfn (*bushel/disk.Disk).Off
              refine L.call rfl en_22 rfl (hp5.off_) ?_
              rintro e _ ⟨rfl, rfl⟩
              refine ⟨_, rfl, ?_⟩
              refine L.va rfl (X.pickF rfl (by conv => lhs; whnf)) ?_
              refine L.va rfl (X.move (by conv => lhs; whnf)) ?_
              -- case t78
              refine L.caseBF (k := 78) rfl (by rfl) ?_
              refine L.va rfl (X.move (by conv => lhs; whnf)) ?_
              -- callfn (*bushel/disk.Disk).Image
              refine L.call rfl en_20 rfl (hp5.image_) ?_
              rintro e _ ⟨rfl, rfl⟩
              refine ⟨_, rfl, ?_⟩
              refine L.va rfl (X.len rfl Try.underlying30) ?_
              refine L.va rfl (X.neq rfl rfl) ?_
              refine L.va rfl (X.pickF rfl (by conv => lhs; whnf)) ?_
              refine L.va rfl (X.move (by conv => lhs; whnf)) ?_
              -- case t84
              refine L.caseNdecF (k := 84) rfl (by rfl) ?_
              refine L.va rfl (X.move (by conv => lhs; whnf)) ?_
              -- callfn (*bushel/disk.Disk).Clone
              refine L.call rfl en_29 rfl (hp5.clone_) ?_
              rintro e _ ⟨rfl, rfl⟩
              refine ⟨_, rfl, ?_⟩
              refine L.va rfl (X.neqPn rfl rfl (by kernel_rfl)) ?_
              refine L.va rfl (X.pickF rfl (by conv => lhs; whnf)) ?_
              refine L.nil ?_
              -- cutend
              refine ⟨(), At1 (rfl), (by (iterate 65 refine Agr.lk rfl ?_); exact Agr.rfl'), ?_⟩
              rfl
            · rw [if_neg hk2]
              refine L.caseDec (k := 42) rfl (fun hge => ?_) (fun hge => ?_)
              · refine L.va rfl (X.fieldAddr rfl Try.underlying34 rfl sz_3 (by decide)) ?_
                refine L.va rfl (X.load rfl sc_3 (by first | exact Ld.blk hk15 rfl)) ?_
                refine L.va rfl (X.leq rfl rfl) ?_
                refine L.va rfl (X.pickT rfl (by conv => lhs; whnf)) ?_
                refine L.va rfl (X.move (by conv => lhs; whnf)) ?_
                -- case t47
                refine L.caseDecF (k := 47) rfl (by omega) ?_
                refine L.no rfl ?_
                refine L.no rfl ?_
                refine L.va rfl (X.pickF rfl (by conv => lhs; whnf)) ?_
                refine L.va rfl (X.pickF rfl (by conv => lhs; whnf)) ?_
                refine L.va rfl (X.move (by conv => lhs; whnf)) ?_
                refine L.va rfl (X.move (by conv => lhs; whnf)) ?_
                refine L.va rfl (X.neq rfl rfl) ?_
                refine L.va rfl (X.pickF rfl (by conv => lhs; whnf)) ?_
                refine L.va rfl (X.move (by conv => lhs; whnf)) ?_
                -- case t56
                refine L.caseNdecF (k := 56) rfl (by rfl) ?_
                refine L.va rfl (X.move (by conv => lhs; whnf)) ?_
                refine L.va rfl (X.neq rfl rfl) ?_
                refine L.va rfl (X.pickF rfl (by conv => lhs; whnf)) ?_
                refine L.va rfl (X.move (by conv => lhs; whnf)) ?_
                -- case t60
                refine L.caseNdecF (k := 60) rfl (by rfl) ?_
                refine L.va rfl (X.move (by conv => lhs; whnf)) ?_
                refine L.va rfl (X.neq rfl rfl) ?_
                refine L.va rfl (X.pickF rfl (by conv => lhs; whnf)) ?_
                refine L.va rfl (X.move (by conv => lhs; whnf)) ?_
                -- case t64
                refine L.caseNdecF (k := 64) rfl (by rfl) ?_
                refine L.va rfl (X.move (by conv => lhs; whnf)) ?_
                -- callfn (*bushel/disk.Disk).Len
                refine L.call rfl en_31 rfl (hp5.len_) ?_
                rintro e _ ⟨rfl, rfl⟩
                refine ⟨_, rfl, ?_⟩
                refine L.va rfl (X.neq rfl rfl) ?_
                refine L.va rfl (X.pickF rfl (by conv => lhs; whnf)) ?_
                refine L.va rfl (X.move (by conv => lhs; whnf)) ?_
                -- case t69
                refine L.caseNdecF (k := 69) rfl (by rfl) ?_
                refine L.va rfl (X.move (by conv => lhs; whnf)) ?_
                -- callfn (*bushel/disk.Disk).Pending
                refine L.call rfl en_23 rfl (hp5.pending_) ?_
                rintro e _ ⟨rfl, rfl⟩
                refine ⟨_, rfl, ?_⟩
                refine L.va rfl (X.neq rfl rfl) ?_
                refine L.va rfl (X.pickF rfl (by conv => lhs; whnf)) ?_
                refine L.va rfl (X.move (by conv => lhs; whnf)) ?_
                -- case t74
                refine L.caseNdecF (k := 74) rfl (by rfl) ?_
                refine L.va rfl (X.move (by conv => lhs; whnf)) ?_
                -- callfn (*bushel/disk.Disk).Off
                refine L.call rfl en_22 rfl (hp5.off_) ?_
                rintro e _ ⟨rfl, rfl⟩
                refine ⟨_, rfl, ?_⟩
                refine L.va rfl (X.pickF rfl (by conv => lhs; whnf)) ?_
                refine L.va rfl (X.move (by conv => lhs; whnf)) ?_
                -- case t78
                refine L.caseBF (k := 78) rfl (by rfl) ?_
                refine L.va rfl (X.move (by conv => lhs; whnf)) ?_
                -- callfn (*bushel/disk.Disk).Image
                refine L.call rfl en_20 rfl (hp5.image_) ?_
                rintro e _ ⟨rfl, rfl⟩
                refine ⟨_, rfl, ?_⟩
                refine L.va rfl (X.len rfl Try.underlying30) ?_
                refine L.va rfl (X.neq rfl rfl) ?_
                refine L.va rfl (X.pickF rfl (by conv => lhs; whnf)) ?_
                refine L.va rfl (X.move (by conv => lhs; whnf)) ?_
                -- case t84
                refine L.caseNdecF (k := 84) rfl (by rfl) ?_
                refine L.va rfl (X.move (by conv => lhs; whnf)) ?_
                -- callfn (*bushel/disk.Disk).Clone
                refine L.call rfl en_29 rfl (hp5.clone_) ?_
                rintro e _ ⟨rfl, rfl⟩
                refine ⟨_, rfl, ?_⟩
                refine L.va rfl (X.neqPn rfl rfl (by kernel_rfl)) ?_
                refine L.va rfl (X.pickF rfl (by conv => lhs; whnf)) ?_
                refine L.nil ?_
                -- cutend
                refine ⟨(), At1 (rfl), (by (iterate 64 refine Agr.lk rfl ?_); exact Agr.rfl'), ?_⟩
                rfl
              · refine L.no rfl ?_
                refine L.no rfl ?_
                refine L.no rfl ?_
                refine L.va rfl (X.pickF rfl (by conv => lhs; whnf)) ?_
                refine L.va rfl (X.move (by conv => lhs; whnf)) ?_
                refine L.no rfl ?_
                refine L.no rfl ?_
                refine L.va rfl (X.pickF rfl (by conv => lhs; whnf)) ?_
                refine L.va rfl (X.pickF rfl (by conv => lhs; whnf)) ?_
                refine L.va rfl (X.move (by conv => lhs; whnf)) ?_
                refine L.va rfl (X.move (by conv => lhs; whnf)) ?_
                refine L.va rfl (X.neq rfl rfl) ?_
                refine L.va rfl (X.pickF rfl (by conv => lhs; whnf)) ?_
                refine L.va rfl (X.move (by conv => lhs; whnf)) ?_
                -- case t56
                refine L.caseNdecF (k := 56) rfl (by rfl) ?_
                refine L.va rfl (X.move (by conv => lhs; whnf)) ?_
                refine L.va rfl (X.neq rfl rfl) ?_
                refine L.va rfl (X.pickF rfl (by conv => lhs; whnf)) ?_
                refine L.va rfl (X.move (by conv => lhs; whnf)) ?_
                -- case t60
                refine L.caseNdecF (k := 60) rfl (by rfl) ?_
                refine L.va rfl (X.move (by conv => lhs; whnf)) ?_
                refine L.va rfl (X.neq rfl rfl) ?_
                refine L.va rfl (X.pickF rfl (by conv => lhs; whnf)) ?_
                refine L.va rfl (X.move (by conv => lhs; whnf)) ?_
                -- case t64
                refine L.caseNdecF (k := 64) rfl (by rfl) ?_
                refine L.va rfl (X.move (by conv => lhs; whnf)) ?_
                -- callfn (*bushel/disk.Disk).Len
                refine L.call rfl en_31 rfl (hp5.len_) ?_
                rintro e _ ⟨rfl, rfl⟩
                refine ⟨_, rfl, ?_⟩
                refine L.va rfl (X.neq rfl rfl) ?_
                refine L.va rfl (X.pickF rfl (by conv => lhs; whnf)) ?_
                refine L.va rfl (X.move (by conv => lhs; whnf)) ?_
                -- case t69
                refine L.caseNdecF (k := 69) rfl (by rfl) ?_
                refine L.va rfl (X.move (by conv => lhs; whnf)) ?_
                -- callfn (*bushel/disk.Disk).Pending
                refine L.call rfl en_23 rfl (hp5.pending_) ?_
                rintro e _ ⟨rfl, rfl⟩
                refine ⟨_, rfl, ?_⟩
                refine L.va rfl (X.neq rfl rfl) ?_
                refine L.va rfl (X.pickF rfl (by conv => lhs; whnf)) ?_
                refine L.va rfl (X.move (by conv => lhs; whnf)) ?_
                -- case t74
                refine L.caseNdecF (k := 74) rfl (by rfl) ?_
                refine L.va rfl (X.move (by conv => lhs; whnf)) ?_
                -- callfn (*bushel/disk.Disk).Off
                refine L.call rfl en_22 rfl (hp5.off_) ?_
                rintro e _ ⟨rfl, rfl⟩
                refine ⟨_, rfl, ?_⟩
                refine L.va rfl (X.pickF rfl (by conv => lhs; whnf)) ?_
                refine L.va rfl (X.move (by conv => lhs; whnf)) ?_
                -- case t78
                refine L.caseBF (k := 78) rfl (by rfl) ?_
                refine L.va rfl (X.move (by conv => lhs; whnf)) ?_
                -- callfn (*bushel/disk.Disk).Image
                refine L.call rfl en_20 rfl (hp5.image_) ?_
                rintro e _ ⟨rfl, rfl⟩
                refine ⟨_, rfl, ?_⟩
                refine L.va rfl (X.len rfl Try.underlying30) ?_
                refine L.va rfl (X.neq rfl rfl) ?_
                refine L.va rfl (X.pickF rfl (by conv => lhs; whnf)) ?_
                refine L.va rfl (X.move (by conv => lhs; whnf)) ?_
                -- case t84
                refine L.caseNdecF (k := 84) rfl (by rfl) ?_
                refine L.va rfl (X.move (by conv => lhs; whnf)) ?_
                -- callfn (*bushel/disk.Disk).Clone
                refine L.call rfl en_29 rfl (hp5.clone_) ?_
                rintro e _ ⟨rfl, rfl⟩
                refine ⟨_, rfl, ?_⟩
                refine L.va rfl (X.neqPn rfl rfl (by kernel_rfl)) ?_
                refine L.va rfl (X.pickF rfl (by conv => lhs; whnf)) ?_
                refine L.nil ?_
                -- cutend
                refine ⟨(), At1 (rfl), (by (iterate 63 refine Agr.lk rfl ?_); exact Agr.rfl'), ?_⟩
                rfl
          · rintro ⟨⟩ g w6 rfl
            -- cond
            refine J.iteF rfl ?_
            refine J.skip ?_
            refine J.region ?_
            refine L.va rfl (X.move (by conv => lhs; whnf)) ?_
            refine L.va rfl (X.add rfl rfl (by omega)) ?_
            refine L.va rfl (X.assign (by conv => lhs; whnf)) ?_
            refine L.nil ?_
            -- loopend
            refine ⟨k + 1, At1 (by first | rfl | exact at_int rfl (by omega) | exact at_slice rfl (by omega) | exact at_int rfl (by simp)), (by (iterate 3 refine Agr.lk rfl ?_); refine Agr.lk rfl ?_; refine Agr.hav rfl ?_; (iterate 17 refine Agr.lk rfl ?_); refine Agr.lk rfl ?_; refine Agr.hav rfl ?_; (iterate 3 refine Agr.lk rfl ?_); exact Agr.lk rfl (Agr.hav rfl Agr.rfl')), ?_⟩
            exact ⟨⟨by omega, (he3.trans he4).trans he5⟩, by omega⟩
      · refine J.exit ?_
        refine J.seq ?_
        refine J.region ?_
        -- callfn bushel/bushellaw19.awake
        refine L.call rfl en_16 rfl (awake19 w3) ?_
        rintro e w4 ⟨rfl, he4⟩
        refine ⟨_, rfl, ?_⟩
        refine L.va rfl (X.assign (by conv => lhs; whnf)) ?_
        refine L.nil ?_
        -- ret
        refine J.ret ?_
        refine fin1 ?_
        exact ⟨rfl, he03.trans he4⟩
end Go.Proofs.Ytdmfikedojgjbaa
