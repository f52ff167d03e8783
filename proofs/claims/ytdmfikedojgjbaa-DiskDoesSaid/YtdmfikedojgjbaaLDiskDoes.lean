/-
  The law DiskDoes, walked: every size and all deeds.
-/
import Derived.Test.YtdmfikedojgjbaaWDiskM
namespace Go.Proofs.Ytdmfikedojgjbaa
set_option maxRecDepth 100000
open Go.RowKit H
set_option linter.unusedVariables false
theorem law_DiskDoes (w : World) (x0 : Nm .i64) (A1 : Option Addr) (n1 c1 : Nat) (xs1 : List ((Nm .i64) × (Nm .i64) × (List (Nm .u8)) × (Bool) × (List (Bool)))) (hn1 : n1 ≤ c1) (hc1 : c1 ≤ maxLen) (hA1 : A1 = none → c1 = 0) (hl1 : LiesSlice w w.heap.size A1 n1 xs1) :
    Calls Try.prog 4 #[.int .i64 x0.z, .slice A1 n1 c1] w fun e w' => e = .returned (.bool true) ∧ Below w.heap.size w w' := by
  obtain ⟨ds, hds⟩ := deeds_of hl1
  have hx0 := x0.i64
  refine enter Try.func4 rfl (by kernel_rfl) ?_
  refine J.seq ?_
  refine J.region ?_
  refine L.va rfl (X.assign (by conv => lhs; whnf)) ?_
  refine L.nil ?_
  -- until
  refine J.cut (X := Unit) [4, 9, 10, 11, 12, 13, 14, 15, 16, 17, 18, 19, 20] (fun _ => []) (fun _ w' => w' = w ∧ (x0.z ≤ 64 ∨ 8192 < x0.z) ∧ lightD ds = true) ?_ ?_
  · refine J.seq ?_
    refine J.region ?_
    refine L.va rfl (X.move (by conv => lhs; whnf)) ?_
    refine L.va rfl (X.gtr rfl rfl) ?_
    refine L.va rfl (X.move (by conv => lhs; whnf)) ?_
    -- case t11
    refine L.caseDec (k := 11) rfl (fun h1 => ?_) (fun h1 => ?_)
    · refine L.va rfl (X.move (by conv => lhs; whnf)) ?_
      refine L.va rfl (X.leq rfl rfl) ?_
      refine L.va rfl (X.pickT rfl (by conv => lhs; whnf)) ?_
      refine L.va rfl (X.move (by conv => lhs; whnf)) ?_
      -- case t15
      refine L.caseDec (k := 15) rfl (fun h2 => ?_) (fun h2 => ?_)
      · refine L.no rfl ?_
        refine L.no rfl ?_
        refine L.no rfl ?_
        refine L.va rfl (X.pickT rfl (by conv => lhs; whnf)) ?_
        refine L.nil ?_
        -- cond
        refine J.iteT rfl ?_
        refine J.seq ?_
        refine J.region ?_
        -- callfn bushel/bushellaw19.awake
        refine L.call rfl en_16 rfl (awake19 w) ?_
        rintro e w1 ⟨rfl, he1⟩
        refine ⟨_, rfl, ?_⟩
        refine L.va rfl (X.assign (by conv => lhs; whnf)) ?_
        refine L.nil ?_
        -- ret
        refine J.ret ?_
        refine thn_ret <| ?_
        refine fin1 ?_
        exact ⟨rfl, he1⟩
      · refine L.va rfl (X.move (by conv => lhs; whnf)) ?_
        -- callfn bushel/bushelref19.Light
        refine L.call rfl en_15 rfl ((light_ hds (by omega))) ?_
        rintro e _ ⟨rfl, rfl⟩
        refine ⟨_, rfl, ?_⟩
        refine L.va rfl (X.not rfl) ?_
        refine L.va rfl (X.pickF rfl (by conv => lhs; whnf)) ?_
        refine L.nil ?_
        -- cond
        cases hL : lightD ds
        · refine J.iteT rfl ?_
          refine J.seq ?_
          refine J.region ?_
          -- callfn bushel/bushellaw19.awake
          refine L.call rfl en_16 rfl (awake19 w) ?_
          rintro e w1 ⟨rfl, he1⟩
          refine ⟨_, rfl, ?_⟩
          refine L.va rfl (X.assign (by conv => lhs; whnf)) ?_
          refine L.nil ?_
          -- ret
          refine J.ret ?_
          refine thn_ret <| ?_
          refine fin1 ?_
          exact ⟨rfl, he1⟩
        · refine J.iteF rfl ?_
          refine J.skip ?_
          -- cutend
          refine ⟨(), At0 , (by (iterate 13 refine Agr.lk rfl ?_); exact Agr.rfl'), ?_⟩
          exact ⟨rfl, .inr (by omega), rfl⟩
    · refine L.no rfl ?_
      refine L.no rfl ?_
      refine L.va rfl (X.pickF rfl (by conv => lhs; whnf)) ?_
      refine L.va rfl (X.move (by conv => lhs; whnf)) ?_
      refine L.va rfl (X.move (by conv => lhs; whnf)) ?_
      -- callfn bushel/bushelref19.Light
      refine L.call rfl en_15 rfl ((light_ hds (by omega))) ?_
      rintro e _ ⟨rfl, rfl⟩
      refine ⟨_, rfl, ?_⟩
      refine L.va rfl (X.not rfl) ?_
      refine L.va rfl (X.pickF rfl (by conv => lhs; whnf)) ?_
      refine L.nil ?_
      -- cond
      cases hL : lightD ds
      · refine J.iteT rfl ?_
        refine J.seq ?_
        refine J.region ?_
        -- callfn bushel/bushellaw19.awake
        refine L.call rfl en_16 rfl (awake19 w) ?_
        rintro e w1 ⟨rfl, he1⟩
        refine ⟨_, rfl, ?_⟩
        refine L.va rfl (X.assign (by conv => lhs; whnf)) ?_
        refine L.nil ?_
        -- ret
        refine J.ret ?_
        refine thn_ret <| ?_
        refine fin1 ?_
        exact ⟨rfl, he1⟩
      · refine J.iteF rfl ?_
        refine J.skip ?_
        -- cutend
        refine ⟨(), At0 , (by (iterate 12 refine Agr.lk rfl ?_); exact Agr.rfl'), ?_⟩
        exact ⟨rfl, .inl (by omega), rfl⟩
  · rintro ⟨⟩ g w0 ⟨rfl, h64, hL⟩
    refine J.seq ?_
    refine J.region ?_
    refine L.va rfl (X.move (by conv => lhs; whnf)) ?_
    -- callfn bushel/disk.New
    by_cases hr : x0.z < 1 ∨ 8192 < x0.z
    · refine L.call rfl en_17 rfl (new_2 x0.z hr) ?_
      rintro e _ ⟨rfl, rfl⟩
      refine ⟨_, rfl, ?_⟩
      refine L.va rfl (X.move (by conv => lhs; whnf)) ?_
      refine L.va rfl (X.extract rfl rfl) ?_
      refine L.va rfl (X.extract rfl rfl) ?_
      refine L.va rfl (X.assign (by conv => lhs; whnf)) ?_
      refine L.va rfl (X.assign (by conv => lhs; whnf)) ?_
      refine L.nil ?_
      refine J.seq ?_
      refine J.seq ?_
      refine J.region ?_
      refine L.va rfl (X.move (by conv => lhs; whnf)) ?_
      refine L.va rfl (X.lss rfl rfl) ?_
      refine L.va rfl (X.move (by conv => lhs; whnf)) ?_
      -- case t28
      refine L.caseDec (k := 28) rfl (fun h1 => ?_) (fun h1 => ?_)
      · refine L.no rfl ?_
        refine L.no rfl ?_
        refine L.va rfl (X.pickT rfl (by conv => lhs; whnf)) ?_
        refine L.nil ?_
        -- cond
        refine J.iteT rfl ?_
        refine J.seq ?_
        refine J.region ?_
        refine L.va rfl (X.move (by conv => lhs; whnf)) ?_
        refine L.va rfl (X.eqlPn rfl rfl (by kernel_rfl)) ?_
        refine L.va rfl (X.move (by conv => lhs; whnf)) ?_
        -- case t34
        refine L.caseBT (k := 34) rfl (by rfl) ?_
        refine L.va rfl (X.move (by conv => lhs; whnf)) ?_
        refine L.va rfl (X.eql rfl rfl) ?_
        refine L.va rfl (X.pickT rfl (by conv => lhs; whnf)) ?_
        refine L.va rfl (X.move (by conv => lhs; whnf)) ?_
        -- case t38
        refine L.caseDecT (k := 38) rfl (by rfl) ?_
        -- callfn bushel/bushellaw19.awake
        refine L.call rfl en_16 rfl (awake19 w0) ?_
        rintro e w1 ⟨rfl, he1⟩
        refine ⟨_, rfl, ?_⟩
        refine L.va rfl (X.pickT rfl (by conv => lhs; whnf)) ?_
        refine L.va rfl (X.assign (by conv => lhs; whnf)) ?_
        refine L.nil ?_
        -- ret
        refine J.ret ?_
        refine thn_ret <| ?_
        refine fin1 ?_
        exact ⟨rfl, he1⟩
      · refine L.va rfl (X.move (by conv => lhs; whnf)) ?_
        refine L.va rfl (X.gtr rfl rfl) ?_
        refine L.va rfl (X.pickF rfl (by conv => lhs; whnf)) ?_
        refine L.nil ?_
        -- cond
        refine J.decT rfl (by omega) ?_
        refine J.seq ?_
        refine J.region ?_
        refine L.va rfl (X.move (by conv => lhs; whnf)) ?_
        refine L.va rfl (X.eqlPn rfl rfl (by kernel_rfl)) ?_
        refine L.va rfl (X.move (by conv => lhs; whnf)) ?_
        -- case t34
        refine L.caseBT (k := 34) rfl (by rfl) ?_
        refine L.va rfl (X.move (by conv => lhs; whnf)) ?_
        refine L.va rfl (X.eql rfl rfl) ?_
        refine L.va rfl (X.pickT rfl (by conv => lhs; whnf)) ?_
        refine L.va rfl (X.move (by conv => lhs; whnf)) ?_
        -- case t38
        refine L.caseDecT (k := 38) rfl (by rfl) ?_
        -- callfn bushel/bushellaw19.awake
        refine L.call rfl en_16 rfl (awake19 w0) ?_
        rintro e w1 ⟨rfl, he1⟩
        refine ⟨_, rfl, ?_⟩
        refine L.va rfl (X.pickT rfl (by conv => lhs; whnf)) ?_
        refine L.va rfl (X.assign (by conv => lhs; whnf)) ?_
        refine L.nil ?_
        -- ret
        refine J.ret ?_
        refine thn_ret <| ?_
        refine fin1 ?_
        exact ⟨rfl, he1⟩
    · obtain ⟨q, hq⟩ := Int.eq_ofNat_of_zero_le (show 0 ≤ x0.z by omega)
      rw [hq]
      refine L.call rfl en_17 rfl (new_ok q (by omega)) ?_
      rintro e w1 ⟨v, rfl, hv, k1, k2, k3, k4, k5, k6, k7, he1⟩
      refine ⟨_, rfl, ?_⟩
      have he1 : Ext w0 w1 := he1
      have a0 : v.abs = ⟨(List.range q).map (fun _ => List.replicate 1024 0), [], false, -1, 0, 0, 0⟩ := by
        unfold Dk.abs abs_
        rw [show v.kp.map (·.2) = v.dat from rfl, k7, k1, k2, k3, k4, k5, k6]
        rfl
      refine L.va rfl (X.move (by conv => lhs; whnf)) ?_
      refine L.va rfl (X.extract rfl rfl) ?_
      refine L.va rfl (X.extract rfl rfl) ?_
      refine L.va rfl (X.assign (by conv => lhs; whnf)) ?_
      refine L.va rfl (X.assign (by conv => lhs; whnf)) ?_
      refine L.nil ?_
      refine J.seq ?_
      refine J.seq ?_
      refine J.region ?_
      refine L.va rfl (X.move (by conv => lhs; whnf)) ?_
      refine L.va rfl (X.lss rfl rfl) ?_
      refine L.va rfl (X.move (by conv => lhs; whnf)) ?_
      -- case t28
      refine L.caseDecF (k := 28) rfl (by omega) ?_
      refine L.va rfl (X.move (by conv => lhs; whnf)) ?_
      refine L.va rfl (X.gtr rfl rfl) ?_
      refine L.va rfl (X.pickF rfl (by conv => lhs; whnf)) ?_
      refine L.nil ?_
      -- cond
      refine J.decF rfl (by omega) ?_
      refine J.skip ?_
      refine J.seq ?_
      refine J.seq ?_
      refine J.region ?_
      refine L.va rfl (X.move (by conv => lhs; whnf)) ?_
      refine L.va rfl (X.eqlPn rfl rfl (by kernel_rfl)) ?_
      refine L.va rfl (X.move (by conv => lhs; whnf)) ?_
      -- case t43
      refine L.caseBF (k := 43) rfl (by rfl) ?_
      refine L.va rfl (X.move (by conv => lhs; whnf)) ?_
      refine L.va rfl (X.neq rfl rfl) ?_
      refine L.va rfl (X.pickF rfl (by conv => lhs; whnf)) ?_
      refine L.nil ?_
      -- cond
      refine J.iteF rfl ?_
      refine J.skip ?_
      refine J.seq ?_
      refine J.region ?_
      refine L.va rfl (X.move (by conv => lhs; whnf)) ?_
      refine L.va rfl (X.move (by conv => lhs; whnf)) ?_
      -- callfn bushel/bushelref19.New
      refine L.call rfl en_26 rfl (refnew (w := w1) q (by omega) (N0 := w0.heap.size) he1.le) ?_
      rintro e w2 ⟨r, rfl, hr2, ar, he2, hK2⟩
      refine ⟨_, rfl, ?_⟩
      have he2 : Ext w1 w2 := he2
      have hv2 := hv.ext he2
      have hne : r.K.ownBlock ≠ some v.kb := fun e => by
        have := hK2 _ e
        have := (hv.hk.lt v.kb rfl).2
        omega
      have hok : r.abs.Ok 0 := by
        rw [ar]
        refine ⟨by simp; omega, ?_, (fun x hx => by cases hx), by simp, by dsimp only; omega⟩
        intro x hx
        obtain ⟨_, _, rfl⟩ := List.mem_map.1 hx
        simp
      refine L.va rfl (X.move (by conv => lhs; whnf)) ?_
      -- callfn bushel/bushellaw19.plays
      refine L.call rfl en_25 rfl ((hv2.plays_ (Nat.le_refl _) hr2 hne (by rw [a0, ar]) hok (by omega) ds A1 n1 c1 (hds.low (he1.trans he2)) hL)) ?_
      rintro e w3 ⟨v', r', rfl, hP⟩
      refine ⟨_, rfl, ?_⟩
      have he3 : Ext w0 w3 := Below.trans (he1.trans he2) (hv2.below hP.hk)
      refine L.va rfl (X.move (by conv => lhs; whnf)) ?_
      refine L.va rfl (X.extract rfl rfl) ?_
      refine L.va rfl (X.extract rfl rfl) ?_
      -- alloc
      refine L.alloc rfl zr_44 ?_
      intro b4 w4 hb4 hs4 hk4 he4
      -- store
      refine L.storeAgg (vs := [_, _, _, _, _, _, _]) rfl rfl rfl rfl sz_44 (hk4) rfl ?_
      intro w5 hk5 hg5 hs5
      have he5 : Ext w0 w5 := (he3.trans he4).grw hg5 (by intro g hg; injection hg with hg; have := he3.le; omega)
      refine L.va rfl (X.assign (by conv => lhs; whnf)) ?_
      refine L.nil ?_
      refine J.seq ?_
      refine J.region ?_
      refine L.va rfl (X.move (by conv => lhs; whnf)) ?_
      refine L.va rfl (X.move (by conv => lhs; whnf)) ?_
      -- case t56
      refine L.caseBT (k := 56) rfl (by rfl) ?_
      -- callfn bushel/bushellaw19.awake
      refine L.call rfl en_16 rfl (awake19 w5) ?_
      rintro e w6 ⟨rfl, he6⟩
      refine ⟨_, rfl, ?_⟩
      refine L.va rfl (X.pickT rfl (by conv => lhs; whnf)) ?_
      refine L.va rfl (X.assign (by conv => lhs; whnf)) ?_
      refine L.nil ?_
      -- ret
      refine J.ret ?_
      refine fin1 ?_
      exact ⟨rfl, he5.trans he6⟩
end Go.Proofs.Ytdmfikedojgjbaa
