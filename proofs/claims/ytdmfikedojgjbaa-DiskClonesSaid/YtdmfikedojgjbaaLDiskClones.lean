/-
  The law DiskClones, walked: all deeds.
-/
import Derived.Test.YtdmfikedojgjbaaWDiskM
namespace Go.Proofs.Ytdmfikedojgjbaa
set_option maxRecDepth 100000
open Go.RowKit H
set_option linter.unusedVariables false
namespace Dk
variable {v u : Dk} {N N' : Nat} {C C' : Nat → Prop} {w w' : World}
/-- all but the pending writes' own block may be kept -/
theorem At.reC (h : v.At N C w) : v.At N (fun g => g < w.heap.size ∧ v.pend.ownBlock ≠ some g) w :=
  ⟨h.hb, h.hk, h.hp, fun g hg hC => hC.2 hg, fun g hC => hC.1, fun g hg => ⟨by have := h.nsz; omega, fun e => by have := (h.hp.lt g e).1; omega⟩, h.kd, h.pd, h.hN, h.h1, h.hl⟩
/-- another disk stays as it is -/
theorem At.other (hu : u.At N C w) (hv : v.At N' C' w) (k : Kq v.kb v.d C' w w') (h1 : u.kb ≠ v.kb) (h2 : u.d ≠ v.d) (h3 : ∀ g, u.pend.ownBlock = some g → C' g) : u.At N C w' := by
  have own : ∀ {e sz n : Nat} {x : Value} {xs : List Value}, w.ownsRow N e sz x n xs → (∀ g, x.ownBlock = some g → g ≠ v.kb ∧ g ≠ v.d ∧ C' g ∨ g ≠ v.kb ∧ g ≠ v.d ∧ e ≠ 123) → w'.ownsRow N e sz x n xs := by
    intro e sz n x xs h hg
    refine ⟨h.1, ?_⟩
    rcases h.2 with h | ⟨b, cap, cur, rfl, hb, hh, h4⟩
    · exact .inl h
    · refine .inr ⟨b, cap, cur, rfl, hb, ?_, h4⟩
      rcases hg b rfl with ⟨q1, q2, q3⟩ | ⟨q1, q2, q3⟩
      · exact k.same (t := 0) hh q1 q2 (fun _ => q3)
      · exact k.same (t := 0) hh q1 q2 (fun ht => absurd ((show IsT w b _ from ⟨cur, hh⟩).fun_ ht) q3)
  refine ⟨k.same (t := 0) hu.hb (fun e => ?_) h2 (fun ht => absurd (hu.hb.isT.fun_ ht) (by decide)), own hu.hk (fun g hg => .inr ⟨?_, ?_, by decide⟩), own hu.hp (fun g hg => .inl ⟨?_, ?_, h3 g hg⟩), hu.hC, fun g hg => Nat.lt_of_lt_of_le (hu.hL g hg) k.size, hu.hCN, fun x hx => (hu.kd x hx).kq hv k, fun x hx => ⟨(hu.pd x hx).1, (hu.pd x hx).2.kq hv k⟩, hu.hN, hu.h1, hu.hl⟩
  · exact absurd (hu.hb.isT.fun_ (e ▸ hv.kT.1)) (by decide)
  · have hg : some u.kb = some g := hg
    injection hg with hg
    subst hg
    exact h1
  · have hg : some u.kb = some g := hg
    injection hg with hg
    intro e
    subst hg
    exact absurd (hu.kT.1.fun_ (e ▸ hv.dT)) (by decide)
  · intro e
    exact absurd ((own_isT hu.hp hg).1.fun_ (e ▸ hv.kT.1)) (by decide)
  · intro e
    exact absurd ((own_isT hu.hp hg).1.fun_ (e ▸ hv.dT)) (by decide)
end Dk
theorem law_DiskClones (w : World) (A0 : Option Addr) (n0 c0 : Nat) (xs0 : List ((Nm .i64) × (Nm .i64) × (List (Nm .u8)) × (Bool) × (List (Bool)))) (hn0 : n0 ≤ c0) (hc0 : c0 ≤ maxLen) (hA0 : A0 = none → c0 = 0) (hl0 : LiesSlice w w.heap.size A0 n0 xs0) (A1 : Option Addr) (n1 c1 : Nat) (xs1 : List ((Nm .i64) × (Nm .i64) × (List (Nm .u8)) × (Bool) × (List (Bool)))) (hn1 : n1 ≤ c1) (hc1 : c1 ≤ maxLen) (hA1 : A1 = none → c1 = 0) (hl1 : LiesSlice w w.heap.size A1 n1 xs1) (A2 : Option Addr) (n2 c2 : Nat) (xs2 : List ((Nm .i64) × (Nm .i64) × (List (Nm .u8)) × (Bool) × (List (Bool)))) (hn2 : n2 ≤ c2) (hc2 : c2 ≤ maxLen) (hA2 : A2 = none → c2 = 0) (hl2 : LiesSlice w w.heap.size A2 n2 xs2) :
    Calls Try.prog 6 #[.slice A0 n0 c0, .slice A1 n1 c1, .slice A2 n2 c2] w fun e w' => e = .returned (.bool true) ∧ Below w.heap.size w w' := by
  obtain ⟨ds0, hd0⟩ := deeds_of hl0
  obtain ⟨ds1, hd1⟩ := deeds_of hl1
  obtain ⟨ds2, hd2⟩ := deeds_of hl2
  refine enter Try.func6 rfl (by kernel_rfl) ?_
  refine J.seq ?_
  refine J.region ?_
  refine L.va rfl (X.assign (by conv => lhs; whnf)) ?_
  refine L.nil ?_
  -- until
  refine J.cut (X := Unit) [6, 16, 17, 18, 19, 20, 21, 22, 23, 24, 25, 26, 27, 28, 29] (fun _ => []) (fun _ w' => w' = w ∧ lightD ds0 = true ∧ lightD ds1 = true ∧ lightD ds2 = true) ?_ ?_
  · refine J.seq ?_
    refine J.region ?_
    refine L.va rfl (X.move (by conv => lhs; whnf)) ?_
    -- callfn bushel/bushelref19.Light
    refine L.call rfl en_15 rfl ((light_ hd0 (by omega))) ?_
    rintro e _ ⟨rfl, rfl⟩
    refine ⟨_, rfl, ?_⟩
    refine L.va rfl (X.not rfl) ?_
    refine L.va rfl (X.move (by conv => lhs; whnf)) ?_
    -- case t19
    refine L.caseB (k := 19) rfl (fun h0 => ?_) (fun h0 => ?_)
    · refine L.no rfl ?_
      refine L.no rfl ?_
      refine L.no rfl ?_
      refine L.va rfl (X.pickT rfl (by conv => lhs; whnf)) ?_
      refine L.va rfl (X.move (by conv => lhs; whnf)) ?_
      refine L.no rfl ?_
      refine L.no rfl ?_
      refine L.no rfl ?_
      refine L.va rfl (X.pickT rfl (by conv => lhs; whnf)) ?_
      refine L.nil ?_
      -- cond
      refine J.iteT rfl ?_
      refine J.seq ?_
      refine J.region ?_
      -- callfn bushel/bushellaw19.awake
      refine L.call rfl en_16 rfl (awake19 w) ?_
      rintro e w1 ⟨rfl, he1⟩
      refine ⟨_, rfl, ?_⟩
      refine L.va rfl (X.assign (by conv => lhs; whnf)) ?_
      refine L.nil ?_
      -- ret
      refine J.ret ?_
      refine thn_ret <| ?_
      refine fin1 ?_
      exact ⟨rfl, he1⟩
    · refine L.va rfl (X.move (by conv => lhs; whnf)) ?_
      -- callfn bushel/bushelref19.Light
      refine L.call rfl en_15 rfl ((light_ hd1 (by omega))) ?_
      rintro e _ ⟨rfl, rfl⟩
      refine ⟨_, rfl, ?_⟩
      refine L.va rfl (X.not rfl) ?_
      refine L.va rfl (X.pickF rfl (by conv => lhs; whnf)) ?_
      refine L.va rfl (X.move (by conv => lhs; whnf)) ?_
      -- case t24
      refine L.caseB (k := 24) rfl (fun h1 => ?_) (fun h1 => ?_)
      · refine L.no rfl ?_
        refine L.no rfl ?_
        refine L.no rfl ?_
        refine L.va rfl (X.pickT rfl (by conv => lhs; whnf)) ?_
        refine L.nil ?_
        -- cond
        refine J.iteT rfl ?_
        refine J.seq ?_
        refine J.region ?_
        -- callfn bushel/bushellaw19.awake
        refine L.call rfl en_16 rfl (awake19 w) ?_
        rintro e w1 ⟨rfl, he1⟩
        refine ⟨_, rfl, ?_⟩
        refine L.va rfl (X.assign (by conv => lhs; whnf)) ?_
        refine L.nil ?_
        -- ret
        refine J.ret ?_
        refine thn_ret <| ?_
        refine fin1 ?_
        exact ⟨rfl, he1⟩
      · refine L.va rfl (X.move (by conv => lhs; whnf)) ?_
        -- callfn bushel/bushelref19.Light
        refine L.call rfl en_15 rfl ((light_ hd2 (by omega))) ?_
        rintro e _ ⟨rfl, rfl⟩
        refine ⟨_, rfl, ?_⟩
        refine L.va rfl (X.not rfl) ?_
        refine L.va rfl (X.pickF rfl (by conv => lhs; whnf)) ?_
        refine L.nil ?_
        -- cond
        refine J.ite rfl (fun h2 => ?_) (fun h2 => ?_)
        · refine J.seq ?_
          refine J.region ?_
          -- callfn bushel/bushellaw19.awake
          refine L.call rfl en_16 rfl (awake19 w) ?_
          rintro e w1 ⟨rfl, he1⟩
          refine ⟨_, rfl, ?_⟩
          refine L.va rfl (X.assign (by conv => lhs; whnf)) ?_
          refine L.nil ?_
          -- ret
          refine J.ret ?_
          refine thn_ret <| ?_
          refine fin1 ?_
          exact ⟨rfl, he1⟩
        · refine J.skip ?_
          -- cutend
          refine ⟨(), At0 , (by (iterate 15 refine Agr.lk rfl ?_); exact Agr.rfl'), ?_⟩
          exact ⟨rfl, by simpa using h0, by simpa using h1, by simpa using h2⟩
  · rintro ⟨⟩ g w0 ⟨rfl, L0, L1, L2⟩
    refine J.seq ?_
    refine J.region ?_
    -- callfn bushel/disk.New
    refine L.call rfl en_17 rfl (new_ok 4 (by omega)) ?_
    rintro e w1 ⟨v, rfl, hv, k1, k2, k3, k4, k5, k6, k7, he1⟩
    refine ⟨_, rfl, ?_⟩
    have he1 : Ext w0 w1 := he1
    have a0 : v.abs = ⟨(List.range 4).map (fun _ => List.replicate 1024 0), [], false, -1, 0, 0, 0⟩ := by
      unfold Dk.abs abs_
      rw [show v.kp.map (·.2) = v.dat from rfl, k7, k1, k2, k3, k4, k5, k6]
      rfl
    refine L.va rfl (X.move (by conv => lhs; whnf)) ?_
    refine L.va rfl (X.extract rfl rfl) ?_
    refine L.va rfl (X.extract rfl rfl) ?_
    refine L.va rfl (X.assign (by conv => lhs; whnf)) ?_
    refine L.va rfl (X.assign (by conv => lhs; whnf)) ?_
    refine L.nil ?_
    refine J.seq ?_
    refine J.seq ?_
    refine J.region ?_
    refine L.va rfl (X.move (by conv => lhs; whnf)) ?_
    refine L.va rfl (X.eqlPn rfl rfl (by kernel_rfl)) ?_
    refine L.va rfl (X.move (by conv => lhs; whnf)) ?_
    -- case t36
    refine L.caseBF (k := 36) rfl (by rfl) ?_
    refine L.va rfl (X.move (by conv => lhs; whnf)) ?_
    refine L.va rfl (X.neq rfl rfl) ?_
    refine L.va rfl (X.pickF rfl (by conv => lhs; whnf)) ?_
    refine L.nil ?_
    -- cond
    refine J.iteF rfl ?_
    refine J.skip ?_
    refine J.seq ?_
    refine J.region ?_
    refine L.va rfl (X.move (by conv => lhs; whnf)) ?_
    -- callfn bushel/bushelref19.New
    refine L.call rfl en_26 rfl (refnew (w := w1) 4 (by omega) (N0 := w0.heap.size) he1.le) ?_
    rintro e w2 ⟨r, rfl, hr2, ar, he2, hK2⟩
    refine ⟨_, rfl, ?_⟩
    have he2 : Ext w1 w2 := he2
    have hv2 := hv.ext he2
    have hne : r.K.ownBlock ≠ some v.kb := fun e => by
      have := hK2 _ e
      have := (hv.hk.lt v.kb rfl).2
      omega
    have hok : r.abs.Ok 0 := by
      rw [ar]
      refine ⟨by simp, ?_, (fun x hx => by cases hx), by simp, by dsimp only; omega⟩
      intro x hx
      obtain ⟨_, _, rfl⟩ := List.mem_map.1 hx
      simp
    refine L.va rfl (X.move (by conv => lhs; whnf)) ?_
    -- callfn bushel/bushellaw19.plays
    refine L.call rfl en_25 rfl ((hv2.plays_ (Nat.le_refl _) hr2 hne (by rw [a0, ar]) hok (by omega) ds0 A0 n0 c0 (hd0.low (he1.trans he2)) L0)) ?_
    rintro e w3 ⟨v3, r3, rfl, hP⟩
    refine ⟨_, rfl, ?_⟩
    have he3 : Ext w0 w3 := Below.trans (he1.trans he2) (hv2.below hP.hk)
    have p3 : v.ptr = v3.ptr := by unfold Dk.ptr; rw [hP.hd]
    have z3 := he3.le
    refine L.va rfl (X.move (by conv => lhs; whnf)) ?_
    refine L.va rfl (X.extract rfl rfl) ?_
    refine L.va rfl (X.extract rfl rfl) ?_
    -- alloc
    refine L.alloc rfl zr_44 ?_
    intro b9 w4 hb9 hs4 hk4 he4
    -- store
    refine L.storeAgg (vs := [_, _, _, _, _, _, _]) rfl rfl rfl rfl sz_44 (hk4) rfl ?_
    intro w5 hk5 hg5 hs5
    have he35 : Ext w3 w5 := he4.grw hg5 (by intro g hg; injection hg with hg; omega)
    have he5 := he3.trans he35
    have hk5 : Blk w5 b9 44 r3.vals.toArray := hk5
    have hv5 := hP.hv.ext he35
    have hr5 := hP.hr.ext he35
    have ok3 := hP.hok
    have hm3 := ok3.hm
    have hpl : v3.pp.length ≤ 1000000 := by
      have := v3.plen
      rw [hP.hab] at this
      omega
    refine L.va rfl (X.assign (by conv => lhs; whnf)) ?_
    refine L.nil ?_
    refine J.seq ?_
    refine J.region ?_
    refine L.va rfl (X.move (by conv => lhs; whnf)) ?_
    -- callfn (*bushel/disk.Disk).Clone
    have c6 := hv5.clone_ hpl
    rw [← p3] at c6
    refine L.call rfl en_29 rfl (c6) ?_
    rintro e w6 ⟨u, rfl, hu, u1, u2, u3, u4, u5, u6, u7, he6⟩
    refine ⟨_, rfl, ?_⟩
    have he6 : Ext w5 w6 := he6
    have hua : u.abs = r3.abs := by
      rw [← hP.hab]
      unfold Dk.abs
      rw [u1, u2, u3, u4, u5, u6, u7]
    have hv6 := (hv5.ext he6).reC
    have hr6 := hr5.ext he6
    have hk6 : Blk w6 b9 44 #[r3.K, r3.P, .bool r3.off, .int .i64 r3.left, .int .i64 r3.rd, .int .i64 r3.wr, .int .i64 r3.fl] := hk5.ext he6
    have he06 := he5.trans he6
    have z5 := he5.le
    have q1 : v3.kb < w5.heap.size := (hv5.hk.lt v3.kb rfl).2
    have q2 : v3.d < w5.heap.size := hv5.hb.lt
    have q3 : w5.heap.size ≤ u.kb := hu.kT.2
    have q4 : w5.heap.size ≤ u.d := hu.hN
    have hneu : r3.K.ownBlock ≠ some u.kb := fun e => by
      have := (hr5.hk.lt u.kb e).2
      omega
    have hnev : r3.K.ownBlock ≠ some v3.kb := by rw [hP.hkb]; exact hP.hne
    refine L.va rfl (X.assign (by conv => lhs; whnf)) ?_
    refine L.nil ?_
    refine J.seq ?_
    refine J.seq ?_
    refine J.region ?_
    refine L.va rfl (X.move (by conv => lhs; whnf)) ?_
    refine L.va rfl (X.not rfl) ?_
    refine L.va rfl (X.move (by conv => lhs; whnf)) ?_
    -- case t51
    refine L.caseBF (k := 51) rfl (by rfl) ?_
    refine L.va rfl (X.move (by conv => lhs; whnf)) ?_
    refine L.va rfl (X.eqlPn rfl rfl (by kernel_rfl)) ?_
    refine L.va rfl (X.pickF rfl (by conv => lhs; whnf)) ?_
    refine L.nil ?_
    -- cond
    refine J.iteF rfl ?_
    refine J.skip ?_
    refine J.seq ?_
    refine J.region ?_
    refine L.va rfl (X.move (by conv => lhs; whnf)) ?_
    refine L.va rfl ((by first | exact X.loadAgg rfl (range_l hk6) Try.underlying44 rfl (by kernel_rfl) | exact X.loadAgg rfl (range_blk hk6) Try.underlying44 rfl (by kernel_rfl))) ?_
    refine L.va rfl (X.move (by conv => lhs; whnf)) ?_
    -- callfn bushel/bushellaw19.plays
    have c7 := hv6.plays_ (Nat.le_refl _) hr6 hnev hP.hab ok3 (by omega) ds1 A1 n1 c1 (hd1.low he06) L1
    rw [← p3] at c7
    refine L.call rfl en_25 rfl (c7) ?_
    rintro e w7 ⟨v7, r7, rfl, hP7⟩
    refine ⟨_, rfl, ?_⟩
    have he7 : Ext w0 w7 := Below.trans he06 (hv6.below hP7.hk)
    have hu7 := hu.other hv6 hP7.hk (by omega) (by omega) (fun g hg => ⟨(hu.hp.lt g hg).2, fun e => by
      have := (hu.hp.lt g hg).1
      have := (hv5.hp.lt g e).2
      omega⟩)
    have hr7 := hr6.kq hv6 hP7.hk (Nat.le_refl _) hnev
    have hk7 := hv6.blkKq hP7.hk hk6 (by decide) (by decide) (by decide)
    have z7 := he7.le
    refine L.va rfl (X.move (by conv => lhs; whnf)) ?_
    refine L.va rfl (X.extract rfl rfl) ?_
    refine L.va rfl (X.extract rfl rfl) ?_
    -- alloc
    refine L.alloc rfl zr_44 ?_
    intro b12 w8 hb12 hs8 hk8 he8
    -- store
    refine L.storeAgg (vs := [_, _, _, _, _, _, _]) rfl rfl rfl rfl sz_44 (hk8) rfl ?_
    intro w9 hk9 hg9 hs9
    have he79 : Ext w7 w9 := he8.grw hg9 (by intro g hg; injection hg with hg; omega)
    have he9 := he7.trans he79
    have hk79 := hk7.ext he79
    refine L.va rfl (X.assign (by conv => lhs; whnf)) ?_
    refine L.nil ?_
    refine J.seq ?_
    refine J.region ?_
    refine L.va rfl (X.move (by conv => lhs; whnf)) ?_
    refine L.va rfl ((by first | exact X.loadAgg rfl (range_l hk79) Try.underlying44 rfl (by kernel_rfl) | exact X.loadAgg rfl (range_blk hk79) Try.underlying44 rfl (by kernel_rfl))) ?_
    refine L.va rfl (X.move (by conv => lhs; whnf)) ?_
    -- callfn bushel/bushellaw19.plays
    refine L.call rfl en_25 rfl (((hu7.ext he79).plays_ (by omega) (hr7.ext he79) hneu hua ok3 (by omega) ds2 A2 n2 c2 (hd2.low he9) L2)) ?_
    rintro e w10 ⟨v10, r10, rfl, hP10⟩
    refine ⟨_, rfl, ?_⟩
    have he10 : Ext w0 w10 := Below.trans he9 (Below.mono ((hu7.ext he79).below hP10.hk) z5)
    have z10 := he10.le
    refine L.va rfl (X.move (by conv => lhs; whnf)) ?_
    refine L.va rfl (X.extract rfl rfl) ?_
    refine L.va rfl (X.extract rfl rfl) ?_
    -- alloc
    refine L.alloc rfl zr_44 ?_
    intro b14 w11 hb14 hs11 hk11 he11
    -- store
    refine L.storeAgg (vs := [_, _, _, _, _, _, _]) rfl rfl rfl rfl sz_44 (hk11) rfl ?_
    intro w12 hk12 hg12 hs12
    have he12 : Ext w0 w12 := (he10.trans he11).grw hg12 (by intro g hg; injection hg with hg; omega)
    refine L.va rfl (X.assign (by conv => lhs; whnf)) ?_
    refine L.nil ?_
    refine J.seq ?_
    refine J.region ?_
    refine L.va rfl (X.move (by conv => lhs; whnf)) ?_
    refine L.va rfl (X.move (by conv => lhs; whnf)) ?_
    -- case t70
    refine L.caseBT (k := 70) rfl (by rfl) ?_
    refine L.va rfl (X.move (by conv => lhs; whnf)) ?_
    refine L.va rfl (X.pickT rfl (by conv => lhs; whnf)) ?_
    refine L.va rfl (X.move (by conv => lhs; whnf)) ?_
    -- case t73
    refine L.caseBT (k := 73) rfl (by rfl) ?_
    -- callfn bushel/bushellaw19.awake
    refine L.call rfl en_16 rfl (awake19 w12) ?_
    rintro e w13 ⟨rfl, he13⟩
    refine ⟨_, rfl, ?_⟩
    refine L.va rfl (X.pickT rfl (by conv => lhs; whnf)) ?_
    refine L.va rfl (X.assign (by conv => lhs; whnf)) ?_
    refine L.nil ?_
    -- ret
    refine J.ret ?_
    refine fin1 ?_
    exact ⟨rfl, he12.trans he13⟩
end Go.Proofs.Ytdmfikedojgjbaa
