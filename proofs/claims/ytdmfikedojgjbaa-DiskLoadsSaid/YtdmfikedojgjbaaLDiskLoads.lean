/-
  The law DiskLoads, walked: all bytes and all deeds.
-/
import Derived.Test.YtdmfikedojgjbaaWDiskM
namespace Go.Proofs.Ytdmfikedojgjbaa
set_option maxRecDepth 100000
open Go.RowKit H
set_option linter.unusedVariables false
theorem ck_flat (zs : List Int) (q : Nat) (h : q * 1024 ≤ zs.length) : ((List.range q).map (ck zs)).flatten = zs.take (q * 1024) := by
  induction q with
  | zero => simp
  | succ q ih =>
    have e : (q + 1) * 1024 = q * 1024 + 1024 := by omega
    rw [List.range_succ, List.map_append, List.flatten_append, ih (by omega), e, List.take_add]
    simp only [List.map_cons, List.map_nil, List.flatten_cons, List.flatten_nil, List.append_nil, ck]
    rw [Nat.mul_comm 1024 q]
theorem law_DiskLoads (w : World) (A0 : Option Addr) (n0 c0 : Nat) (xs0 : List (Nm .u8)) (hn0 : n0 ≤ c0) (hc0 : c0 ≤ maxLen) (hA0 : A0 = none → c0 = 0) (hl0 : LiesSlice w w.heap.size A0 n0 xs0) (A1 : Option Addr) (n1 c1 : Nat) (xs1 : List ((Nm .i64) × (Nm .i64) × (List (Nm .u8)) × (Bool) × (List (Bool)))) (hn1 : n1 ≤ c1) (hc1 : c1 ≤ maxLen) (hA1 : A1 = none → c1 = 0) (hl1 : LiesSlice w w.heap.size A1 n1 xs1) :
    Calls Try.prog 5 #[.slice A0 n0 c0, .slice A1 n1 c1] w fun e w' => e = .returned (.bool true) ∧ Below w.heap.size w w' := by
  obtain ⟨ds, hds⟩ := deeds_of hl1
  have hr0 := hl0.reads
  generalize zsOf xs0 = zs at hr0
  have hzl : zs.length = n0 := by have := hr0.1; simpa [nums] using this
  unfold maxLen at hc0
  refine enter Try.func5 rfl (by kernel_rfl) ?_
  refine J.seq ?_
  refine J.region ?_
  refine L.va rfl (X.assign (by conv => lhs; whnf)) ?_
  refine L.nil ?_
  -- until
  refine J.cut (X := Unit) [4, 9, 10, 11, 12, 13, 14, 15, 16, 17] (fun _ => []) (fun _ w' => w' = w ∧ n0 ≤ 65536 ∧ lightD ds = true) ?_ ?_
  · refine J.seq ?_
    refine J.region ?_
    refine L.va rfl (X.move (by conv => lhs; whnf)) ?_
    refine L.va rfl (X.len rfl Try.underlying30) ?_
    refine L.va rfl (X.gtr rfl rfl) ?_
    refine L.va rfl (X.move (by conv => lhs; whnf)) ?_
    -- case t12
    refine L.caseDec (k := 12) rfl (fun h1 => ?_) (fun h1 => ?_)
    · refine L.no rfl ?_
      refine L.no rfl ?_
      refine L.no rfl ?_
      refine L.va rfl (X.pickT rfl (by conv => lhs; whnf)) ?_
      refine L.nil ?_
      -- cond
      refine J.iteT rfl ?_
      refine J.seq ?_
      refine J.region ?_
      -- callfn bushel/bushellaw19.awake
      refine L.call rfl en_16 rfl (awake19 w) ?_
      rintro e w1 ⟨rfl, he1⟩
      refine ⟨_, rfl, ?_⟩
      refine L.va rfl (X.assign (by conv => lhs; whnf)) ?_
      refine L.nil ?_
      -- ret
      refine J.ret ?_
      refine thn_ret <| ?_
      refine fin1 ?_
      exact ⟨rfl, he1⟩
    · refine L.va rfl (X.move (by conv => lhs; whnf)) ?_
      -- callfn bushel/bushelref19.Light
      refine L.call rfl en_15 rfl ((light_ hds (by omega))) ?_
      rintro e _ ⟨rfl, rfl⟩
      refine ⟨_, rfl, ?_⟩
      refine L.va rfl (X.not rfl) ?_
      refine L.va rfl (X.pickF rfl (by conv => lhs; whnf)) ?_
      refine L.nil ?_
      -- cond
      cases hL : lightD ds
      · refine J.iteT rfl ?_
        refine J.seq ?_
        refine J.region ?_
        -- callfn bushel/bushellaw19.awake
        refine L.call rfl en_16 rfl (awake19 w) ?_
        rintro e w1 ⟨rfl, he1⟩
        refine ⟨_, rfl, ?_⟩
        refine L.va rfl (X.assign (by conv => lhs; whnf)) ?_
        refine L.nil ?_
        -- ret
        refine J.ret ?_
        refine thn_ret <| ?_
        refine fin1 ?_
        exact ⟨rfl, he1⟩
      · refine J.iteF rfl ?_
        refine J.skip ?_
        -- cutend
        refine ⟨(), At0 , (by (iterate 9 refine Agr.lk rfl ?_); exact Agr.rfl'), ?_⟩
        exact ⟨rfl, by omega, rfl⟩
  · rintro ⟨⟩ g w0 ⟨rfl, h64, hL⟩
    refine J.seq ?_
    refine J.region ?_
    refine L.va rfl (X.move (by conv => lhs; whnf)) ?_
    -- callfn bushel/disk.Load
    rcases (show n0 % 1024 ≠ 0 ∨ n0 = 0 ∨ (n0 % 1024 = 0 ∧ 0 < n0) by omega) with h6 | h0 | ⟨h6, hpos⟩
    · refine L.call rfl en_27 rfl (load_6 A0 n0 c0 (by omega) h6) ?_
      rintro e _ ⟨rfl, rfl⟩
      refine ⟨_, rfl, ?_⟩
      refine L.va rfl (X.move (by conv => lhs; whnf)) ?_
      refine L.va rfl (X.extract rfl rfl) ?_
      refine L.va rfl (X.extract rfl rfl) ?_
      refine L.va rfl (X.assign (by conv => lhs; whnf)) ?_
      refine L.va rfl (X.assign (by conv => lhs; whnf)) ?_
      refine L.nil ?_
      refine J.seq ?_
      refine J.seq ?_
      refine J.region ?_
      refine L.va rfl (X.move (by conv => lhs; whnf)) ?_
      refine L.va rfl (X.len rfl Try.underlying30) ?_
      refine L.va rfl (X.rem rfl rfl (by omega)) ?_
      refine L.va rfl (X.neq rfl rfl) ?_
      refine L.nil ?_
      -- cond
      refine J.ndecT rfl (by omega) ?_
      refine J.seq ?_
      refine J.region ?_
      refine L.va rfl (X.move (by conv => lhs; whnf)) ?_
      refine L.va rfl (X.eqlPn rfl rfl (by kernel_rfl)) ?_
      refine L.va rfl (X.move (by conv => lhs; whnf)) ?_
      -- case t29
      refine L.caseBT (k := 29) rfl (by rfl) ?_
      refine L.va rfl (X.move (by conv => lhs; whnf)) ?_
      refine L.va rfl (X.eql rfl rfl) ?_
      refine L.va rfl (X.pickT rfl (by conv => lhs; whnf)) ?_
      refine L.va rfl (X.move (by conv => lhs; whnf)) ?_
      -- case t33
      refine L.caseDecT (k := 33) rfl (by rfl) ?_
      -- callfn bushel/bushellaw19.awake
      refine L.call rfl en_16 rfl (awake19 w0) ?_
      rintro e w1 ⟨rfl, he1⟩
      refine ⟨_, rfl, ?_⟩
      refine L.va rfl (X.pickT rfl (by conv => lhs; whnf)) ?_
      refine L.va rfl (X.assign (by conv => lhs; whnf)) ?_
      refine L.nil ?_
      -- ret
      refine J.ret ?_
      refine thn_ret <| ?_
      refine fin1 ?_
      exact ⟨rfl, he1⟩
    · refine L.call rfl en_27 rfl (load_2 A0 n0 c0 (by omega) (by omega) (by omega)) ?_
      rintro e _ ⟨rfl, rfl⟩
      refine ⟨_, rfl, ?_⟩
      refine L.va rfl (X.move (by conv => lhs; whnf)) ?_
      refine L.va rfl (X.extract rfl rfl) ?_
      refine L.va rfl (X.extract rfl rfl) ?_
      refine L.va rfl (X.assign (by conv => lhs; whnf)) ?_
      refine L.va rfl (X.assign (by conv => lhs; whnf)) ?_
      refine L.nil ?_
      refine J.seq ?_
      refine J.seq ?_
      refine J.region ?_
      refine L.va rfl (X.move (by conv => lhs; whnf)) ?_
      refine L.va rfl (X.len rfl Try.underlying30) ?_
      refine L.va rfl (X.rem rfl rfl (by omega)) ?_
      refine L.va rfl (X.neq rfl rfl) ?_
      refine L.nil ?_
      -- cond
      refine J.ndecF rfl (by omega) ?_
      refine J.skip ?_
      refine J.seq ?_
      refine J.seq ?_
      refine J.region ?_
      refine L.va rfl (X.move (by conv => lhs; whnf)) ?_
      refine L.va rfl (X.len rfl Try.underlying30) ?_
      refine L.va rfl (X.eql rfl rfl) ?_
      refine L.nil ?_
      -- cond
      refine J.decT rfl (by omega) ?_
      refine J.seq ?_
      refine J.region ?_
      refine L.va rfl (X.move (by conv => lhs; whnf)) ?_
      refine L.va rfl (X.eqlPn rfl rfl (by kernel_rfl)) ?_
      refine L.va rfl (X.move (by conv => lhs; whnf)) ?_
      -- case t41
      refine L.caseBT (k := 41) rfl (by rfl) ?_
      refine L.va rfl (X.move (by conv => lhs; whnf)) ?_
      refine L.va rfl (X.eql rfl rfl) ?_
      refine L.va rfl (X.pickT rfl (by conv => lhs; whnf)) ?_
      refine L.va rfl (X.move (by conv => lhs; whnf)) ?_
      -- case t45
      refine L.caseDecT (k := 45) rfl (by rfl) ?_
      -- callfn bushel/bushellaw19.awake
      refine L.call rfl en_16 rfl (awake19 w0) ?_
      rintro e w1 ⟨rfl, he1⟩
      refine ⟨_, rfl, ?_⟩
      refine L.va rfl (X.pickT rfl (by conv => lhs; whnf)) ?_
      refine L.va rfl (X.assign (by conv => lhs; whnf)) ?_
      refine L.nil ?_
      -- ret
      refine J.ret ?_
      refine thn_ret <| ?_
      refine fin1 ?_
      exact ⟨rfl, he1⟩
    · obtain ⟨q, hq⟩ : ∃ q, n0 = q * 1024 := ⟨n0 / 1024, by omega⟩
      subst hq
      refine L.call rfl en_27 rfl (load_ok A0 q c0 zs hr0 hn0 (by omega)) ?_
      rintro e w1 ⟨v, rfl, hv, k1, k2, k3, k4, k5, k6, k7, he1⟩
      refine ⟨_, rfl, ?_⟩
      have he1 : Ext w0 w1 := he1
      have a0 : v.abs = ⟨(List.range q).map (ck zs), [], false, -1, 0, 0, 0⟩ := by
        unfold Dk.abs abs_
        rw [show v.kp.map (·.2) = v.dat from rfl, k7, k1, k2, k3, k4, k5, k6]
        rfl
      have hfl : v.dat.flatten = zs := by rw [k7, ck_flat zs q (by omega), List.take_of_length_le (by omega)]
      have hr1 := hr0.ext he1
      refine L.va rfl (X.move (by conv => lhs; whnf)) ?_
      refine L.va rfl (X.extract rfl rfl) ?_
      refine L.va rfl (X.extract rfl rfl) ?_
      refine L.va rfl (X.assign (by conv => lhs; whnf)) ?_
      refine L.va rfl (X.assign (by conv => lhs; whnf)) ?_
      refine L.nil ?_
      refine J.seq ?_
      refine J.seq ?_
      refine J.region ?_
      refine L.va rfl (X.move (by conv => lhs; whnf)) ?_
      refine L.va rfl (X.len rfl Try.underlying30) ?_
      refine L.va rfl (X.rem rfl rfl (by omega)) ?_
      refine L.va rfl (X.neq rfl rfl) ?_
      refine L.nil ?_
      -- cond
      refine J.ndecF rfl (by omega) ?_
      refine J.skip ?_
      refine J.seq ?_
      refine J.seq ?_
      refine J.region ?_
      refine L.va rfl (X.move (by conv => lhs; whnf)) ?_
      refine L.va rfl (X.len rfl Try.underlying30) ?_
      refine L.va rfl (X.eql rfl rfl) ?_
      refine L.nil ?_
      -- cond
      refine J.decF rfl (by omega) ?_
      refine J.skip ?_
      refine J.seq ?_
      refine J.seq ?_
      -- draw
      refine J.draw (ℓ := 1000000) (S := Ext w1) mixed (fun w2 hS hS_h => ?_)
      -- t59
      refine D.va 0 rfl (by kernel_rfl) (fun _ _ _ h => h) rfl (fun w' hw => X.move (by conv => lhs; whnf)) hS ?_
      refine D.va 1 rfl (by kernel_rfl) (fun _ _ _ h => h) rfl (fun w' hw => X.eqlPn rfl rfl (by kernel_rfl)) hS ?_
      refine D.va 2 rfl (by kernel_rfl) (fun _ _ _ h => h) rfl (fun w' hw => X.move (by conv => lhs; whnf)) hS ?_
      -- case t50
      refine D.caseBF (k := 50) rfl (by rfl) ?_
      refine D.va 3 rfl (by kernel_rfl) (fun _ _ _ h => h) rfl (fun w' hw => X.move (by conv => lhs; whnf)) hS ?_
      refine D.va 4 rfl (by kernel_rfl) (fun _ _ _ h => h) rfl (fun w' hw => X.neq rfl rfl) hS ?_
      refine D.va 5 rfl (by kernel_rfl) (fun _ _ _ h => h) rfl (fun w' hw => X.pickF rfl (by conv => lhs; whnf)) hS ?_
      refine D.va 6 rfl (by kernel_rfl) (fun _ _ _ h => h) rfl (fun w' hw => X.move (by conv => lhs; whnf)) hS ?_
      -- case t54
      refine D.caseNdecF (k := 54) rfl (by rfl) ?_
      refine D.va 7 rfl (by kernel_rfl) (fun _ _ _ h => h) rfl (fun w' hw => X.move (by conv => lhs; whnf)) hS ?_
      refine D.va 10 rfl (by kernel_rfl) (fun _ _ _ h => h) rfl (fun w' hw => X.move (by conv => lhs; whnf)) hS ?_
      refine D.va 11 rfl (by kernel_rfl) (fun _ _ _ h => h) rfl (fun w' hw => X.conv rfl ((hr1.ext hw).conv (c := c0) Try.underlying30 Try.underlying5 Try.underlying9)) hS ?_
      -- callfn (*bushel/disk.Disk).Image
      refine D.one 8 (by kernel_rfl) rfl ?_
      refine L.call rfl en_20 rfl ((hv.ext hS).image_) ?_
      rintro e w3 ⟨A3, c3, rfl, ho3, he3⟩
      refine ⟨_, rfl, ?_⟩
      have hS1 := hS.trans he3
      refine L.nil ?_
      refine ⟨fun _ => hS1, ?_⟩
      have he3 : Ext w2 w3 := he3
      -- convert
      refine D.one 9 (by kernel_rfl) rfl ?_
      refine L.va rfl (X.conv rfl ((Reads.of_own ho3).conv (c := c3) Try.underlying30 Try.underlying5 Try.underlying9)) ?_
      refine L.nil ?_
      refine ⟨fun _ => hS1, ?_⟩
      refine D.va 12 rfl (by kernel_rfl) (fun _ _ _ h => h) rfl (fun w' hw => X.neqS rfl rfl) hS1 ?_
      refine D.va 13 rfl (by kernel_rfl) (fun _ _ _ h => h) rfl (fun w' hw => X.pickF rfl (by conv => lhs; whnf)) hS1 ?_
      refine D.done (by kernel_rfl) ?_
      -- cond
      rw [hfl, show (!decide (strOfNums zs = strOfNums zs)) = false from by simp]
      refine J.iteF rfl ?_
      have hv3 := (hv.ext hS).ext he3
      have he03 : Ext w0 w3 := (he1.trans hS).trans he3
      refine J.skip ?_
      refine J.seq ?_
      refine J.region ?_
      refine L.va rfl (X.move (by conv => lhs; whnf)) ?_
      refine L.va rfl (X.move (by conv => lhs; whnf)) ?_
      -- callfn bushel/bushelref19.Load
      refine L.call rfl en_28 rfl (refload (w := w3) A0 q c0 zs (((hr1.ext hS).ext he3).more he03.le) hn0 (by omega) (N0 := w0.heap.size) he03.le) ?_
      rintro e w4 ⟨r, rfl, hr4, ar, he4, hK4⟩
      refine ⟨_, rfl, ?_⟩
      have he4 : Ext w3 w4 := he4
      have hv4 := hv3.ext he4
      have hne : r.K.ownBlock ≠ some v.kb := fun e => by
        have := hK4 _ e
        have := (hv3.hk.lt v.kb rfl).2
        omega
      have hok : r.abs.Ok 0 := by
        rw [ar]
        refine ⟨by simp; omega, ?_, (fun x hx => by cases hx), by simp, by dsimp only; omega⟩
        intro x hx
        obtain ⟨i, hi, rfl⟩ := List.mem_map.1 hx
        have := List.mem_range.1 hi
        simp [ck]
        omega
      refine L.va rfl (X.move (by conv => lhs; whnf)) ?_
      -- callfn bushel/bushellaw19.plays
      refine L.call rfl en_25 rfl ((hv4.plays_ (Nat.le_refl _) hr4 hne (by rw [a0, ar]) hok (by omega) ds A1 n1 c1 (hds.low (he03.trans he4)) hL)) ?_
      rintro e w5 ⟨v', r', rfl, hP⟩
      refine ⟨_, rfl, ?_⟩
      have he5 : Ext w0 w5 := Below.trans (he03.trans he4) (hv4.below hP.hk)
      refine L.va rfl (X.move (by conv => lhs; whnf)) ?_
      refine L.va rfl (X.extract rfl rfl) ?_
      refine L.va rfl (X.extract rfl rfl) ?_
      -- alloc
      refine L.alloc rfl zr_44 ?_
      intro b6 w6 hb6 hs6 hk6 he6
      -- store
      refine L.storeAgg (vs := [_, _, _, _, _, _, _]) rfl rfl rfl rfl sz_44 (hk6) rfl ?_
      intro w7 hk7 hg7 hs7
      have he7 : Ext w0 w7 := (he5.trans he6).grw hg7 (by intro g hg; injection hg with hg; have := he5.le; omega)
      refine L.va rfl (X.assign (by conv => lhs; whnf)) ?_
      refine L.nil ?_
      refine J.seq ?_
      refine J.region ?_
      refine L.va rfl (X.move (by conv => lhs; whnf)) ?_
      refine L.va rfl (X.move (by conv => lhs; whnf)) ?_
      -- case t71
      refine L.caseBT (k := 71) rfl (by rfl) ?_
      -- callfn bushel/bushellaw19.awake
      refine L.call rfl en_16 rfl (awake19 w7) ?_
      rintro e w8 ⟨rfl, he8⟩
      refine ⟨_, rfl, ?_⟩
      refine L.va rfl (X.pickT rfl (by conv => lhs; whnf)) ?_
      refine L.va rfl (X.assign (by conv => lhs; whnf)) ?_
      refine L.nil ?_
      -- ret
      refine J.ret ?_
      refine fin1 ?_
      exact ⟨rfl, he7.trans he8⟩
end Go.Proofs.Ytdmfikedojgjbaa
