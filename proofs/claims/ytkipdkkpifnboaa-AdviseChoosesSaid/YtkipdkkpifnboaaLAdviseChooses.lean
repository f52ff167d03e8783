/-
  The law AdviseChooses, walked.
-/
import Derived.Test.YtkipdkkpifnboaaWAdvT
namespace Go.Proofs.Ytkipdkkpifnboaa
open Go.RowKit H
open Mk Ad
set_option linter.unusedVariables false
theorem law_AdviseChooses (w : World) (x0 : Nm .i64) (A1 : Option Addr) (n1 c1 : Nat) (xs1 : List (Nm .i64)) (hn1 : n1 ≤ c1) (hc1 : c1 ≤ maxLen) (hA1 : A1 = none → c1 = 0) (hl1 : LiesSlice w w.heap.size A1 n1 xs1) (x2 : Nm .i64) :
    Calls Try.prog 4 #[.int .i64 x0.z, .slice A1 n1 c1, .int .i64 x2.z] w fun e w' => e = .returned (.bool true) ∧ Below w.heap.size w w' := by
  unfold maxLen at hc1
  have hr := hl1.reads
  generalize x0.z = n
  generalize x2.z = k
  generalize zsOf xs1 = ss at hr
  have hq : n1 ≤ 9223372036854775807 := by omega
  have hl : ss.length = n1 := by have := hr.1; simpa [nums] using this
  have ho : Ext w w := Ext.refl w
  refine enter Try.func4 rfl (by kernel_rfl) ?_
  refine J.seq ?_
  refine J.region ?_
  refine L.va rfl (X.assign (by conv => lhs; whnf)) ?_
  refine L.nil ?_
  refine J.seq ?_
  refine J.seq ?_
  refine J.region ?_
  refine L.va rfl (X.move (by conv => lhs; whnf)) ?_
  refine L.va rfl (X.len rfl Try.underlying22) ?_
  refine L.va rfl (X.gtr rfl rfl) ?_
  refine L.va rfl (X.move (by conv => lhs; whnf)) ?_
  -- case t13
  refine L.caseDec (k := 13) rfl (fun h1 => ?_) (fun h1 => ?_)
  · refine L.no rfl ?_
    refine L.no rfl ?_
    refine L.no rfl ?_
    refine L.no rfl ?_
    refine L.no rfl ?_
    refine L.no rfl ?_
    refine L.no rfl ?_
    refine L.va rfl (X.pickT rfl (by conv => lhs; whnf)) ?_
    refine L.nil ?_
    -- cond
    refine J.iteT rfl ?_
    refine J.seq ?_
    refine J.region ?_
    -- callfn bushel/bushellaw18.awake
    refine L.call rfl en_15 rfl (awake18 _) ?_
    rintro e w1 ⟨rfl, he⟩
    refine ⟨_, rfl, ?_⟩
    refine L.va rfl (X.assign (by conv => lhs; whnf)) ?_
    refine L.nil ?_
    -- ret
    refine J.ret ?_
    refine thn_ret <| ?_
    refine fin1 ?_
    exact ⟨rfl, he⟩
  · refine L.va rfl (X.move (by conv => lhs; whnf)) ?_
    refine L.va rfl (X.len rfl Try.underlying22) ?_
    refine L.va rfl (X.eql rfl rfl) ?_
    refine L.va rfl (X.move (by conv => lhs; whnf)) ?_
    -- case t17
    refine L.caseDec (k := 17) rfl (fun h2 => ?_) (fun h2 => ?_)
    · refine L.va rfl (X.move (by conv => lhs; whnf)) ?_
      refine L.va rfl (X.gtr rfl rfl) ?_
      refine L.va rfl (X.pickT rfl (by conv => lhs; whnf)) ?_
      refine L.va rfl (X.pickF rfl (by conv => lhs; whnf)) ?_
      refine L.nil ?_
      -- cond
      refine J.dec rfl (fun h3 => ?_) (fun h3 => ?_)
      · refine J.seq ?_
        refine J.region ?_
        -- callfn bushel/bushellaw18.awake
        refine L.call rfl en_15 rfl (awake18 _) ?_
        rintro e w1 ⟨rfl, he⟩
        refine ⟨_, rfl, ?_⟩
        refine L.va rfl (X.assign (by conv => lhs; whnf)) ?_
        refine L.nil ?_
        -- ret
        refine J.ret ?_
        refine thn_ret <| ?_
        refine fin1 ?_
        exact ⟨rfl, he⟩
      · refine J.skip ?_
        refine J.seq ?_
        refine J.region ?_
        refine L.va rfl (X.move (by conv => lhs; whnf)) ?_
        refine L.va rfl (X.move (by conv => lhs; whnf)) ?_
        refine L.va rfl (X.move (by conv => lhs; whnf)) ?_
        -- callfn bushel/advise.Choose
        refine L.call rfl en_20 rfl (advchoose_any n A1 n1 c1 k ss _ hr hq) ?_
        rintro e w1 ⟨A2, c2, rfl, hc, he1⟩
        refine ⟨_, rfl, ?_⟩
        replace ho : Ext w w1 := he1
        refine L.va rfl (X.move (by conv => lhs; whnf)) ?_
        refine L.va rfl (X.extract rfl rfl) ?_
        refine L.va rfl (X.extract rfl rfl) ?_
        refine L.va rfl (X.assign (by conv => lhs; whnf)) ?_
        refine L.va rfl (X.assign (by conv => lhs; whnf)) ?_
        refine L.nil ?_
        refine J.seq ?_
        refine J.seq ?_
        refine J.region ?_
        refine L.va rfl (X.move (by conv => lhs; whnf)) ?_
        refine L.va rfl (X.move (by conv => lhs; whnf)) ?_
        -- callfn bushel/bushelref18.Wrong
        refine L.call rfl en_18 rfl (rwrong_any n A1 n1 c1 ss _ ((hr.ext ho).here (by decide)) hq) ?_
        rintro e _ ⟨rfl, rfl⟩
        refine ⟨_, rfl, ?_⟩
        refine L.va rfl (X.assign (by conv => lhs; whnf)) ?_
        refine L.nil ?_
        refine J.seq ?_
        refine J.region ?_
        refine L.va rfl (X.move (by conv => lhs; whnf)) ?_
        refine L.va rfl (X.neq rfl rfl) ?_
        refine L.nil ?_
        -- cond
        refine J.ndec rfl (fun h0 => ?_) (fun h0 => ?_)
        · have hE : chL n ss k = [] := by rw [chL, if_neg h0]
          rw [hE]
          refine J.seq ?_
          refine J.region ?_
          refine L.va rfl (X.move (by conv => lhs; whnf)) ?_
          refine L.va rfl (X.len rfl Try.underlying23) ?_
          refine L.va rfl (X.eql rfl rfl) ?_
          refine L.va rfl (X.move (by conv => lhs; whnf)) ?_
          -- case t38
          refine L.caseDecT (k := 38) rfl (by rfl) ?_
          refine L.va rfl (X.move (by conv => lhs; whnf)) ?_
          refine L.va rfl (X.move (by conv => lhs; whnf)) ?_
          refine L.va rfl (X.eql rfl rfl) ?_
          refine L.va rfl (X.pickT rfl (by conv => lhs; whnf)) ?_
          refine L.va rfl (X.move (by conv => lhs; whnf)) ?_
          -- case t43
          refine L.caseDecT (k := 43) rfl (by rfl) ?_
          -- callfn bushel/bushellaw18.awake
          refine L.call rfl en_15 rfl (awake18 _) ?_
          rintro e w3 ⟨rfl, he3⟩
          refine ⟨_, rfl, ?_⟩
          refine L.va rfl (X.pickT rfl (by conv => lhs; whnf)) ?_
          refine L.va rfl (X.assign (by conv => lhs; whnf)) ?_
          refine L.nil ?_
          -- ret
          refine J.ret ?_
          refine thn_ret <| ?_
          refine fin1 ?_
          exact ⟨rfl, ho.trans he3⟩
        · have h00 : askE n ss = 0 := by omega
          have hE : chL n ss k = grd ss k.toNat [] := by rw [chL, if_pos h00]
          obtain ⟨n1', n6, _, hq2, hq64, hS⟩ := askE_zero h00
          rw [hl] at hq2 hq64
          rw [hE] at hc
          rw [hE, h00]
          have hcap := own_bd hc
          unfold maxLen at hcap
          refine J.skip ?_
          refine J.seq ?_
          refine J.region ?_
          refine L.va rfl (X.move (by conv => lhs; whnf)) ?_
          refine L.va rfl (X.eql rfl rfl) ?_
          refine L.va rfl (X.move (by conv => lhs; whnf)) ?_
          -- case t48
          refine L.caseDecT (k := 48) rfl (by rfl) ?_
          refine L.va rfl (X.move (by conv => lhs; whnf)) ?_
          refine L.va rfl (X.move (by conv => lhs; whnf)) ?_
          refine L.va rfl (X.move (by conv => lhs; whnf)) ?_
          -- callfn bushel/bushelref18.Choose
          refine L.call rfl en_22 rfl (rchoose_any A1 n1 c1 k ss _ ((hr.ext ho).here (by decide)) hq64 (by omega) hS) ?_
          rintro e w3 ⟨A4, c4, rfl, hc4, he3⟩
          refine ⟨_, rfl, ?_⟩
          have he3 : Ext w1 w3 := he3
          replace hc := hc.ext he3
          replace ho := ho.ext he3
          -- callfn bushel/bushelref11.Masks
          refine L.call rfl en_21 rfl (rmasks_same A2 A4 _ c2 c4 _ _ (own_reads hc) (own_reads hc4) (by omega)) ?_
          rintro e w4 ⟨rfl, he4⟩
          refine ⟨_, rfl, ?_⟩
          have he4 : Ext w3 w4 := he4
          replace hc := hc.ext he4
          replace ho := ho.ext he4
          refine L.va rfl (X.pickT rfl (by conv => lhs; whnf)) ?_
          refine L.va rfl (X.move (by conv => lhs; whnf)) ?_
          -- case t55
          refine L.caseBT (k := 55) rfl (by rfl) ?_
          -- callfn bushel/bushellaw18.awake
          refine L.call rfl en_15 rfl (awake18 _) ?_
          rintro e w5 ⟨rfl, he5⟩
          refine ⟨_, rfl, ?_⟩
          refine L.va rfl (X.pickT rfl (by conv => lhs; whnf)) ?_
          refine L.va rfl (X.assign (by conv => lhs; whnf)) ?_
          refine L.nil ?_
          -- ret
          refine J.ret ?_
          refine fin1 ?_
          exact ⟨rfl, ho.trans he5⟩
    · refine L.no rfl ?_
      refine L.no rfl ?_
      refine L.va rfl (X.pickF rfl (by conv => lhs; whnf)) ?_
      refine L.va rfl (X.pickF rfl (by conv => lhs; whnf)) ?_
      refine L.nil ?_
      -- cond
      refine J.iteF rfl ?_
      refine J.skip ?_
      refine J.seq ?_
      refine J.region ?_
      refine L.va rfl (X.move (by conv => lhs; whnf)) ?_
      refine L.va rfl (X.move (by conv => lhs; whnf)) ?_
      refine L.va rfl (X.move (by conv => lhs; whnf)) ?_
      -- callfn bushel/advise.Choose
      refine L.call rfl en_20 rfl (advchoose_any n A1 n1 c1 k ss _ hr hq) ?_
      rintro e w1 ⟨A2, c2, rfl, hc, he1⟩
      refine ⟨_, rfl, ?_⟩
      replace ho : Ext w w1 := he1
      refine L.va rfl (X.move (by conv => lhs; whnf)) ?_
      refine L.va rfl (X.extract rfl rfl) ?_
      refine L.va rfl (X.extract rfl rfl) ?_
      refine L.va rfl (X.assign (by conv => lhs; whnf)) ?_
      refine L.va rfl (X.assign (by conv => lhs; whnf)) ?_
      refine L.nil ?_
      refine J.seq ?_
      refine J.seq ?_
      refine J.region ?_
      refine L.va rfl (X.move (by conv => lhs; whnf)) ?_
      refine L.va rfl (X.move (by conv => lhs; whnf)) ?_
      -- callfn bushel/bushelref18.Wrong
      refine L.call rfl en_18 rfl (rwrong_any n A1 n1 c1 ss _ ((hr.ext ho).here (by decide)) hq) ?_
      rintro e _ ⟨rfl, rfl⟩
      refine ⟨_, rfl, ?_⟩
      refine L.va rfl (X.assign (by conv => lhs; whnf)) ?_
      refine L.nil ?_
      refine J.seq ?_
      refine J.region ?_
      refine L.va rfl (X.move (by conv => lhs; whnf)) ?_
      refine L.va rfl (X.neq rfl rfl) ?_
      refine L.nil ?_
      -- cond
      refine J.ndec rfl (fun h0 => ?_) (fun h0 => ?_)
      · have hE : chL n ss k = [] := by rw [chL, if_neg h0]
        rw [hE]
        refine J.seq ?_
        refine J.region ?_
        refine L.va rfl (X.move (by conv => lhs; whnf)) ?_
        refine L.va rfl (X.len rfl Try.underlying23) ?_
        refine L.va rfl (X.eql rfl rfl) ?_
        refine L.va rfl (X.move (by conv => lhs; whnf)) ?_
        -- case t38
        refine L.caseDecT (k := 38) rfl (by rfl) ?_
        refine L.va rfl (X.move (by conv => lhs; whnf)) ?_
        refine L.va rfl (X.move (by conv => lhs; whnf)) ?_
        refine L.va rfl (X.eql rfl rfl) ?_
        refine L.va rfl (X.pickT rfl (by conv => lhs; whnf)) ?_
        refine L.va rfl (X.move (by conv => lhs; whnf)) ?_
        -- case t43
        refine L.caseDecT (k := 43) rfl (by rfl) ?_
        -- callfn bushel/bushellaw18.awake
        refine L.call rfl en_15 rfl (awake18 _) ?_
        rintro e w3 ⟨rfl, he3⟩
        refine ⟨_, rfl, ?_⟩
        refine L.va rfl (X.pickT rfl (by conv => lhs; whnf)) ?_
        refine L.va rfl (X.assign (by conv => lhs; whnf)) ?_
        refine L.nil ?_
        -- ret
        refine J.ret ?_
        refine thn_ret <| ?_
        refine fin1 ?_
        exact ⟨rfl, ho.trans he3⟩
      · have h00 : askE n ss = 0 := by omega
        have hE : chL n ss k = grd ss k.toNat [] := by rw [chL, if_pos h00]
        obtain ⟨n1', n6, _, hq2, hq64, hS⟩ := askE_zero h00
        rw [hl] at hq2 hq64
        rw [hE] at hc
        rw [hE, h00]
        have hcap := own_bd hc
        unfold maxLen at hcap
        refine J.skip ?_
        refine J.seq ?_
        refine J.region ?_
        refine L.va rfl (X.move (by conv => lhs; whnf)) ?_
        refine L.va rfl (X.eql rfl rfl) ?_
        refine L.va rfl (X.move (by conv => lhs; whnf)) ?_
        -- case t48
        refine L.caseDecT (k := 48) rfl (by rfl) ?_
        refine L.va rfl (X.move (by conv => lhs; whnf)) ?_
        refine L.va rfl (X.move (by conv => lhs; whnf)) ?_
        refine L.va rfl (X.move (by conv => lhs; whnf)) ?_
        -- callfn bushel/bushelref18.Choose
        refine L.call rfl en_22 rfl (rchoose_any A1 n1 c1 k ss _ ((hr.ext ho).here (by decide)) hq64 (by omega) hS) ?_
        rintro e w3 ⟨A4, c4, rfl, hc4, he3⟩
        refine ⟨_, rfl, ?_⟩
        have he3 : Ext w1 w3 := he3
        replace hc := hc.ext he3
        replace ho := ho.ext he3
        -- callfn bushel/bushelref11.Masks
        refine L.call rfl en_21 rfl (rmasks_same A2 A4 _ c2 c4 _ _ (own_reads hc) (own_reads hc4) (by omega)) ?_
        rintro e w4 ⟨rfl, he4⟩
        refine ⟨_, rfl, ?_⟩
        have he4 : Ext w3 w4 := he4
        replace hc := hc.ext he4
        replace ho := ho.ext he4
        refine L.va rfl (X.pickT rfl (by conv => lhs; whnf)) ?_
        refine L.va rfl (X.move (by conv => lhs; whnf)) ?_
        -- case t55
        refine L.caseBT (k := 55) rfl (by rfl) ?_
        -- callfn bushel/bushellaw18.awake
        refine L.call rfl en_15 rfl (awake18 _) ?_
        rintro e w5 ⟨rfl, he5⟩
        refine ⟨_, rfl, ?_⟩
        refine L.va rfl (X.pickT rfl (by conv => lhs; whnf)) ?_
        refine L.va rfl (X.assign (by conv => lhs; whnf)) ?_
        refine L.nil ?_
        -- ret
        refine J.ret ?_
        refine fin1 ?_
        exact ⟨rfl, ho.trans he5⟩
end Go.Proofs.Ytkipdkkpifnboaa
