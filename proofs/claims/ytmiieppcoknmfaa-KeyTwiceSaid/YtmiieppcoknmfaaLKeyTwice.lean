/-
  The law KeyTwice, walked: every schema, three sets and a key.
-/
import Derived.Test.YtmiieppcoknmfaaWKeyD
namespace Go.Proofs.Ytmiieppcoknmfaa
set_option maxRecDepth 100000
open Go.RowKit H
set_option linter.unusedVariables false
theorem sb_and (a b : Nat) : Mk.sb (a &&& b) a = true := by
  rw [Mk.sb_iff]
  intro i h
  rw [Nat.testBit_and, Bool.and_eq_true] at h
  exact h.1
theorem and_lt {a b : Nat} (ha : a < 4294967296) : a &&& b < 4294967296 := Nat.lt_of_le_of_lt Nat.and_le_left ha
theorem law_KeyTwice (w : World) (vs0 : List Value) (a0 : (List ((Str) × (Nm .i64))) × (List (Str)) × (List (Str)) × (List (Nm .u32))) (hl0 : Lay.lies w w.heap.size vs0 a0) (vs1 : List Value) (a1 : Vec 3 (Nm .u32)) (hl1 : Lay.lies w w.heap.size vs1 a1) (x2 : Nm .u64) :
    Calls Try.prog 6 #[.agg vs0.toArray, .agg vs1.toArray, .int .u64 x2.z] w fun e w' => e = .returned (.bool true) ∧ Below w.heap.size w w' := by
  obtain ⟨s, rfl, hH⟩ := sch_of hl0
  obtain ⟨y0, y1, y2, hy, rfl⟩ := vec3u hl1
  have hy0 := hy y0 (by simp)
  have hy1 := hy y1 (by simp)
  have hy2 := hy y2 (by simp)
  have hk : 0 ≤ x2.z ∧ x2.z ≤ 18446744073709551615 := by have := x2.u64; omega
  generalize x2.z = k at *
  have hB1 : y0 &&& y1 < 4294967296 := and_lt hy0
  have hB2 : y0 &&& y1 &&& y2 < 4294967296 := and_lt hB1
  have e1 : bits .and .u32 (y0 : Int) (y1 : Int) = ((y0 &&& y1 : Nat) : Int) := u32_and_nat y0 y1 hy0 hy1
  have e2 : bits .and .u32 ((y0 &&& y1 : Nat) : Int) (y2 : Int) = ((y0 &&& y1 &&& y2 : Nat) : Int) := u32_and_nat (y0 &&& y1) y2 hB1 hy2
  have s1 : Mk.sb (y0 &&& y1) y0 = true := sb_and _ _
  have s2 : Mk.sb (y0 &&& y1 &&& y2) (y0 &&& y1) = true := sb_and _ _
  generalize y0 &&& y1 = b at *
  generalize b &&& y2 = c at *
  have s3 : Mk.sb c y0 = true := Mk.sb_trans s2 s1
  refine enter Try.func6 rfl (by kernel_rfl) ?_
  refine J.seq ?_
  refine J.region ?_
  -- box
  refine L.boxA (l := [_, _, _, _]) rfl rfl ?_
  intro b1 w1 hb1 hs1 hk1 he1
  -- box
  refine L.boxA (l := [_, _, _]) rfl rfl ?_
  intro b2 w2 hb2 hs2 hk2 he2
  replace hk1 := hk1.ext he2
  have he02 := he1.trans he2
  refine L.va rfl (X.assign (by conv => lhs; whnf)) ?_
  refine L.nil ?_
  refine J.seq ?_
  refine J.seq ?_
  refine J.region ?_
  refine L.va rfl ((by first | exact X.loadAgg rfl (range_l hk1) Try.underlying26 rfl (by kernel_rfl) | exact X.loadAgg rfl (range_blk hk1) Try.underlying26 rfl (by kernel_rfl) | exact X.loadAgg rfl (range_l hk2) Try.underlying26 rfl (by kernel_rfl) | exact X.loadAgg rfl (range_blk hk2) Try.underlying26 rfl (by kernel_rfl))) ?_
  -- callfn bushel/bushelref11.Light
  refine L.call rfl en_14 rfl ((hH.ext he02).light) ?_
  rintro e w3 ⟨l, rfl, hll, he3⟩
  refine ⟨_, rfl, ?_⟩
  have he3 : Ext w2 w3 := he3
  have he03 := he02.trans he3
  replace hk1 := hk1.ext he3
  replace hk2 := hk2.ext he3
  refine L.va rfl (X.not rfl) ?_
  refine L.nil ?_
  -- cond
  cases l
  · refine J.iteT rfl ?_
    refine J.seq ?_
    refine J.region ?_
    -- callfn bushel/bushellaw13.awake
    refine L.call rfl en_15 rfl (awake13 _) ?_
    rintro e w4 ⟨rfl, he4⟩
    refine ⟨_, rfl, ?_⟩
    refine L.va rfl (X.assign (by conv => lhs; whnf)) ?_
    refine L.nil ?_
    -- ret
    refine J.ret ?_
    refine thn_ret <| ?_
    refine fin1 ?_
    exact ⟨rfl, he03.trans he4⟩
  · have H3 : s.Here w3 := (hH.ext he03).here (hll rfl)
    refine J.iteF rfl ?_
    refine J.skip ?_
    refine J.seq ?_
    -- draw
    refine J.quiet mixed (by kernel_rfl) ?_
    refine Qt.va rfl (fun w' hw => X.indexArr1n (j := 0) rfl rfl Try.underlying55 sz_27 (by omega)) ?_
    refine Qt.va rfl (fun w' hw => X.load rfl sc_27 (by first | exact Ld.blk (hk1.ext hw) rfl | exact Ld.blk (hk2.ext hw) rfl)) ?_
    refine Qt.va rfl (fun w' hw => X.indexArr1n (j := 0) rfl rfl Try.underlying55 sz_27 (by omega)) ?_
    refine Qt.va rfl (fun w' hw => X.load rfl sc_27 (by first | exact Ld.blk (hk1.ext hw) rfl | exact Ld.blk (hk2.ext hw) rfl)) ?_
    refine Qt.va rfl (fun w' hw => X.indexArr1n (j := 1) rfl rfl Try.underlying55 sz_27 (by omega)) ?_
    refine Qt.va rfl (fun w' hw => X.load rfl sc_27 (by first | exact Ld.blk (hk1.ext hw) rfl | exact Ld.blk (hk2.ext hw) rfl)) ?_
    refine Qt.va rfl (fun w' hw => X.and rfl rfl) ?_
    refine Qt.va rfl (fun w' hw => X.indexArr1n (j := 0) rfl rfl Try.underlying55 sz_27 (by omega)) ?_
    refine Qt.va rfl (fun w' hw => X.load rfl sc_27 (by first | exact Ld.blk (hk1.ext hw) rfl | exact Ld.blk (hk2.ext hw) rfl)) ?_
    refine Qt.va rfl (fun w' hw => X.indexArr1n (j := 1) rfl rfl Try.underlying55 sz_27 (by omega)) ?_
    refine Qt.va rfl (fun w' hw => X.load rfl sc_27 (by first | exact Ld.blk (hk1.ext hw) rfl | exact Ld.blk (hk2.ext hw) rfl)) ?_
    refine Qt.va rfl (fun w' hw => X.and rfl rfl) ?_
    refine Qt.va rfl (fun w' hw => X.indexArr1n (j := 2) rfl rfl Try.underlying55 sz_27 (by omega)) ?_
    refine Qt.va rfl (fun w' hw => X.load rfl sc_27 (by first | exact Ld.blk (hk1.ext hw) rfl | exact Ld.blk (hk2.ext hw) rfl)) ?_
    refine Qt.va rfl (fun w' hw => X.and rfl rfl) ?_
    refine Qt.va rfl (fun w' hw => X.assign (by conv => lhs; whnf)) ?_
    refine Qt.va rfl (fun w' hw => X.assign (by conv => lhs; whnf)) ?_
    refine Qt.va rfl (fun w' hw => X.assign (by conv => lhs; whnf)) ?_
    refine Qt.nil (fun w4 hq => ?_)
    replace hk1 := hk1.ext hq
    replace hk2 := hk2.ext hq
    refine J.seq ?_
    refine J.region ?_
    refine L.va rfl ((by first | exact X.loadAgg rfl (range_l hk1) Try.underlying26 rfl (by kernel_rfl) | exact X.loadAgg rfl (range_blk hk1) Try.underlying26 rfl (by kernel_rfl) | exact X.loadAgg rfl (range_l hk2) Try.underlying26 rfl (by kernel_rfl) | exact X.loadAgg rfl (range_blk hk2) Try.underlying26 rfl (by kernel_rfl))) ?_
    refine L.va rfl (X.move (by conv => lhs; whnf)) ?_
    refine L.va rfl (X.move (by conv => lhs; whnf)) ?_
    refine L.va rfl (X.move (by conv => lhs; whnf)) ?_
    -- callfn bushel/key.Down
    rw [e1, e2]
    have he04 := he03.trans hq
    have H4 := H3.ext hq
    have hcE : s.dnE y0 c k = s.dnE y0 b k := by unfold Sch.dnE; rw [s1, s3]
    -- callfn bushel/key.Down
    refine L.call rfl en_24 rfl (H4.down hy0 hB1 k hk) ?_
    rintro e w5 ⟨rfl, he5⟩
    refine ⟨_, rfl, ?_⟩
    have he5 : Ext w4 w5 := he5
    have he05 := he04.trans he5
    replace hk1 := hk1.ext he5
    replace hk2 := hk2.ext he5
    refine L.va rfl (X.move (by conv => lhs; whnf)) ?_
    refine L.va rfl (X.extract rfl rfl) ?_
    refine L.va rfl (X.extract rfl rfl) ?_
    refine L.va rfl (X.assign (by conv => lhs; whnf)) ?_
    refine L.va rfl (X.assign (by conv => lhs; whnf)) ?_
    refine L.nil ?_
    refine J.seq ?_
    refine J.region ?_
    refine L.va rfl ((by first | exact X.loadAgg rfl (range_l hk1) Try.underlying26 rfl (by kernel_rfl) | exact X.loadAgg rfl (range_blk hk1) Try.underlying26 rfl (by kernel_rfl) | exact X.loadAgg rfl (range_l hk2) Try.underlying26 rfl (by kernel_rfl) | exact X.loadAgg rfl (range_blk hk2) Try.underlying26 rfl (by kernel_rfl))) ?_
    refine L.va rfl (X.move (by conv => lhs; whnf)) ?_
    refine L.va rfl (X.move (by conv => lhs; whnf)) ?_
    refine L.va rfl (X.move (by conv => lhs; whnf)) ?_
    -- callfn bushel/key.Down
    have c6 := (H4.ext he5).down hy0 hB2 k hk
    rw [hcE] at c6
    refine L.call rfl en_24 rfl (c6) ?_
    rintro e w6 ⟨rfl, he6⟩
    refine ⟨_, rfl, ?_⟩
    have he6 : Ext w5 w6 := he6
    have he06 := he05.trans he6
    have H6 := (H4.ext he5).ext he6
    replace hk1 := hk1.ext he6
    replace hk2 := hk2.ext he6
    refine L.va rfl (X.move (by conv => lhs; whnf)) ?_
    refine L.va rfl (X.extract rfl rfl) ?_
    refine L.va rfl (X.extract rfl rfl) ?_
    refine L.va rfl (X.assign (by conv => lhs; whnf)) ?_
    refine L.va rfl (X.assign (by conv => lhs; whnf)) ?_
    refine L.nil ?_
    refine J.seq ?_
    refine J.seq ?_
    refine J.region ?_
    refine L.va rfl (X.move (by conv => lhs; whnf)) ?_
    refine L.va rfl (X.neq rfl rfl) ?_
    refine L.va rfl (X.move (by conv => lhs; whnf)) ?_
    -- case t53
    refine L.caseNdec (k := 53) rfl (fun hE => ?_) (fun hE => ?_)
    · have hb0 : s.dnK y0 b k = 0 := by rw [Sch.dnK, if_neg hE]
      have hc0 : s.dnK y0 c k = 0 := by rw [Sch.dnK, hcE, if_neg hE]
      rw [hb0, hc0]
      refine L.no rfl ?_
      refine L.no rfl ?_
      refine L.va rfl (X.pickT rfl (by conv => lhs; whnf)) ?_
      refine L.nil ?_
      -- cond
      refine J.iteT rfl ?_
      refine J.seq ?_
      refine J.region ?_
      refine L.va rfl (X.move (by conv => lhs; whnf)) ?_
      refine L.va rfl (X.eql rfl rfl) ?_
      refine L.va rfl (X.move (by conv => lhs; whnf)) ?_
      -- case t59
      refine L.caseDecT (k := 59) rfl (by rfl) ?_
      refine L.va rfl (X.move (by conv => lhs; whnf)) ?_
      refine L.va rfl (X.eql rfl rfl) ?_
      refine L.va rfl (X.pickT rfl (by conv => lhs; whnf)) ?_
      refine L.va rfl (X.move (by conv => lhs; whnf)) ?_
      -- case t63
      refine L.caseDecT (k := 63) rfl (by rfl) ?_
      refine L.va rfl (X.move (by conv => lhs; whnf)) ?_
      refine L.va rfl (X.move (by conv => lhs; whnf)) ?_
      refine L.va rfl (X.eql rfl rfl) ?_
      refine L.va rfl (X.pickT rfl (by conv => lhs; whnf)) ?_
      refine L.va rfl (X.move (by conv => lhs; whnf)) ?_
      -- case t68
      refine L.caseDecT (k := 68) rfl (by rfl) ?_
      -- callfn bushel/bushellaw13.awake
      refine L.call rfl en_15 rfl (awake13 _) ?_
      rintro e w7 ⟨rfl, he7⟩
      refine ⟨_, rfl, ?_⟩
      refine L.va rfl (X.pickT rfl (by conv => lhs; whnf)) ?_
      refine L.va rfl (X.assign (by conv => lhs; whnf)) ?_
      refine L.nil ?_
      -- ret
      refine J.ret ?_
      refine thn_ret <| ?_
      refine fin1 ?_
      exact ⟨rfl, he06.trans he7⟩
    · have hE0 : s.dnE y0 b k = 0 := by omega
      have hA : s.askE y0 = 0 := by
        apply Decidable.byContradiction
        intro h
        rw [(Sch.dnE_a h).1] at hE0
        exact h hE0
      have hlt : ¬ kyP s.ds y0 s.nd ≤ k := by
        intro h
        rw [(Sch.dnE_2 hA s1 h).1] at hE0
        cases hE0
      have kb := (Sch.dnE_0 hA s1 hlt).2
      have kc := (Sch.dnE_0 hA s3 hlt).2
      obtain ⟨hc, hF⟩ := Sch.askE_0 hA
      obtain ⟨g0, g1⟩ := Sch.good hc
      have hO := okO_co (m := y0) g1 (Mk.sb_iff.1 s1) k
      have hbd := kyO_bd g1 s.nd (Nat.le_refl _) hO
      have hbp := kyP_bd b g1 s.nd (Nat.le_refl _)
      have htw := kyO_twice g1 (Mk.sb_iff.1 s1) (Mk.sb_iff.1 s2) k
      rw [kb, kc, ← htw]
      rw [← kb] at hbd ⊢
      generalize hx : s.dnK y0 b k = x at *
      have hz := Sch.dnE_0 (Sch.ask_sub hA s1) s2 (show ¬ kyP s.ds b s.nd ≤ x by omega)
      refine L.va rfl (X.move (by conv => lhs; whnf)) ?_
      refine L.va rfl (X.neq rfl rfl) ?_
      refine L.va rfl (X.pickF rfl (by conv => lhs; whnf)) ?_
      refine L.nil ?_
      -- cond
      refine J.ndecF rfl (by omega) ?_
      refine J.skip ?_
      refine J.seq ?_
      refine J.region ?_
      refine L.va rfl ((by first | exact X.loadAgg rfl (range_l hk1) Try.underlying26 rfl (by kernel_rfl) | exact X.loadAgg rfl (range_blk hk1) Try.underlying26 rfl (by kernel_rfl) | exact X.loadAgg rfl (range_l hk2) Try.underlying26 rfl (by kernel_rfl) | exact X.loadAgg rfl (range_blk hk2) Try.underlying26 rfl (by kernel_rfl))) ?_
      refine L.va rfl (X.move (by conv => lhs; whnf)) ?_
      refine L.va rfl (X.move (by conv => lhs; whnf)) ?_
      refine L.va rfl (X.move (by conv => lhs; whnf)) ?_
      -- callfn bushel/key.Down
      have c7 := H6.down hB1 hB2 x (by omega)
      rw [hz.1, hz.2] at c7
      refine L.call rfl en_24 rfl (c7) ?_
      rintro e w7 ⟨rfl, he7⟩
      refine ⟨_, rfl, ?_⟩
      have he7 : Ext w6 w7 := he7
      have he07 := he06.trans he7
      refine L.va rfl (X.move (by conv => lhs; whnf)) ?_
      refine L.va rfl (X.extract rfl rfl) ?_
      refine L.va rfl (X.extract rfl rfl) ?_
      refine L.va rfl (X.assign (by conv => lhs; whnf)) ?_
      refine L.va rfl (X.assign (by conv => lhs; whnf)) ?_
      refine L.nil ?_
      refine J.seq ?_
      refine J.region ?_
      refine L.va rfl (X.move (by conv => lhs; whnf)) ?_
      refine L.va rfl (X.eql rfl rfl) ?_
      refine L.va rfl (X.move (by conv => lhs; whnf)) ?_
      -- case t81
      refine L.caseDecT (k := 81) rfl (by rfl) ?_
      refine L.va rfl (X.move (by conv => lhs; whnf)) ?_
      refine L.va rfl (X.move (by conv => lhs; whnf)) ?_
      refine L.va rfl (X.eql rfl rfl) ?_
      refine L.va rfl (X.pickT rfl (by conv => lhs; whnf)) ?_
      refine L.va rfl (X.move (by conv => lhs; whnf)) ?_
      -- case t86
      refine L.caseDecT (k := 86) rfl (by rfl) ?_
      -- callfn bushel/bushellaw13.awake
      refine L.call rfl en_15 rfl (awake13 _) ?_
      rintro e w8 ⟨rfl, he8⟩
      refine ⟨_, rfl, ?_⟩
      refine L.va rfl (X.pickT rfl (by conv => lhs; whnf)) ?_
      refine L.va rfl (X.assign (by conv => lhs; whnf)) ?_
      refine L.nil ?_
      -- ret
      refine J.ret ?_
      refine fin1 ?_
      exact ⟨rfl, he07.trans he8⟩
end Go.Proofs.Ytmiieppcoknmfaa
