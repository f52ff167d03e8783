/-
  The law KeyCodes, walked: every schema, two sets, a key and a dimension.
-/
import Derived.Test.YtmiieppcoknmfaaWKeyD
namespace Go.Proofs.Ytmiieppcoknmfaa
set_option maxRecDepth 100000
open Go.RowKit H
set_option linter.unusedVariables false
theorem way4 {w : World} {B : Nat} {vs : List Value} {x : (Nm .u32) × (Nm .u32) × (Nm .u64) × (Nm .i64)} (h : Lay.lies w B vs x) :
    ∃ (a b : Nat) (k d : Int), vs = [.int .u32 (a : Int), .int .u32 (b : Int), .int .u64 k, .int .i64 d] ∧ a < 4294967296 ∧ b < 4294967296 ∧ (0 ≤ k ∧ k ≤ 18446744073709551615) ∧ (-9223372036854775808 ≤ d ∧ d ≤ 9223372036854775807) := by
  obtain ⟨us, ws, rfl, h1, us2, ws2, rfl, h2, us3, ws3, rfl, h3, h4⟩ := h
  obtain rfl : us = [.int .u32 x.1.z] := h1
  obtain rfl : us2 = [.int .u32 x.2.1.z] := h2
  obtain rfl : us3 = [.int .u64 x.2.2.1.z] := h3
  obtain rfl : ws3 = [.int .i64 x.2.2.2.z] := h4
  have g1 := x.1.u32
  have g2 := x.2.1.u32
  have g3 := x.2.2.1.u64
  have g4 := x.2.2.2.i64
  refine ⟨x.1.z.toNat, x.2.1.z.toNat, x.2.2.1.z, x.2.2.2.z, ?_, by omega, by omega, by omega, by omega⟩
  rw [Int.toNat_of_nonneg g1.1, Int.toNat_of_nonneg g2.1]
  rfl
namespace Sch
theorem dn_of_co {s : Sch} {a b : Nat} {k : Int} (h : s.coE a k ≠ 0) : s.dnE a b k = (if s.coE a k = 2 ∧ Mk.sb b a = false then 11 else s.coE a k) ∧ s.dnK a b k = 0 := by
  by_cases hA : s.askE a = 0
  · have hk : kyP s.ds a s.nd ≤ k := by
      apply Decidable.byContradiction
      intro hx
      exact h (coE_0 hA hx).1
    rw [(coE_2 hA hk).1]
    cases hs : Mk.sb b a
    · rw [(dnE_11 hA hs).1, (dnE_11 hA hs).2]
      exact ⟨rfl, rfl⟩
    · rw [(dnE_2 hA hs hk).1, (dnE_2 hA hs hk).2]
      exact ⟨rfl, rfl⟩
  · rw [(coE_a hA).1, (dnE_a hA).1, (dnE_a hA).2]
    have h2 : s.askE a ≠ 2 := by
      unfold askE
      split
      · decide
      · split <;> decide
    rw [if_neg (fun x => h2 x.1)]
    exact ⟨rfl, rfl⟩
end Sch
theorem law_KeyCodes (w : World) (vs0 : List Value) (a0 : (List ((Str) × (Nm .i64))) × (List (Str)) × (List (Str)) × (List (Nm .u32))) (hl0 : Lay.lies w w.heap.size vs0 a0) (vs1 : List Value) (a1 : (Nm .u32) × (Nm .u32) × (Nm .u64) × (Nm .i64)) (hl1 : Lay.lies w w.heap.size vs1 a1) :
    Calls Try.prog 5 #[.agg vs0.toArray, .agg vs1.toArray] w fun e w' => e = .returned (.bool true) ∧ Below w.heap.size w w' := by
  obtain ⟨s, rfl, hH⟩ := sch_of hl0
  obtain ⟨a, b, k, d, rfl, ha, hb, hk, hd⟩ := way4 hl1
  refine enter Try.func5 rfl (by kernel_rfl) ?_
  refine J.seq ?_
  refine J.region ?_
  -- box
  refine L.boxA (l := [_, _, _, _]) rfl rfl ?_
  intro b1 w1 hb1 hs1 hk1 he1
  -- box
  refine L.boxA (l := [_, _, _, _]) rfl rfl ?_
  intro b2 w2 hb2 hs2 hk2 he2
  replace hk1 := hk1.ext he2
  have he02 := he1.trans he2
  refine L.va rfl (X.assign (by conv => lhs; whnf)) ?_
  refine L.nil ?_
  refine J.seq ?_
  refine J.seq ?_
  refine J.region ?_
  refine L.va rfl ((by first | exact X.loadAgg rfl (range_l hk1) Try.underlying26 rfl (by kernel_rfl) | exact X.loadAgg rfl (range_blk hk1) Try.underlying26 rfl (by kernel_rfl) | exact X.loadAgg rfl (range_l hk2) Try.underlying26 rfl (by kernel_rfl) | exact X.loadAgg rfl (range_blk hk2) Try.underlying26 rfl (by kernel_rfl))) ?_
  -- callfn bushel/bushelref11.Light
  refine L.call rfl en_14 rfl ((hH.ext he02).light) ?_
  rintro e w3 ⟨l, rfl, hll, he3⟩
  refine ⟨_, rfl, ?_⟩
  have he3 : Ext w2 w3 := he3
  have he03 := he02.trans he3
  replace hk1 := hk1.ext he3
  replace hk2 := hk2.ext he3
  refine L.va rfl (X.not rfl) ?_
  refine L.nil ?_
  -- cond
  cases l
  · refine J.iteT rfl ?_
    refine J.seq ?_
    refine J.region ?_
    -- callfn bushel/bushellaw13.awake
    refine L.call rfl en_15 rfl (awake13 _) ?_
    rintro e w4 ⟨rfl, he4⟩
    refine ⟨_, rfl, ?_⟩
    refine L.va rfl (X.assign (by conv => lhs; whnf)) ?_
    refine L.nil ?_
    -- ret
    refine J.ret ?_
    refine thn_ret <| ?_
    refine fin1 ?_
    exact ⟨rfl, he03.trans he4⟩
  · have H3 : s.Here w3 := (hH.ext he03).here (hll rfl)
    have hle := H3.hle
    refine J.iteF rfl ?_
    refine J.skip ?_
    refine J.seq ?_
    refine J.region ?_
    refine L.va rfl ((by first | exact X.loadAgg rfl (range_l hk1) Try.underlying26 rfl (by kernel_rfl) | exact X.loadAgg rfl (range_blk hk1) Try.underlying26 rfl (by kernel_rfl) | exact X.loadAgg rfl (range_l hk2) Try.underlying26 rfl (by kernel_rfl) | exact X.loadAgg rfl (range_blk hk2) Try.underlying26 rfl (by kernel_rfl))) ?_
    refine L.va rfl (X.fieldAddr rfl Try.underlying49 rfl sz_27 (by decide)) ?_
    refine L.va rfl (X.load rfl sc_27 (by first | exact Ld.blk hk1 rfl | exact Ld.blk hk2 rfl)) ?_
    refine L.va rfl (X.fieldAddr rfl Try.underlying49 rfl sz_31 (by decide)) ?_
    refine L.va rfl (X.load rfl sc_31 (by first | exact Ld.blk hk1 rfl | exact Ld.blk hk2 rfl)) ?_
    -- callfn bushel/key.Codes
    refine L.call rfl en_21 rfl (H3.codes ha k hk) ?_
    rintro e w4 ⟨A4, c4, rfl, ho4, he4⟩
    refine ⟨_, rfl, ?_⟩
    have he4 : Ext w3 w4 := he4
    have H4 := H3.ext he4
    have he04 := he03.trans he4
    replace hk1 := hk1.ext he4
    replace hk2 := hk2.ext he4
    refine L.va rfl (X.move (by conv => lhs; whnf)) ?_
    refine L.va rfl (X.extract rfl rfl) ?_
    refine L.va rfl (X.extract rfl rfl) ?_
    refine L.va rfl (X.assign (by conv => lhs; whnf)) ?_
    refine L.va rfl (X.assign (by conv => lhs; whnf)) ?_
    refine L.nil ?_
    refine J.seq ?_
    refine J.region ?_
    refine L.va rfl ((by first | exact X.loadAgg rfl (range_l hk1) Try.underlying26 rfl (by kernel_rfl) | exact X.loadAgg rfl (range_blk hk1) Try.underlying26 rfl (by kernel_rfl) | exact X.loadAgg rfl (range_l hk2) Try.underlying26 rfl (by kernel_rfl) | exact X.loadAgg rfl (range_blk hk2) Try.underlying26 rfl (by kernel_rfl))) ?_
    refine L.va rfl (X.fieldAddr rfl Try.underlying49 rfl sz_27 (by decide)) ?_
    refine L.va rfl (X.load rfl sc_27 (by first | exact Ld.blk hk1 rfl | exact Ld.blk hk2 rfl)) ?_
    refine L.va rfl (X.fieldAddr rfl Try.underlying49 rfl sz_27 (by decide)) ?_
    refine L.va rfl (X.load rfl sc_27 (by first | exact Ld.blk hk1 rfl | exact Ld.blk hk2 rfl)) ?_
    refine L.va rfl (X.fieldAddr rfl Try.underlying49 rfl sz_31 (by decide)) ?_
    refine L.va rfl (X.load rfl sc_31 (by first | exact Ld.blk hk1 rfl | exact Ld.blk hk2 rfl)) ?_
    -- callfn bushel/key.Down
    refine L.call rfl en_24 rfl (H4.down ha hb k hk) ?_
    rintro e w5 ⟨rfl, he5⟩
    refine ⟨_, rfl, ?_⟩
    have he5 : Ext w4 w5 := he5
    have H5 := H4.ext he5
    have he05 := he04.trans he5
    replace hk1 := hk1.ext he5
    replace hk2 := hk2.ext he5
    refine L.va rfl (X.move (by conv => lhs; whnf)) ?_
    refine L.va rfl (X.extract rfl rfl) ?_
    refine L.va rfl (X.extract rfl rfl) ?_
    refine L.va rfl (X.assign (by conv => lhs; whnf)) ?_
    refine L.va rfl (X.assign (by conv => lhs; whnf)) ?_
    refine L.nil ?_
    refine J.seq ?_
    refine J.region ?_
    refine L.va rfl ((by first | exact X.loadAgg rfl (range_l hk1) Try.underlying26 rfl (by kernel_rfl) | exact X.loadAgg rfl (range_blk hk1) Try.underlying26 rfl (by kernel_rfl) | exact X.loadAgg rfl (range_l hk2) Try.underlying26 rfl (by kernel_rfl) | exact X.loadAgg rfl (range_blk hk2) Try.underlying26 rfl (by kernel_rfl))) ?_
    refine L.va rfl (X.fieldAddr rfl Try.underlying49 rfl sz_27 (by decide)) ?_
    refine L.va rfl (X.load rfl sc_27 (by first | exact Ld.blk hk1 rfl | exact Ld.blk hk2 rfl)) ?_
    refine L.va rfl (X.fieldAddr rfl Try.underlying49 rfl sz_31 (by decide)) ?_
    refine L.va rfl (X.load rfl sc_31 (by first | exact Ld.blk hk1 rfl | exact Ld.blk hk2 rfl)) ?_
    refine L.va rfl (X.fieldAddr rfl Try.underlying49 rfl sz_3 (by decide)) ?_
    refine L.va rfl (X.load rfl sc_3 (by first | exact Ld.blk hk1 rfl | exact Ld.blk hk2 rfl)) ?_
    -- callfn bushel/key.Code
    refine L.call rfl en_23 rfl (H5.code1 ha k hk d) ?_
    rintro e w6 ⟨rfl, he6⟩
    refine ⟨_, rfl, ?_⟩
    have he6 : Ext w5 w6 := he6
    have H6 := H5.ext he6
    have he06 := he05.trans he6
    have ho6 := (ho4.ext he5).ext he6
    replace hk1 := hk1.ext he6
    replace hk2 := hk2.ext he6
    refine L.va rfl (X.assign (by conv => lhs; whnf)) ?_
    refine L.nil ?_
    refine J.seq ?_
    refine J.region ?_
    refine L.va rfl (X.assign (by conv => lhs; whnf)) ?_
    refine L.nil ?_
    -- until
    refine J.cut (X := Int) [10, 47, 48, 49, 50, 51, 52, 53, 54, 55, 56, 57, 58, 59, 60, 61, 62] (fun x => [(10, .int .i64 x)]) (fun x w' => x = s.coE a k ∧ Ext w6 w') ?_ ?_
    · refine J.seq ?_
      refine J.region ?_
      refine L.va rfl ((by first | exact X.loadAgg rfl (range_l hk1) Try.underlying26 rfl (by kernel_rfl) | exact X.loadAgg rfl (range_blk hk1) Try.underlying26 rfl (by kernel_rfl) | exact X.loadAgg rfl (range_l hk2) Try.underlying26 rfl (by kernel_rfl) | exact X.loadAgg rfl (range_blk hk2) Try.underlying26 rfl (by kernel_rfl))) ?_
      -- callfn bushel/bushelref11.Check
      refine L.call rfl en_17 rfl (H6.rcheck) ?_
      rintro e w7 ⟨rfl, he7⟩
      refine ⟨_, rfl, ?_⟩
      have he7 : Ext w6 w7 := he7
      have H7 := H6.ext he7
      replace hk1 := hk1.ext he7
      replace hk2 := hk2.ext he7
      refine L.va rfl (X.neq rfl rfl) ?_
      refine L.nil ?_
      -- cond
      refine J.ndec rfl (fun hc => ?_) (fun hc => ?_)
      · have hA : s.askE a = 1 := by rw [Sch.askE, if_pos hc]
        have hE := (Sch.coE_a (s := s) (m := a) (k := k) (by omega)).1
        refine J.region ?_
        refine L.va rfl (X.assign (by conv => lhs; whnf)) ?_
        refine L.nil ?_
        -- cutend
        refine ⟨1, At1 (by first | rfl | exact at_int rfl (by omega) | exact at_slice rfl (by omega) | exact at_int rfl (by simp)), (by (iterate 4 refine Agr.lk rfl ?_); exact Agr.rfl'), ?_⟩
        exact ⟨by rw [hE, hA], he7⟩
      · have hc0 : s.code = 0 := hc
        refine J.seq ?_
        -- draw
        refine J.quiet mixed (by kernel_rfl) ?_
        refine Qt.va rfl (fun w' hw => X.fieldAddr rfl Try.underlying49 rfl sz_27 (by decide)) ?_
        refine Qt.va rfl (fun w' hw => X.load rfl sc_27 (by first | exact Ld.blk (hk1.ext hw) rfl | exact Ld.blk (hk2.ext hw) rfl)) ?_
        refine Qt.va rfl (fun w' hw => (by first | exact X.loadAgg rfl (range_l (hk1.ext hw)) Try.underlying26 rfl (by kernel_rfl) | exact X.loadAgg rfl (range_blk (hk1.ext hw)) Try.underlying26 rfl (by kernel_rfl) | exact X.loadAgg rfl (range_l (hk2.ext hw)) Try.underlying26 rfl (by kernel_rfl) | exact X.loadAgg rfl (range_blk (hk2.ext hw)) Try.underlying26 rfl (by kernel_rfl))) ?_
        -- callfn bushel/bushelref11.Full
        refine Qt.call rfl en_19 rfl (fun w' hw => calls_ext hw ((H7.ext hw).rfull hc0)) ?_
        -- callfn bushel/bushelref11.Sub
        refine Qt.call rfl en_18 rfl (fun w' hw => calls_same hw (Sch.Here.rsub (w := _) hc0 ha)) ?_
        refine Qt.va rfl (fun w' hw => X.not rfl) ?_
        refine Qt.nil (fun w8 hq => ?_)
        replace hk1 := hk1.ext hq
        replace hk2 := hk2.ext hq
        -- cond
        refine J.ite rfl (fun hF => ?_) (fun hF => ?_)
        · have hF' : ¬ (a : Int) ≤ s.F := nd_t hF
          have hA : s.askE a = 11 := by rw [Sch.askE, if_neg (fun k => k hc0), if_neg hF']
          have hE := (Sch.coE_a (s := s) (m := a) (k := k) (by omega)).1
          refine J.region ?_
          refine L.va rfl (X.assign (by conv => lhs; whnf)) ?_
          refine L.nil ?_
          -- cutend
          refine ⟨11, At1 (by first | rfl | exact at_int rfl (by omega) | exact at_slice rfl (by omega) | exact at_int rfl (by simp)), (by (iterate 10 refine Agr.lk rfl ?_); exact Agr.rfl'), ?_⟩
          exact ⟨by rw [hE, hA], he7.trans hq⟩
        · have hF' : (a : Int) ≤ s.F := nd_f hF
          have hA : s.askE a = 0 := by rw [Sch.askE, if_neg (fun k => k hc0), if_pos hF']
          have H8 := H7.ext hq
          refine J.seq ?_
          -- draw
          refine J.quiet mixed (by kernel_rfl) ?_
          refine Qt.va rfl (fun w' hw => X.fieldAddr rfl Try.underlying49 rfl sz_31 (by decide)) ?_
          refine Qt.va rfl (fun w' hw => X.load rfl sc_31 (by first | exact Ld.blk (hk1.ext hw) rfl | exact Ld.blk (hk2.ext hw) rfl)) ?_
          refine Qt.va rfl (fun w' hw => (by first | exact X.loadAgg rfl (range_l (hk1.ext hw)) Try.underlying26 rfl (by kernel_rfl) | exact X.loadAgg rfl (range_blk (hk1.ext hw)) Try.underlying26 rfl (by kernel_rfl) | exact X.loadAgg rfl (range_l (hk2.ext hw)) Try.underlying26 rfl (by kernel_rfl) | exact X.loadAgg rfl (range_blk (hk2.ext hw)) Try.underlying26 rfl (by kernel_rfl))) ?_
          refine Qt.va rfl (fun w' hw => X.fieldAddr rfl Try.underlying49 rfl sz_27 (by decide)) ?_
          refine Qt.va rfl (fun w' hw => X.load rfl sc_27 (by first | exact Ld.blk (hk1.ext hw) rfl | exact Ld.blk (hk2.ext hw) rfl)) ?_
          -- callfn bushel/bushelref11.Keys
          refine Qt.call rfl en_25 rfl (fun w' hw => calls_ext hw ((H8.ext hw).rkeys hc0 ha)) ?_
          refine Qt.va rfl (fun w' hw => X.geq rfl rfl) ?_
          refine Qt.nil (fun w9 hq2 => ?_)
          replace hk1 := hk1.ext hq2
          replace hk2 := hk2.ext hq2
          -- cond
          refine J.dec rfl (fun hge => ?_) (fun hge => ?_)
          · have hE := (Sch.coE_2 (s := s) (m := a) (k := k) hA hge).1
            refine J.region ?_
            refine L.va rfl (X.assign (by conv => lhs; whnf)) ?_
            refine L.nil ?_
            -- cutend
            refine ⟨2, At1 (by first | rfl | exact at_int rfl (by omega) | exact at_slice rfl (by omega) | exact at_int rfl (by simp)), (by (iterate 17 refine Agr.lk rfl ?_); exact Agr.rfl'), ?_⟩
            exact ⟨hE.symm, (he7.trans hq).trans hq2⟩
          · have hE := (Sch.coE_0 (s := s) (m := a) (k := k) hA hge).1
            refine J.skip ?_
            -- cutend
            refine ⟨0, At1 (by first | rfl | exact at_int rfl (by omega) | exact at_slice rfl (by omega) | exact at_int rfl (by simp)), (by (iterate 16 refine Agr.lk rfl ?_); exact Agr.rfl'), ?_⟩
            exact ⟨hE.symm, (he7.trans hq).trans hq2⟩
    · rintro x g w7 ⟨rfl, he7⟩
      have H7 := H6.ext he7
      have he07 := he06.trans he7
      have ho7 := ho6.ext he7
      replace hk1 := hk1.ext he7
      replace hk2 := hk2.ext he7
      refine J.seq ?_
      refine J.seq ?_
      refine J.region ?_
      refine L.va rfl (X.move (by conv => lhs; whnf)) ?_
      refine L.va rfl (X.neq rfl rfl) ?_
      refine L.nil ?_
      -- cond
      refine J.ndec rfl (fun hE => ?_) (fun hE => ?_)
      · have hdn := Sch.dn_of_co (s := s) (a := a) (b := b) (k := k) hE
        have hcd : s.cdE a k d = -1 := by rw [Sch.cdE, if_pos (.inl hE)]
        have hcl : (s.coL a k).length = 0 := by rw [Sch.coL, if_neg hE]; rfl
        rw [hcd, hdn.2, hdn.1, hcl]
        generalize s.coE a k = ce at *
        refine J.seq ?_
        refine J.region ?_
        refine L.va rfl (X.move (by conv => lhs; whnf)) ?_
        refine L.va rfl (X.assign (by conv => lhs; whnf)) ?_
        refine L.nil ?_
        -- until
        refine J.cut (X := Int) [11, 66, 67, 68, 69, 70, 71, 72, 73, 74, 75] (fun x => [(11, .int .i64 x)]) (fun x w' => x = (if ce = 2 ∧ Mk.sb b a = false then 11 else ce) ∧ Ext w7 w') ?_ ?_
        · refine J.seq ?_
          refine J.region ?_
          refine L.va rfl (X.move (by conv => lhs; whnf)) ?_
          refine L.va rfl (X.eql rfl rfl) ?_
          refine L.va rfl (X.move (by conv => lhs; whnf)) ?_
          -- case t68
          refine L.caseDec (k := 68) rfl (fun h2 => ?_) (fun h2 => ?_)
          · refine L.va rfl (X.fieldAddr rfl Try.underlying49 rfl sz_27 (by decide)) ?_
            refine L.va rfl (X.load rfl sc_27 (by first | exact Ld.blk hk1 rfl | exact Ld.blk hk2 rfl)) ?_
            refine L.va rfl (X.fieldAddr rfl Try.underlying49 rfl sz_27 (by decide)) ?_
            refine L.va rfl (X.load rfl sc_27 (by first | exact Ld.blk hk1 rfl | exact Ld.blk hk2 rfl)) ?_
            -- callfn bushel/bushelref11.Sub
            refine L.call rfl en_18 rfl (rsub_any b a _ hb ha) ?_
            rintro e _ ⟨rfl, rfl⟩
            refine ⟨_, rfl, ?_⟩
            cases h3 : Mk.sb b a
            · refine L.va rfl (X.not rfl) ?_
              refine L.va rfl (X.pickT rfl (by conv => lhs; whnf)) ?_
              refine L.nil ?_
              -- cond
              refine J.iteT rfl ?_
              refine J.region ?_
              refine L.va rfl (X.assign (by conv => lhs; whnf)) ?_
              refine L.nil ?_
              -- cutend
              refine ⟨11, At1 (by first | rfl | exact at_int rfl (by omega) | exact at_slice rfl (by omega) | exact at_int rfl (by simp)), (by (iterate 12 refine Agr.lk rfl ?_); exact Agr.rfl'), ?_⟩
              exact ⟨by rw [if_pos ⟨h2, rfl⟩], Ext.refl _⟩
            · refine L.va rfl (X.not rfl) ?_
              refine L.va rfl (X.pickT rfl (by conv => lhs; whnf)) ?_
              refine L.nil ?_
              -- cond
              refine J.iteF rfl ?_
              refine J.skip ?_
              -- cutend
              refine ⟨ce, At1 (by first | rfl | exact at_int rfl (by omega) | exact at_slice rfl (by omega) | exact at_int rfl (by simp)), (by (iterate 11 refine Agr.lk rfl ?_); exact Agr.rfl'), ?_⟩
              exact ⟨by rw [if_neg (fun h => by cases h.2)], Ext.refl _⟩
          · refine L.no rfl ?_
            refine L.no rfl ?_
            refine L.no rfl ?_
            refine L.no rfl ?_
            refine L.no rfl ?_
            refine L.no rfl ?_
            refine L.va rfl (X.pickF rfl (by conv => lhs; whnf)) ?_
            refine L.nil ?_
            -- cond
            refine J.iteF rfl ?_
            refine J.skip ?_
            -- cutend
            refine ⟨ce, At1 (by first | rfl | exact at_int rfl (by omega) | exact at_slice rfl (by omega) | exact at_int rfl (by simp)), (by (iterate 11 refine Agr.lk rfl ?_); exact Agr.rfl'), ?_⟩
            exact ⟨by rw [if_neg (fun h => h2 h.1)], Ext.refl _⟩
        · rintro x g w8 ⟨rfl, he8⟩
          replace hk1 := hk1.ext he8
          replace hk2 := hk2.ext he8
          refine J.seq ?_
          refine J.region ?_
          refine L.va rfl (X.move (by conv => lhs; whnf)) ?_
          refine L.va rfl (X.len rfl Try.underlying28) ?_
          refine L.va rfl (X.eql rfl rfl) ?_
          refine L.va rfl (X.move (by conv => lhs; whnf)) ?_
          -- case t79
          refine L.caseDecT (k := 79) rfl (by rfl) ?_
          refine L.va rfl (X.move (by conv => lhs; whnf)) ?_
          refine L.va rfl (X.move (by conv => lhs; whnf)) ?_
          refine L.va rfl (X.eql rfl rfl) ?_
          refine L.va rfl (X.pickT rfl (by conv => lhs; whnf)) ?_
          refine L.va rfl (X.move (by conv => lhs; whnf)) ?_
          -- case t84
          refine L.caseDecT (k := 84) rfl (by rfl) ?_
          refine L.va rfl (X.move (by conv => lhs; whnf)) ?_
          refine L.va rfl (X.eql rfl rfl) ?_
          refine L.va rfl (X.pickT rfl (by conv => lhs; whnf)) ?_
          refine L.va rfl (X.move (by conv => lhs; whnf)) ?_
          -- case t88
          refine L.caseDecT (k := 88) rfl (by rfl) ?_
          refine L.va rfl (X.move (by conv => lhs; whnf)) ?_
          refine L.va rfl (X.move (by conv => lhs; whnf)) ?_
          refine L.va rfl (X.eql rfl rfl) ?_
          refine L.va rfl (X.pickT rfl (by conv => lhs; whnf)) ?_
          refine L.va rfl (X.move (by conv => lhs; whnf)) ?_
          -- case t93
          refine L.caseDecT (k := 93) rfl (by rfl) ?_
          refine L.va rfl (X.move (by conv => lhs; whnf)) ?_
          refine L.va rfl (X.eql rfl rfl) ?_
          refine L.va rfl (X.pickT rfl (by conv => lhs; whnf)) ?_
          refine L.va rfl (X.move (by conv => lhs; whnf)) ?_
          -- case t97
          refine L.caseDecT (k := 97) rfl (by rfl) ?_
          -- callfn bushel/bushellaw13.awake
          refine L.call rfl en_15 rfl (awake13 _) ?_
          rintro e w9 ⟨rfl, he9⟩
          refine ⟨_, rfl, ?_⟩
          refine L.va rfl (X.pickT rfl (by conv => lhs; whnf)) ?_
          refine L.va rfl (X.assign (by conv => lhs; whnf)) ?_
          refine L.nil ?_
          -- ret
          refine J.ret ?_
          refine thn_ret <| ?_
          refine fin1 ?_
          exact ⟨rfl, (he07.trans he8).trans he9⟩
      · have hE0 : s.coE a k = 0 := hE
        obtain ⟨hA, hlt⟩ := Sch.coE_ok hE0
        obtain ⟨hc0, hF⟩ := Sch.askE_0 hA
        have hL := Sch.coL_length hE0
        have hLe : s.coL a k = coK s.ds a s.nd k := by rw [Sch.coL, if_pos hE0]
        rw [hL] at ho7
        rw [hLe] at ho7
        rw [hL, hE0]
        refine J.skip ?_
        refine J.seq ?_
        refine J.region ?_
        refine L.va rfl ((by first | exact X.loadAgg rfl (range_l hk1) Try.underlying26 rfl (by kernel_rfl) | exact X.loadAgg rfl (range_blk hk1) Try.underlying26 rfl (by kernel_rfl) | exact X.loadAgg rfl (range_l hk2) Try.underlying26 rfl (by kernel_rfl) | exact X.loadAgg rfl (range_blk hk2) Try.underlying26 rfl (by kernel_rfl))) ?_
        refine L.va rfl (X.fieldAddr rfl Try.underlying49 rfl sz_27 (by decide)) ?_
        refine L.va rfl (X.load rfl sc_27 (by first | exact Ld.blk hk1 rfl | exact Ld.blk hk2 rfl)) ?_
        refine L.va rfl (X.fieldAddr rfl Try.underlying49 rfl sz_31 (by decide)) ?_
        refine L.va rfl (X.load rfl sc_31 (by first | exact Ld.blk hk1 rfl | exact Ld.blk hk2 rfl)) ?_
        -- callfn bushel/bushelref13.Codes
        refine L.call rfl en_26 rfl (H7.rcodes hc0 ha k hk) ?_
        rintro e w8 ⟨A8, c8, rfl, ho8, he8⟩
        refine ⟨_, rfl, ?_⟩
        have he8 : Ext w7 w8 := he8
        have H8 := H7.ext he8
        have he08 := he07.trans he8
        have ho78 := ho7.ext he8
        replace hk1 := hk1.ext he8
        replace hk2 := hk2.ext he8
        refine L.va rfl (X.assign (by conv => lhs; whnf)) ?_
        refine L.nil ?_
        refine J.seq ?_
        refine J.seq ?_
        refine J.region ?_
        refine L.va rfl (X.move (by conv => lhs; whnf)) ?_
        refine L.va rfl (X.neq rfl rfl) ?_
        refine L.va rfl (X.move (by conv => lhs; whnf)) ?_
        -- case t108
        refine L.caseNdecF (k := 108) rfl (by omega) ?_
        refine L.va rfl (X.move (by conv => lhs; whnf)) ?_
        refine L.va rfl (X.len rfl Try.underlying28) ?_
        refine L.va rfl (X.move (by conv => lhs; whnf)) ?_
        refine L.va rfl (X.len rfl Try.underlying28) ?_
        refine L.va rfl (X.neq rfl rfl) ?_
        refine L.va rfl (X.pickF rfl (by conv => lhs; whnf)) ?_
        refine L.nil ?_
        -- cond
        refine J.ndecF rfl (by omega) ?_
        refine J.skip ?_
        refine J.seq ?_
        refine J.region ?_
        refine L.va rfl (X.assign (by conv => lhs; whnf)) ?_
        refine L.nil ?_
        -- until
        refine J.cut (X := Int) [4, 13, 14, 115, 116, 117, 118, 119, 120, 121, 122, 123, 124, 125, 126, 127, 128, 129, 130, 131, 132, 133, 134, 135, 136, 137] (fun x => [(13, .int .i64 x)]) (fun x w' => x = s.cdE a k d ∧ Ext w8 w') ?_ ?_
        · refine J.seq ?_
          refine J.region ?_
          refine L.va rfl (X.assign (by conv => lhs; whnf)) ?_
          refine L.nil ?_
          refine J.block ?_
          -- loop
          refine J.loop (X := Nat × Int) [4, 13, 14, 115, 116, 117, 118, 119, 120, 121, 122, 123, 124, 125, 126, 127, 128, 129, 130, 131, 132, 133, 134, 135, 136, 137] (fun x => [(14, .int .i64 (x.1 : Int)), (13, .int .i64 x.2)]) (fun x w' => Ext w8 w' ∧ x.1 ≤ s.nd ∧ x.2 = (if 0 ≤ d ∧ d < x.1 then cdK s.ds a s.nd k d.toNat else -1)) (fun x => s.nd - x.1) ((0, -1)) (At2 (by first | rfl | exact at_int rfl (by omega) | exact at_slice rfl (by omega) | exact at_int rfl (by simp)) (by first | rfl | exact at_int rfl (by omega) | exact at_slice rfl (by omega) | exact at_int rfl (by simp))) ?_ ?_
          · exact ⟨Ext.refl _, by dsimp only; omega, by dsimp only; rw [if_neg (by omega)]⟩
          · rintro ⟨i, x⟩ g w9 ⟨he9, hi, hx⟩
            dsimp only at hi hx
            have q1 : ((i, x) : Nat × Int).1 = i := rfl
            have q2 : ((i, x) : Nat × Int).2 = x := rfl
            have o1 := ho78.ext he9
            have o2 := ho8.ext he9
            have k1 := hk1.ext he9
            have k2 := hk2.ext he9
            refine J.seq ?_
            refine J.seq ?_
            refine J.region ?_
            refine L.va rfl (X.move (by conv => lhs; whnf)) ?_
            refine L.va rfl (X.move (by conv => lhs; whnf)) ?_
            refine L.va rfl (X.len rfl Try.underlying28) ?_
            refine L.va rfl (X.lss rfl rfl) ?_
            refine L.nil ?_
            -- cond
            refine J.dec rfl (fun hlt2 => ?_) (fun hlt2 => ?_)
            · have hil : i < s.nd := by dsimp only at hlt2; omega
              refine J.skip ?_
              refine J.seq ?_
              refine J.block ?_
              refine J.seq ?_
              refine J.seq ?_
              -- draw
              refine J.quiet mixed (by kernel_rfl) ?_
              refine Qt.va rfl (fun w' hw => X.move (by conv => lhs; whnf)) ?_
              refine Qt.va rfl (fun w' hw => X.move (by conv => lhs; whnf)) ?_
              refine Qt.va rfl (fun w' hw => (by first | exact X.index1n rfl rfl Try.underlying28 sz_3 (by first | exact Option.some_ne_none _ | exact own_ne o1 (by omega) | exact own_ne o2 (by omega)) (by omega) | exact X.index1 rfl rfl Try.underlying28 sz_3 (by first | exact Option.some_ne_none _ | exact own_ne o1 (by omega) | exact own_ne o2 (by omega)) (by omega))) ?_
              refine Qt.va rfl (fun w' hw => X.load rfl sc_3 (by first | exact Ld.blk (k1.ext hw) rfl | exact Ld.blk (k2.ext hw) rfl | exact Ld.own (o1.ext hw) (by omega) | exact Ld.own (o2.ext hw) (by omega))) ?_
              refine Qt.va rfl (fun w' hw => X.move (by conv => lhs; whnf)) ?_
              refine Qt.va rfl (fun w' hw => X.move (by conv => lhs; whnf)) ?_
              refine Qt.va rfl (fun w' hw => (by first | exact X.index1n rfl rfl Try.underlying28 sz_3 (by first | exact Option.some_ne_none _ | exact own_ne o1 (by omega) | exact own_ne o2 (by omega)) (by omega) | exact X.index1 rfl rfl Try.underlying28 sz_3 (by first | exact Option.some_ne_none _ | exact own_ne o1 (by omega) | exact own_ne o2 (by omega)) (by omega))) ?_
              refine Qt.va rfl (fun w' hw => X.load rfl sc_3 (by first | exact Ld.blk (k1.ext hw) rfl | exact Ld.blk (k2.ext hw) rfl | exact Ld.own (o1.ext hw) (by omega) | exact Ld.own (o2.ext hw) (by omega))) ?_
              refine Qt.va rfl (fun w' hw => X.neq rfl rfl) ?_
              refine Qt.nil (fun w10 hq => ?_)
              replace k1 := k1.ext hq
              replace k2 := k2.ext hq
              replace o1 := o1.ext hq
              replace o2 := o2.ext hq
              -- cond
              refine J.ndecF rfl (by omega) ?_
              refine J.skip ?_
              refine J.seq ?_
              refine J.region ?_
              refine L.va rfl (X.move (by conv => lhs; whnf)) ?_
              refine L.va rfl (X.fieldAddr rfl Try.underlying49 rfl sz_3 (by decide)) ?_
              refine L.va rfl (X.load rfl sc_3 (by first | exact Ld.blk k1 rfl | exact Ld.blk k2 rfl | exact Ld.own o1 (by omega) | exact Ld.own o2 (by omega))) ?_
              refine L.va rfl (X.eql rfl rfl) ?_
              refine L.nil ?_
              -- cond
              refine J.dec rfl (fun hd1 => ?_) (fun hd1 => ?_)
              · have hd1' : (i : Int) = d := hd1
                refine J.region ?_
                refine L.va rfl (X.move (by conv => lhs; whnf)) ?_
                refine L.va rfl (X.move (by conv => lhs; whnf)) ?_
                refine L.va rfl ((by first | exact X.index1n rfl rfl Try.underlying28 sz_3 (by first | exact Option.some_ne_none _ | exact own_ne o1 (by omega) | exact own_ne o2 (by omega)) (by omega) | exact X.index1 rfl rfl Try.underlying28 sz_3 (by first | exact Option.some_ne_none _ | exact own_ne o1 (by omega) | exact own_ne o2 (by omega)) (by omega))) ?_
                refine L.va rfl (X.load rfl sc_3 (by first | exact Ld.blk k1 rfl | exact Ld.blk k2 rfl | exact Ld.own o1 (by omega) | exact Ld.own o2 (by omega))) ?_
                refine L.va rfl (X.assign (by conv => lhs; whnf)) ?_
                refine L.nil ?_
                refine J.region ?_
                refine L.va rfl (X.move (by conv => lhs; whnf)) ?_
                refine L.va rfl (X.add rfl rfl (by omega)) ?_
                refine L.va rfl (X.assign (by conv => lhs; whnf)) ?_
                refine L.nil ?_
                -- loopend
                refine ⟨(i + 1, (coK s.ds a s.nd k).getD i 0), At2 (by first | rfl | exact at_int rfl (by omega) | exact at_slice rfl (by omega) | exact at_int rfl (by simp)) (by first | rfl | exact at_int rfl (by omega) | exact at_slice rfl (by omega) | exact at_int rfl (by simp)), (by (iterate 25 refine Agr.lk rfl ?_); exact Agr.lk rfl (Agr.hav rfl Agr.rfl')), ?_⟩
                refine ⟨⟨he9.trans hq, by dsimp only; omega, ?_⟩, by dsimp only; omega⟩
                dsimp only
                rw [if_pos (by omega), ← hd1', coK_at hil]
                rfl
              · have hd1' : ¬ (i : Int) = d := hd1
                refine J.skip ?_
                refine J.region ?_
                refine L.va rfl (X.move (by conv => lhs; whnf)) ?_
                refine L.va rfl (X.add rfl rfl (by omega)) ?_
                refine L.va rfl (X.assign (by conv => lhs; whnf)) ?_
                refine L.nil ?_
                -- loopend
                refine ⟨(i + 1, x), At2 (by first | rfl | exact at_int rfl (by omega) | exact at_slice rfl (by omega) | exact at_int rfl (by simp)) (by first | rfl | exact at_int rfl (by omega) | exact at_slice rfl (by omega) | exact at_int rfl (by simp)), (by (iterate 20 refine Agr.lk rfl ?_); exact Agr.lk rfl (Agr.hav rfl Agr.rfl')), ?_⟩
                refine ⟨⟨he9.trans hq, by dsimp only; omega, ?_⟩, by dsimp only; omega⟩
                dsimp only
                rw [hx]
                by_cases h5 : 0 ≤ d ∧ d < (i : Int)
                · rw [if_pos h5, if_pos (by omega)]
                · rw [if_neg h5, if_neg (by omega)]
            · obtain rfl : i = s.nd := by dsimp only at hlt2; omega
              refine J.exit ?_
              -- cutend
              refine ⟨x, At1 (by first | rfl | exact at_int rfl (by omega) | exact at_slice rfl (by omega) | exact at_int rfl (by simp)), (by (iterate 4 refine Agr.lk rfl ?_); refine Agr.lk rfl ?_; refine Agr.hav rfl ?_; (iterate 1 refine Agr.lk rfl ?_); exact Agr.rfl'), ?_⟩
              refine ⟨?_, he9⟩
              rw [hx, Sch.cdE, hE0]
              by_cases h5 : 0 ≤ d ∧ d < (s.nd : Int)
              · rw [if_pos h5, if_neg (by omega)]
              · rw [if_neg h5, if_pos (by omega)]
        · rintro x g w9 ⟨rfl, he9⟩
          have H9 := H8.ext he9
          have he09 := he08.trans he9
          replace hk1 := hk1.ext he9
          replace hk2 := hk2.ext he9
          replace ho78 := ho78.ext he9
          replace ho8 := ho8.ext he9
          refine J.seq ?_
          refine J.seq ?_
          refine J.region ?_
          refine L.va rfl (X.move (by conv => lhs; whnf)) ?_
          refine L.va rfl (X.move (by conv => lhs; whnf)) ?_
          refine L.va rfl (X.neq rfl rfl) ?_
          refine L.nil ?_
          -- cond
          refine J.ndecF rfl (by omega) ?_
          refine J.skip ?_
          refine J.seq ?_
          refine J.seq ?_
          refine J.region ?_
          refine L.va rfl (X.fieldAddr rfl Try.underlying49 rfl sz_27 (by decide)) ?_
          refine L.va rfl (X.load rfl sc_27 (by first | exact Ld.blk hk1 rfl | exact Ld.blk hk2 rfl | exact Ld.own ho78 (by omega) | exact Ld.own ho8 (by omega))) ?_
          refine L.va rfl (X.fieldAddr rfl Try.underlying49 rfl sz_27 (by decide)) ?_
          refine L.va rfl (X.load rfl sc_27 (by first | exact Ld.blk hk1 rfl | exact Ld.blk hk2 rfl | exact Ld.own ho78 (by omega) | exact Ld.own ho8 (by omega))) ?_
          -- callfn bushel/bushelref11.Sub
          refine L.call rfl en_18 rfl (rsub_any b a _ hb ha) ?_
          rintro e _ ⟨rfl, rfl⟩
          refine ⟨_, rfl, ?_⟩
          cases h3 : Mk.sb b a
          · have hD := Sch.dnE_11 (s := s) (a := a) (b := b) (k := k) hA h3
            rw [hD.1, hD.2]
            refine L.va rfl (X.not rfl) ?_
            refine L.nil ?_
            -- cond
            refine J.iteT rfl ?_
            refine J.seq ?_
            refine J.region ?_
            refine L.va rfl (X.move (by conv => lhs; whnf)) ?_
            refine L.va rfl (X.eql rfl rfl) ?_
            refine L.va rfl (X.move (by conv => lhs; whnf)) ?_
            -- case t149
            refine L.caseDecT (k := 149) rfl (by rfl) ?_
            refine L.va rfl (X.move (by conv => lhs; whnf)) ?_
            refine L.va rfl (X.eql rfl rfl) ?_
            refine L.va rfl (X.pickT rfl (by conv => lhs; whnf)) ?_
            refine L.va rfl (X.move (by conv => lhs; whnf)) ?_
            -- case t153
            refine L.caseDecT (k := 153) rfl (by rfl) ?_
            -- callfn bushel/bushellaw13.awake
            refine L.call rfl en_15 rfl (awake13 _) ?_
            rintro e w10 ⟨rfl, he10⟩
            refine ⟨_, rfl, ?_⟩
            refine L.va rfl (X.pickT rfl (by conv => lhs; whnf)) ?_
            refine L.va rfl (X.assign (by conv => lhs; whnf)) ?_
            refine L.nil ?_
            -- ret
            refine J.ret ?_
            refine thn_ret <| ?_
            refine fin1 ?_
            exact ⟨rfl, he09.trans he10⟩
          · have hD := Sch.dnE_0 (s := s) (a := a) (b := b) (k := k) hA h3 (by omega)
            rw [hD.1, hD.2]
            refine L.va rfl (X.not rfl) ?_
            refine L.nil ?_
            -- cond
            refine J.iteF rfl ?_
            refine J.skip ?_
            refine J.seq ?_
            refine J.region ?_
            refine L.va rfl (X.move (by conv => lhs; whnf)) ?_
            refine L.va rfl (X.eql rfl rfl) ?_
            refine L.va rfl (X.move (by conv => lhs; whnf)) ?_
            -- case t158
            refine L.caseDecT (k := 158) rfl (by rfl) ?_
            refine L.va rfl (X.move (by conv => lhs; whnf)) ?_
            refine L.va rfl ((by first | exact X.loadAgg rfl (range_l hk1) Try.underlying26 rfl (by kernel_rfl) | exact X.loadAgg rfl (range_blk hk1) Try.underlying26 rfl (by kernel_rfl) | exact X.loadAgg rfl (range_l hk2) Try.underlying26 rfl (by kernel_rfl) | exact X.loadAgg rfl (range_blk hk2) Try.underlying26 rfl (by kernel_rfl))) ?_
            refine L.va rfl (X.fieldAddr rfl Try.underlying49 rfl sz_27 (by decide)) ?_
            refine L.va rfl (X.load rfl sc_27 (by first | exact Ld.blk hk1 rfl | exact Ld.blk hk2 rfl | exact Ld.own ho78 (by omega) | exact Ld.own ho8 (by omega))) ?_
            refine L.va rfl (X.fieldAddr rfl Try.underlying49 rfl sz_27 (by decide)) ?_
            refine L.va rfl (X.load rfl sc_27 (by first | exact Ld.blk hk1 rfl | exact Ld.blk hk2 rfl | exact Ld.own ho78 (by omega) | exact Ld.own ho8 (by omega))) ?_
            refine L.va rfl (X.fieldAddr rfl Try.underlying49 rfl sz_31 (by decide)) ?_
            refine L.va rfl (X.load rfl sc_31 (by first | exact Ld.blk hk1 rfl | exact Ld.blk hk2 rfl | exact Ld.own ho78 (by omega) | exact Ld.own ho8 (by omega))) ?_
            -- callfn bushel/bushelref13.Down
            refine L.call rfl en_27 rfl (H9.rdown ha hb k hk hA h3) ?_
            rintro e w10 ⟨rfl, he10⟩
            refine ⟨_, rfl, ?_⟩
            have he10 : Ext w9 w10 := he10
            replace hk1 := hk1.ext he10
            replace hk2 := hk2.ext he10
            replace ho78 := ho78.ext he10
            replace ho8 := ho8.ext he10
            refine L.va rfl (X.eql rfl rfl) ?_
            refine L.va rfl (X.pickT rfl (by conv => lhs; whnf)) ?_
            refine L.va rfl (X.move (by conv => lhs; whnf)) ?_
            -- case t170
            refine L.caseDecT (k := 170) rfl (by rfl) ?_
            -- callfn bushel/bushellaw13.awake
            refine L.call rfl en_15 rfl (awake13 _) ?_
            rintro e w11 ⟨rfl, he11⟩
            refine ⟨_, rfl, ?_⟩
            refine L.va rfl (X.pickT rfl (by conv => lhs; whnf)) ?_
            refine L.va rfl (X.assign (by conv => lhs; whnf)) ?_
            refine L.nil ?_
            -- ret
            refine J.ret ?_
            refine fin1 ?_
            exact ⟨rfl, (he09.trans he10).trans he11⟩
end Go.Proofs.Ytmiieppcoknmfaa
