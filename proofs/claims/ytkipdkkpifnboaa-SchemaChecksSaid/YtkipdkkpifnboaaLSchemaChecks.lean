/-
  The law SchemaChecks, walked: every schema and set.
-/
import Derived.Test.YtkipdkkpifnboaaWSchG
import Derived.Test.YtkipdkkpifnboaaWAdvT
import Derived.Test.YtkipdkkpifnboaaHoaG
namespace Go.Proofs.Ytkipdkkpifnboaa
set_option maxRecDepth 100000
open Go.RowKit H
set_option linter.unusedVariables false
def aA : ByteArray := { data := #[97] }
def aB : ByteArray := { data := #[98] }
theorem blk_readsN {w : World} {t b q sz B : Nat} {l : List Value} (h : Blk w b t l.toArray) (hb : b < B) (hl : l.length = q * sz) : Reads w B sz (some ⟨b, 0, none⟩) q l := by
  refine ⟨hl, fun _ => ⟨⟨b, 0, none⟩, rfl, hb, fun j u hu => ?_⟩⟩
  have := h.cell j
  rw [Addr.add_mid, Nat.zero_add, this]
  simpa using hu
abbrev sA (b1 b2 : Nat) : Sch := ⟨some ⟨b1, 0, none⟩, 2, 2, none, 0, 0, none, 0, 0, some ⟨b2, 0, none⟩, 1, 1, [(aA, 2), (aB, 3)], [], [], [1]⟩
theorem sA_code (b1 b2 : Nat) : (sA b1 b2).code = 0 := by
  show chk 2 0 0 1 [(aA, 2), (aB, 3)] [] [] [1] = 0
  decide +kernel
theorem sA_k3 (b1 b2 : Nat) : kyP (sA b1 b2).ds 3 (sA b1 b2).nd = 6 := by
  show kyP [(aA, 2), (aB, 3)] 3 2 = 6
  decide +kernel
theorem sA_k1 (b1 b2 : Nat) : kyP (sA b1 b2).ds 1 (sA b1 b2).nd = 2 := by
  show kyP [(aA, 2), (aB, 3)] 1 2 = 2
  decide +kernel
theorem sA_here (b1 b2 : Nat) {w : World} (h1 : Blk w b1 114 (dimsV [(aA, 2), (aB, 3)]).toArray) (h2 : Blk w b2 29 (nums .u32 [1]).toArray) : (sA b1 b2).Here w :=
  ⟨blk_readsN h1 h1.lt rfl, Reads.none_, Reads.none_, blk_reads h2 h2.lt rfl, fun i => by
    match i with
    | 0 => exact (show (0 : Int) ≤ 1 ∧ (1 : Int) < 4294967296 by decide)
    | i + 1 => exact ⟨by simp, by simp⟩, (show 2 ≤ 100 ∧ 0 ≤ 100 ∧ 0 ≤ 100 ∧ 1 ≤ 100 by decide)⟩
theorem awake11 (w : World) : Calls Try.prog 24 #[] w fun e w' => e = .returned (.bool true) ∧ Ext w w' := by
  refine enter Try.func24 rfl (by kernel_rfl) ?_
  refine J.seq ?_
  refine J.region ?_
  refine L.va rfl (X.assign (by conv => lhs; whnf)) ?_
  refine L.nil ?_
  refine J.seq ?_
  refine J.region ?_
  refine L.va rfl (X.build (l := [_, _]) (Evs.cons (by conv => lhs; whnf) (Evs.cons (by conv => lhs; whnf) Evs.nil)) (bld_run Try.underlying114 (bp_114 Try.underlying114) zr_114 rfl)) ?_
  refine L.va rfl (X.build (l := [_, _]) (Evs.cons (by conv => lhs; whnf) (Evs.cons (by conv => lhs; whnf) Evs.nil)) (bld_run Try.underlying114 (bp_114 Try.underlying114) zr_114 rfl)) ?_
  -- buildSlice
  refine L.bsliceR (ls := [[_, _], [_, _]]) rfl (Evs.cons (by conv => lhs; whnf) (Evs.cons (by conv => lhs; whnf) Evs.nil)) rfl rfl rfl rfl Try.underlying39 sz_114 zr_114 (by decide) ?_
  intro b1 w1 hb1 hs1 hk1 he1
  -- buildSlice
  refine L.bslice (vs := [_]) rfl (Evs.cons (by conv => lhs; whnf) Evs.nil) rfl rfl rfl rfl Try.underlying23 sz_29 zr_29 (by decide) ?_
  intro b2 w2 hb2 hs2 hk2 he2
  refine L.va rfl (X.build (l := [_, _, _, _]) (Evs.cons (by conv => lhs; whnf) (Evs.cons (by conv => lhs; whnf) Evs.nil)) (bld_run Try.underlying42 (bp_42 Try.underlying42) zr_42 rfl)) ?_
  -- alloc
  refine L.alloc rfl zr_42 ?_
  intro b3 w3 hb3 hs3 hk3 he3
  -- store
  refine L.storeAgg (vs := [_, _, _, _]) rfl rfl rfl rfl sz_42 (hk3) rfl ?_
  intro w4 hk4 hg4 hs4
  have he14 : Ext w1 w4 := (he2.trans he3).grw hg4 (by intro g hg; injection hg with hg; omega)
  have he24 : Ext w2 w4 := he3.grw hg4 (by intro g hg; injection hg with hg; omega)
  have he04 := he1.trans he14
  have hk14 := hk1.ext he14
  have hk24 := hk2.ext he24
  have H4 : (sA b1 b2).Here w4 := sA_here b1 b2 hk14 hk24
  have hc := sA_code b1 b2
  have k3 := fun w => @Sch.Here.keys_ok (sA b1 b2) w
  refine L.nil ?_
  refine J.seq ?_
  refine J.region ?_
  refine L.va rfl ((by first | exact X.loadAgg rfl (range_l hk4) Try.underlying42 rfl (by kernel_rfl) | exact X.loadAgg rfl (range_blk hk4) Try.underlying42 rfl (by kernel_rfl))) ?_
  -- callfn bushel/schema.Keys
  have c1 := H4.keys_ok hc (m := 3) (show (3 : Int) ≤ 3 by decide)
  rw [sA_k3] at c1
  refine L.call rfl en_25 rfl (c1) ?_
  rintro e w5 ⟨rfl, he5⟩
  refine ⟨_, rfl, ?_⟩
  have he5 : Ext w4 w5 := he5
  have H5 := H4.ext he5
  replace hk4 := hk4.ext he5
  refine L.va rfl (X.move (by conv => lhs; whnf)) ?_
  refine L.va rfl (X.extract rfl rfl) ?_
  refine L.va rfl (X.extract rfl rfl) ?_
  refine L.va rfl (X.assign (by conv => lhs; whnf)) ?_
  refine L.va rfl (X.assign (by conv => lhs; whnf)) ?_
  refine L.nil ?_
  refine J.seq ?_
  refine J.region ?_
  refine L.va rfl ((by first | exact X.loadAgg rfl (range_l hk4) Try.underlying42 rfl (by kernel_rfl) | exact X.loadAgg rfl (range_blk hk4) Try.underlying42 rfl (by kernel_rfl))) ?_
  -- callfn bushel/schema.Keys
  have c2 := H5.keys_ok hc (m := 1) (show (1 : Int) ≤ 3 by decide)
  rw [sA_k1] at c2
  refine L.call rfl en_25 rfl (c2) ?_
  rintro e w6 ⟨rfl, he6⟩
  refine ⟨_, rfl, ?_⟩
  have he6 : Ext w5 w6 := he6
  have H6 := H5.ext he6
  replace hk4 := hk4.ext he6
  refine L.va rfl (X.move (by conv => lhs; whnf)) ?_
  refine L.va rfl (X.extract rfl rfl) ?_
  refine L.va rfl (X.extract rfl rfl) ?_
  refine L.va rfl (X.assign (by conv => lhs; whnf)) ?_
  refine L.va rfl (X.assign (by conv => lhs; whnf)) ?_
  refine L.nil ?_
  refine J.seq ?_
  refine J.region ?_
  refine L.va rfl ((by first | exact X.loadAgg rfl (range_l hk4) Try.underlying42 rfl (by kernel_rfl) | exact X.loadAgg rfl (range_blk hk4) Try.underlying42 rfl (by kernel_rfl))) ?_
  -- callfn bushel/schema.Check
  refine L.call rfl en_27 rfl (H6.check) ?_
  rintro e w7 ⟨rfl, he7⟩
  refine ⟨_, rfl, ?_⟩
  have he7 : Ext w6 w7 := he7
  have H7 := H6.ext he7
  replace hk4 := hk4.ext he7
  refine L.va rfl (X.eql rfl rfl) ?_
  refine L.va rfl (X.move (by conv => lhs; whnf)) ?_
  -- case t24
  refine L.caseDecT (k := 24) rfl (by exact hc) ?_
  refine L.va rfl ((by first | exact X.loadAgg rfl (range_l hk4) Try.underlying42 rfl (by kernel_rfl) | exact X.loadAgg rfl (range_blk hk4) Try.underlying42 rfl (by kernel_rfl))) ?_
  -- callfn bushel/schema.Full
  refine L.call rfl en_28 rfl (H7.full_ok hc) ?_
  rintro e w8 ⟨rfl, he8⟩
  refine ⟨_, rfl, ?_⟩
  have he8 : Ext w7 w8 := he8
  have H8 := H7.ext he8
  replace hk4 := hk4.ext he8
  refine L.va rfl (X.eql rfl rfl) ?_
  refine L.va rfl (X.pickT rfl (by conv => lhs; whnf)) ?_
  refine L.va rfl (X.move (by conv => lhs; whnf)) ?_
  -- case t29
  refine L.caseDecT (k := 29) rfl (by rfl) ?_
  refine L.va rfl ((by first | exact X.loadAgg rfl (range_l hk4) Try.underlying42 rfl (by kernel_rfl) | exact X.loadAgg rfl (range_blk hk4) Try.underlying42 rfl (by kernel_rfl))) ?_
  -- callfn bushel/schema.Views
  refine L.call rfl en_29 rfl (H8.views_ok hc) ?_
  rintro e w9 ⟨A9, c9, rfl, ho9, he9⟩
  refine ⟨_, rfl, ?_⟩
  have he9 : Ext w8 w9 := he9
  replace hk4 := hk4.ext he9
  -- buildSlice
  refine L.bslice (vs := [_, _]) rfl (Evs.cons (by conv => lhs; whnf) (Evs.cons (by conv => lhs; whnf) Evs.nil)) rfl rfl rfl rfl Try.underlying23 sz_29 zr_29 (by decide) ?_
  intro b10 w10 hb10 hs10 hk10 he10
  -- callfn bushel/bushelref11.Masks
  refine L.call rfl en_21 rfl (rmasks_same _ _ _ _ _ _ _ (own_reads (ho9.ext he10)) (blk_reads hk10 (by omega) rfl) (show 2 ≤ 9223372036854775807 by decide)) ?_
  rintro e w11 ⟨rfl, he11⟩
  refine ⟨_, rfl, ?_⟩
  have he11 : Ext w10 w11 := he11
  have he911 := he10.trans he11
  replace hk4 := hk4.ext he911
  refine L.va rfl (X.pickT rfl (by conv => lhs; whnf)) ?_
  refine L.va rfl (X.move (by conv => lhs; whnf)) ?_
  -- case t35
  refine L.caseBT (k := 35) rfl (by rfl) ?_
  refine L.va rfl (X.move (by conv => lhs; whnf)) ?_
  refine L.va rfl (X.pickT rfl (by conv => lhs; whnf)) ?_
  refine L.va rfl (X.move (by conv => lhs; whnf)) ?_
  -- case t38
  refine L.caseBT (k := 38) rfl (by rfl) ?_
  refine L.va rfl (X.move (by conv => lhs; whnf)) ?_
  refine L.va rfl (X.eql rfl rfl) ?_
  refine L.va rfl (X.pickT rfl (by conv => lhs; whnf)) ?_
  refine L.va rfl (X.move (by conv => lhs; whnf)) ?_
  -- case t42
  refine L.caseDecT (k := 42) rfl (by rfl) ?_
  refine L.va rfl (X.move (by conv => lhs; whnf)) ?_
  refine L.va rfl (X.pickT rfl (by conv => lhs; whnf)) ?_
  refine L.va rfl (X.move (by conv => lhs; whnf)) ?_
  -- case t45
  refine L.caseBT (k := 45) rfl (by rfl) ?_
  refine L.va rfl (X.move (by conv => lhs; whnf)) ?_
  refine L.va rfl (X.eql rfl rfl) ?_
  refine L.va rfl (X.pickT rfl (by conv => lhs; whnf)) ?_
  refine L.va rfl (X.assign (by conv => lhs; whnf)) ?_
  refine L.nil ?_
  -- ret
  refine J.ret ?_
  refine fin1 ?_
  exact ⟨rfl, (((((((he04.trans he5).trans he6).trans he7).trans he8).trans he9).trans he10).trans he11)⟩
theorem law_SchemaChecks (w : World) (vs0 : List Value) (a0 : (List ((Str) × (Nm .i64))) × (List (Str)) × (List (Str)) × (List (Nm .u32))) (hl0 : Lay.lies w w.heap.size vs0 a0) (x1 : Nm .u32) :
    Calls Try.prog 6 #[.agg vs0.toArray, .int .u32 x1.z] w fun e w' => e = .returned (.bool true) ∧ Below w.heap.size w w' := by
  obtain ⟨s, rfl, hH⟩ := sch_of hl0
  obtain ⟨m, hm⟩ := Int.eq_ofNat_of_zero_le x1.u32.1
  have hm32 : m < 4294967296 := by have := x1.u32.2; omega
  rw [hm]
  refine enter Try.func6 rfl (by kernel_rfl) ?_
  refine J.seq ?_
  refine J.region ?_
  -- box
  refine L.boxA (l := [_, _, _, _]) rfl rfl ?_
  intro b1 w1 hb1 hs1 hk1 he1
  refine L.va rfl (X.assign (by conv => lhs; whnf)) ?_
  refine L.nil ?_
  refine J.seq ?_
  refine J.seq ?_
  refine J.region ?_
  refine L.va rfl ((by first | exact X.loadAgg rfl (range_l hk1) Try.underlying42 rfl (by kernel_rfl) | exact X.loadAgg rfl (range_blk hk1) Try.underlying42 rfl (by kernel_rfl))) ?_
  -- callfn bushel/bushelref11.Light
  refine L.call rfl en_23 rfl ((hH.ext he1).light) ?_
  rintro e w2 ⟨b, rfl, hbb, he2⟩
  refine ⟨_, rfl, ?_⟩
  have he2 : Ext w1 w2 := he2
  have he02 := he1.trans he2
  replace hk1 := hk1.ext he2
  refine L.va rfl (X.not rfl) ?_
  refine L.nil ?_
  -- cond
  cases b
  · refine J.iteT rfl ?_
    refine J.seq ?_
    refine J.region ?_
    -- callfn bushel/bushellaw11.awake
    refine L.call rfl en_24 rfl (awake11 _) ?_
    rintro e w3 ⟨rfl, he3⟩
    refine ⟨_, rfl, ?_⟩
    refine L.va rfl (X.assign (by conv => lhs; whnf)) ?_
    refine L.nil ?_
    -- ret
    refine J.ret ?_
    refine thn_ret <| ?_
    refine fin1 ?_
    exact ⟨rfl, he02.trans he3⟩
  · have H2 : s.Here w2 := (hH.ext he02).here (hbb rfl)
    refine J.iteF rfl ?_
    refine J.skip ?_
    refine J.seq ?_
    refine J.region ?_
    refine L.va rfl ((by first | exact X.loadAgg rfl (range_l hk1) Try.underlying42 rfl (by kernel_rfl) | exact X.loadAgg rfl (range_blk hk1) Try.underlying42 rfl (by kernel_rfl))) ?_
    refine L.va rfl (X.move (by conv => lhs; whnf)) ?_
    -- callfn bushel/schema.Keys
    refine L.call rfl en_25 rfl (H2.keys hm32) ?_
    rintro e w3 ⟨rfl, he3⟩
    refine ⟨_, rfl, ?_⟩
    have he3 : Ext w2 w3 := he3
    have H3 := H2.ext he3
    replace hk1 := hk1.ext he3
    refine L.va rfl (X.move (by conv => lhs; whnf)) ?_
    refine L.va rfl (X.extract rfl rfl) ?_
    refine L.va rfl (X.extract rfl rfl) ?_
    refine L.va rfl (X.assign (by conv => lhs; whnf)) ?_
    refine L.va rfl (X.assign (by conv => lhs; whnf)) ?_
    refine L.nil ?_
    refine J.seq ?_
    refine J.seq ?_
    refine J.region ?_
    refine L.va rfl ((by first | exact X.loadAgg rfl (range_l hk1) Try.underlying42 rfl (by kernel_rfl) | exact X.loadAgg rfl (range_blk hk1) Try.underlying42 rfl (by kernel_rfl))) ?_
    -- callfn bushel/bushelref11.Check
    refine L.call rfl en_26 rfl (H3.rcheck) ?_
    rintro e w4 ⟨rfl, he4⟩
    refine ⟨_, rfl, ?_⟩
    have he4 : Ext w3 w4 := he4
    have H4 := H3.ext he4
    have he04 := (he02.trans he3).trans he4
    replace hk1 := hk1.ext he4
    refine L.va rfl (X.assign (by conv => lhs; whnf)) ?_
    refine L.nil ?_
    refine J.seq ?_
    refine J.region ?_
    refine L.va rfl (X.move (by conv => lhs; whnf)) ?_
    refine L.va rfl (X.neq rfl rfl) ?_
    refine L.nil ?_
    -- cond
    refine J.ndec rfl (fun hc => ?_) (fun hc => ?_)
    · have hkv : s.kv m = 0 := by rw [Sch.kv, if_neg (fun h => hc h.1)]
      have hkb : s.kb m = false := by rw [Sch.kb]; exact decide_eq_false (fun h => hc h.1)
      rw [hkv, hkb]
      refine J.seq ?_
      refine J.region ?_
      refine L.va rfl ((by first | exact X.loadAgg rfl (range_l hk1) Try.underlying42 rfl (by kernel_rfl) | exact X.loadAgg rfl (range_blk hk1) Try.underlying42 rfl (by kernel_rfl))) ?_
      -- callfn bushel/schema.Check
      refine L.call rfl en_27 rfl (H4.check) ?_
      rintro e w5 ⟨rfl, he5⟩
      refine ⟨_, rfl, ?_⟩
      have he5 : Ext w4 w5 := he5
      have H5 := H4.ext he5
      replace hk1 := hk1.ext he5
      refine L.va rfl (X.move (by conv => lhs; whnf)) ?_
      refine L.va rfl (X.eql rfl rfl) ?_
      refine L.va rfl (X.move (by conv => lhs; whnf)) ?_
      -- case t26
      refine L.caseDecT (k := 26) rfl (by rfl) ?_
      refine L.va rfl ((by first | exact X.loadAgg rfl (range_l hk1) Try.underlying42 rfl (by kernel_rfl) | exact X.loadAgg rfl (range_blk hk1) Try.underlying42 rfl (by kernel_rfl))) ?_
      -- callfn bushel/schema.Full
      refine L.call rfl en_28 rfl (H5.full_no hc) ?_
      rintro e w6 ⟨rfl, he6⟩
      refine ⟨_, rfl, ?_⟩
      have he6 : Ext w5 w6 := he6
      have H6 := H5.ext he6
      replace hk1 := hk1.ext he6
      refine L.va rfl (X.eql rfl rfl) ?_
      refine L.va rfl (X.pickT rfl (by conv => lhs; whnf)) ?_
      refine L.va rfl (X.move (by conv => lhs; whnf)) ?_
      -- case t31
      refine L.caseDecT (k := 31) rfl (by rfl) ?_
      refine L.va rfl ((by first | exact X.loadAgg rfl (range_l hk1) Try.underlying42 rfl (by kernel_rfl) | exact X.loadAgg rfl (range_blk hk1) Try.underlying42 rfl (by kernel_rfl))) ?_
      -- callfn bushel/schema.Views
      refine L.call rfl en_29 rfl (H6.views_no hc) ?_
      rintro e w7 ⟨rfl, he7⟩
      refine ⟨_, rfl, ?_⟩
      have he7 : Ext w6 w7 := he7
      replace hk1 := hk1.ext he7
      refine L.va rfl (X.len rfl Try.underlying23) ?_
      refine L.va rfl (X.eql rfl rfl) ?_
      refine L.va rfl (X.pickT rfl (by conv => lhs; whnf)) ?_
      refine L.va rfl (X.move (by conv => lhs; whnf)) ?_
      -- case t37
      refine L.caseDecT (k := 37) rfl (by rfl) ?_
      refine L.va rfl (X.move (by conv => lhs; whnf)) ?_
      refine L.va rfl (X.eql rfl rfl) ?_
      refine L.va rfl (X.pickT rfl (by conv => lhs; whnf)) ?_
      refine L.va rfl (X.move (by conv => lhs; whnf)) ?_
      -- case t41
      refine L.caseDecT (k := 41) rfl (by rfl) ?_
      refine L.va rfl (X.move (by conv => lhs; whnf)) ?_
      refine L.va rfl (X.not rfl) ?_
      refine L.va rfl (X.pickT rfl (by conv => lhs; whnf)) ?_
      refine L.va rfl (X.move (by conv => lhs; whnf)) ?_
      -- case t45
      refine L.caseBT (k := 45) rfl (by rfl) ?_
      -- callfn bushel/bushellaw11.awake
      refine L.call rfl en_24 rfl (awake11 _) ?_
      rintro e w8 ⟨rfl, he8⟩
      refine ⟨_, rfl, ?_⟩
      have he8 : Ext w7 w8 := he8
      refine L.va rfl (X.pickT rfl (by conv => lhs; whnf)) ?_
      refine L.va rfl (X.assign (by conv => lhs; whnf)) ?_
      refine L.nil ?_
      -- ret
      refine J.ret ?_
      refine thn_ret <| ?_
      refine fin1 ?_
      exact ⟨rfl, (((he04.trans he5).trans he6).trans he7).trans he8⟩
    · have hc0 : s.code = 0 := by omega
      have hF := Sch.F_bd hc0
      have hle := H4.hle
      refine J.skip ?_
      -- until
      refine J.cut (X := Unit) [4, 48, 49, 50, 51, 52, 53, 54, 55, 56, 57, 58, 59, 60, 61, 62, 63, 64, 65] (fun _ => []) (fun _ w' => Ext w4 w') ?_ ?_
      · refine J.seq ?_
        -- draw
        refine J.draw (S := Ext w4) mixed (fun w5 hS hS_h => ?_)
        refine D.va 0 rfl (by kernel_rfl) (fun _ _ _ h => h) rfl (fun w' hw => (by first | exact X.loadAgg rfl (range_l (hk1.ext hw)) Try.underlying42 rfl (by kernel_rfl) | exact X.loadAgg rfl (range_blk (hk1.ext hw)) Try.underlying42 rfl (by kernel_rfl))) hS ?_
        -- callfn bushel/schema.Check
        refine D.one 1 (by kernel_rfl) rfl ?_
        refine L.call rfl en_27 rfl ((H4.ext hS).check) ?_
        rintro e w6 ⟨rfl, he6⟩
        refine ⟨_, rfl, ?_⟩
        have hS1 := hS.trans he6
        refine L.nil ?_
        refine ⟨hS1, ?_⟩
        refine D.va 2 rfl (by kernel_rfl) (fun _ _ _ h => h) rfl (fun w' hw => X.neq rfl rfl) hS1 ?_
        refine D.va 3 rfl (by kernel_rfl) (fun _ _ _ h => h) rfl (fun w' hw => X.move (by conv => lhs; whnf)) hS1 ?_
        -- case t51
        refine D.caseNdecF (k := 51) rfl (by omega) ?_
        refine D.va 4 rfl (by kernel_rfl) (fun _ _ _ h => h) rfl (fun w' hw => (by first | exact X.loadAgg rfl (range_l (hk1.ext hw)) Try.underlying42 rfl (by kernel_rfl) | exact X.loadAgg rfl (range_blk (hk1.ext hw)) Try.underlying42 rfl (by kernel_rfl))) hS1 ?_
        refine D.va 6 rfl (by kernel_rfl) (fun _ _ _ h => h) rfl (fun w' hw => (by first | exact X.loadAgg rfl (range_l (hk1.ext hw)) Try.underlying42 rfl (by kernel_rfl) | exact X.loadAgg rfl (range_blk (hk1.ext hw)) Try.underlying42 rfl (by kernel_rfl))) hS1 ?_
        -- callfn bushel/schema.Full
        refine D.one 5 (by kernel_rfl) rfl ?_
        refine L.call rfl en_28 rfl ((H4.ext hS1).full_ok hc0) ?_
        rintro e w7 ⟨rfl, he7⟩
        refine ⟨_, rfl, ?_⟩
        have hS2 := hS1.trans he7
        refine L.nil ?_
        refine ⟨hS2, ?_⟩
        -- callfn bushel/bushelref11.Full
        refine D.one 7 (by kernel_rfl) rfl ?_
        refine L.call rfl en_30 rfl ((H4.ext hS2).rfull hc0) ?_
        rintro e w8 ⟨rfl, he8⟩
        refine ⟨_, rfl, ?_⟩
        have hS3 := hS2.trans he8
        refine L.nil ?_
        refine ⟨hS3, ?_⟩
        refine D.va 8 rfl (by kernel_rfl) (fun _ _ _ h => h) rfl (fun w' hw => X.neq rfl rfl) hS3 ?_
        refine D.va 9 rfl (by kernel_rfl) (fun _ _ _ h => h) rfl (fun w' hw => X.pickF rfl (by conv => lhs; whnf)) hS3 ?_
        refine D.va 10 rfl (by kernel_rfl) (fun _ _ _ h => h) rfl (fun w' hw => X.move (by conv => lhs; whnf)) hS3 ?_
        -- case t58
        refine D.caseNdecF (k := 58) rfl (by omega) ?_
        refine D.va 11 rfl (by kernel_rfl) (fun _ _ _ h => h) rfl (fun w' hw => (by first | exact X.loadAgg rfl (range_l (hk1.ext hw)) Try.underlying42 rfl (by kernel_rfl) | exact X.loadAgg rfl (range_blk (hk1.ext hw)) Try.underlying42 rfl (by kernel_rfl))) hS3 ?_
        refine D.va 13 rfl (by kernel_rfl) (fun _ _ _ h => h) rfl (fun w' hw => (by first | exact X.loadAgg rfl (range_l (hk1.ext hw)) Try.underlying42 rfl (by kernel_rfl) | exact X.loadAgg rfl (range_blk (hk1.ext hw)) Try.underlying42 rfl (by kernel_rfl))) hS3 ?_
        -- callfn bushel/schema.Views
        refine D.one 12 (by kernel_rfl) rfl ?_
        refine L.call rfl en_29 rfl ((H4.ext hS3).views_ok hc0) ?_
        rintro e w9 ⟨A9, c9, rfl, ho9, he9⟩
        refine ⟨_, rfl, ?_⟩
        have hS4 := hS3.trans he9
        refine L.nil ?_
        refine ⟨hS4, ?_⟩
        have he9 : Ext w8 w9 := he9
        -- callfn bushel/bushelref11.Views
        refine D.one 14 (by kernel_rfl) rfl ?_
        refine L.call rfl en_31 rfl ((H4.ext hS4).rviews hc0) ?_
        rintro e w10 ⟨A10, c10, rfl, ho10, he10⟩
        refine ⟨_, rfl, ?_⟩
        have hS5 := hS4.trans he10
        refine L.nil ?_
        refine ⟨hS5, ?_⟩
        have he10 : Ext w9 w10 := he10
        -- callfn bushel/bushelref11.Masks
        refine D.one 15 (by kernel_rfl) rfl ?_
        refine L.call rfl en_21 rfl (rmasks_same _ _ _ _ _ _ _ (((own_reads ho9).ext he10).here (by decide)) (own_reads ho10) (by omega)) ?_
        rintro e w11 ⟨rfl, he11⟩
        refine ⟨_, rfl, ?_⟩
        have hS6 := hS5.trans he11
        refine L.nil ?_
        refine ⟨hS6, ?_⟩
        refine D.va 16 rfl (by kernel_rfl) (fun _ _ _ h => h) rfl (fun w' hw => X.not rfl) hS6 ?_
        refine D.va 17 rfl (by kernel_rfl) (fun _ _ _ h => h) rfl (fun w' hw => X.pickF rfl (by conv => lhs; whnf)) hS6 ?_
        refine D.done (by kernel_rfl) ?_
        replace hk1 := hk1.ext hS6
        -- cond
        refine J.iteF rfl ?_
        refine J.skip ?_
        -- cutend
        refine ⟨(), At0 , (by (iterate 20 refine Agr.lk rfl ?_); exact Agr.rfl'), ?_⟩
        exact hS6
      · rintro _ g w5 he5
        have he5 : Ext w4 w5 := he5
        have H5 := H4.ext he5
        replace hk1 := hk1.ext he5
        have he05 := he04.trans he5
        refine J.seq ?_
        refine J.seq ?_
        refine J.region ?_
        refine L.va rfl (X.move (by conv => lhs; whnf)) ?_
        refine L.va rfl ((by first | exact X.loadAgg rfl (range_l hk1) Try.underlying42 rfl (by kernel_rfl) | exact X.loadAgg rfl (range_blk hk1) Try.underlying42 rfl (by kernel_rfl))) ?_
        -- callfn bushel/bushelref11.Full
        refine L.call rfl en_30 rfl (H5.rfull hc0) ?_
        rintro e w6 ⟨rfl, he6⟩
        refine ⟨_, rfl, ?_⟩
        have he6 : Ext w5 w6 := he6
        have H6 := H5.ext he6
        have he06 := he05.trans he6
        replace hk1 := hk1.ext he6
        -- callfn bushel/bushelref11.Sub
        refine L.call rfl en_32 rfl (Sch.Here.rsub (w := w6) hc0 hm32) ?_
        rintro e _ ⟨rfl, rfl⟩
        refine ⟨_, rfl, ?_⟩
        refine L.va rfl (X.not rfl) ?_
        refine L.nil ?_
        -- cond
        refine J.ite rfl (fun hm => ?_) (fun hm => ?_)
        · have hm' : ¬ (m : Int) ≤ s.F := nd_t hm
          have hkv : s.kv m = 0 := by rw [Sch.kv, if_neg (fun h => hm' h.2)]
          have hkb : s.kb m = false := by rw [Sch.kb]; exact decide_eq_false (fun h => hm' h.2)
          rw [hkv, hkb]
          refine J.seq ?_
          refine J.region ?_
          refine L.va rfl (X.move (by conv => lhs; whnf)) ?_
          refine L.va rfl (X.eql rfl rfl) ?_
          refine L.va rfl (X.move (by conv => lhs; whnf)) ?_
          -- case t73
          refine L.caseDecT (k := 73) rfl (by rfl) ?_
          refine L.va rfl (X.move (by conv => lhs; whnf)) ?_
          refine L.va rfl (X.not rfl) ?_
          refine L.va rfl (X.pickT rfl (by conv => lhs; whnf)) ?_
          refine L.va rfl (X.move (by conv => lhs; whnf)) ?_
          -- case t77
          refine L.caseBT (k := 77) rfl (by rfl) ?_
          -- callfn bushel/bushellaw11.awake
          refine L.call rfl en_24 rfl (awake11 _) ?_
          rintro e w7 ⟨rfl, he7⟩
          refine ⟨_, rfl, ?_⟩
          refine L.va rfl (X.pickT rfl (by conv => lhs; whnf)) ?_
          refine L.va rfl (X.assign (by conv => lhs; whnf)) ?_
          refine L.nil ?_
          -- ret
          refine J.ret ?_
          refine thn_ret <| ?_
          refine fin1 ?_
          exact ⟨rfl, he06.trans he7⟩
        · have hm' : (m : Int) ≤ s.F := nd_f hm
          have hkv : s.kv m = kyP s.ds m s.nd := by rw [Sch.kv, if_pos ⟨hc0, hm'⟩]
          have hkb : s.kb m = true := by rw [Sch.kb]; exact decide_eq_true ⟨hc0, hm'⟩
          rw [hkv, hkb]
          refine J.skip ?_
          refine J.seq ?_
          refine J.region ?_
          refine L.va rfl (X.move (by conv => lhs; whnf)) ?_
          refine L.va rfl (X.move (by conv => lhs; whnf)) ?_
          -- case t81
          refine L.caseBT (k := 81) rfl (by rfl) ?_
          refine L.va rfl (X.move (by conv => lhs; whnf)) ?_
          refine L.va rfl ((by first | exact X.loadAgg rfl (range_l hk1) Try.underlying42 rfl (by kernel_rfl) | exact X.loadAgg rfl (range_blk hk1) Try.underlying42 rfl (by kernel_rfl))) ?_
          refine L.va rfl (X.move (by conv => lhs; whnf)) ?_
          -- callfn bushel/bushelref11.Keys
          refine L.call rfl en_33 rfl (H6.rkeys hc0 hm32) ?_
          rintro e w7 ⟨rfl, he7⟩
          refine ⟨_, rfl, ?_⟩
          have he7 : Ext w6 w7 := he7
          replace hk1 := hk1.ext he7
          refine L.va rfl (X.eql rfl rfl) ?_
          refine L.va rfl (X.pickT rfl (by conv => lhs; whnf)) ?_
          refine L.va rfl (X.move (by conv => lhs; whnf)) ?_
          -- case t88
          refine L.caseDecT (k := 88) rfl (by rfl) ?_
          -- callfn bushel/bushellaw11.awake
          refine L.call rfl en_24 rfl (awake11 _) ?_
          rintro e w8 ⟨rfl, he8⟩
          refine ⟨_, rfl, ?_⟩
          refine L.va rfl (X.pickT rfl (by conv => lhs; whnf)) ?_
          refine L.va rfl (X.assign (by conv => lhs; whnf)) ?_
          refine L.nil ?_
          -- ret
          refine J.ret ?_
          refine fin1 ?_
          exact ⟨rfl, (he06.trans he7).trans he8⟩
end Go.Proofs.Ytkipdkkpifnboaa
