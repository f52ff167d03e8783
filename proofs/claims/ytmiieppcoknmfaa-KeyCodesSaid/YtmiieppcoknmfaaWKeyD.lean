/-
  Keys: Down in the reference; the chapter's example.
-/
import Derived.Test.YtmiieppcoknmfaaWKeyC
namespace Go.Proofs.Ytmiieppcoknmfaa
set_option maxRecDepth 100000
open Go.RowKit H
set_option linter.unusedVariables false
namespace Sch
theorem Here.rdown {s : Sch} {w : World} (h : s.Here w) {a b : Nat} (ha : a < 4294967296) (hb : b < 4294967296) (k : Int) (hk : 0 ≤ k ∧ k ≤ 18446744073709551615) (hA : s.askE a = 0) (hs : Mk.sb b a = true) :
    Calls Try.prog 27 #[s.val, .int .u32 (a : Int), .int .u32 (b : Int), .int .u64 k] w fun e w' => e = .returned (.int .u64 (kyO s.ds b (coK s.ds a s.nd k) s.nd)) ∧ Ext w w' := by
  obtain ⟨hc, hF⟩ := askE_0 hA
  obtain ⟨g0, g1⟩ := good hc
  have hO := okO_co (m := a) g1 (Mk.sb_iff.1 hs) k
  refine enter Try.func27 rfl (by kernel_rfl) ?_
  refine J.seq ?_
  refine J.region ?_
  -- box
  refine L.boxA (l := [_, _, _, _]) rfl rfl ?_
  intro b1 w1 hb1 hs1 hk1 he1
  refine L.va rfl (X.assign (by conv => lhs; whnf)) ?_
  refine L.nil ?_
  refine J.seq ?_
  -- draw
  refine J.draw (S := Ext w1) mixed (fun w2 hS hS_h => ?_)
  refine D.va 0 rfl (by kernel_rfl) (fun _ _ _ h => h) rfl (fun w' hw => (by first | exact X.loadAgg rfl (range_l (hk1.ext hw)) Try.underlying26 rfl (by kernel_rfl) | exact X.loadAgg rfl (range_blk (hk1.ext hw)) Try.underlying26 rfl (by kernel_rfl))) hS ?_
  refine D.va 1 rfl (by kernel_rfl) (fun _ _ _ h => h) rfl (fun w' hw => X.move (by conv => lhs; whnf)) hS ?_
  refine D.va 2 rfl (by kernel_rfl) (fun _ _ _ h => h) rfl (fun w' hw => (by first | exact X.loadAgg rfl (range_l (hk1.ext hw)) Try.underlying26 rfl (by kernel_rfl) | exact X.loadAgg rfl (range_blk (hk1.ext hw)) Try.underlying26 rfl (by kernel_rfl))) hS ?_
  refine D.va 3 rfl (by kernel_rfl) (fun _ _ _ h => h) rfl (fun w' hw => X.move (by conv => lhs; whnf)) hS ?_
  refine D.va 4 rfl (by kernel_rfl) (fun _ _ _ h => h) rfl (fun w' hw => X.move (by conv => lhs; whnf)) hS ?_
  -- callfn bushel/bushelref13.Codes
  refine D.one 5 (by kernel_rfl) rfl ?_
  refine L.call rfl en_26 rfl ((h.ext (he1.trans hS)).rcodes hc ha k hk) ?_
  rintro e w3 ⟨A, c, rfl, ho, he3⟩
  refine ⟨_, rfl, ?_⟩
  have hS1 := hS.trans he3
  refine L.nil ?_
  refine ⟨hS1, ?_⟩
  have he3 : Ext w2 w3 := he3
  -- callfn bushel/bushelref13.Of
  refine D.one 6 (by kernel_rfl) rfl ?_
  refine L.call rfl en_22 rfl ((h.ext (he1.trans hS1)).rof hc hb A s.nd c _ (own_reads ho) rfl hO) ?_
  rintro e w4 ⟨rfl, he4⟩
  refine ⟨_, rfl, ?_⟩
  have hS2 := hS1.trans he4
  refine L.nil ?_
  refine ⟨hS2, ?_⟩
  refine D.va 7 rfl (by kernel_rfl) (fun _ _ _ h => h) rfl (fun w' hw => X.assign (by conv => lhs; whnf)) hS2 ?_
  refine D.done (by kernel_rfl) ?_
  replace hk1 := hk1.ext hS2
  -- ret
  refine J.ret ?_
  refine fin1 ?_
  exact ⟨rfl, he1.trans hS2⟩
end Sch
def aC : ByteArray := { data := #[99] }
abbrev sB (b : Nat) : Sch := ⟨some ⟨b, 0, none⟩, 3, 3, none, 0, 0, none, 0, 0, none, 0, 0, [(aA, 2), (aB, 3), (aC, 4)], [], [], []⟩
theorem sB_code (b : Nat) : (sB b).code = 0 := by
  show chk 3 0 0 0 [(aA, 2), (aB, 3), (aC, 4)] [] [] [] = 0
  decide +kernel
theorem sB_ask (b m : Nat) (h : m ≤ 7) : (sB b).askE m = 0 := by
  rw [Sch.askE, if_neg (fun k => k (sB_code b)), if_pos (show (m : Int) ≤ (sB b).F from (show (m : Int) ≤ 7 by omega))]
theorem sB_of (b m : Nat) (h : m ≤ 7) (ho : okO [(aA, 2), (aB, 3), (aC, 4)] m [1, 2, 3] 3 = true) : (sB b).ofE m 3 [1, 2, 3] = 0 ∧ (sB b).ofK m 3 [1, 2, 3] = kyO [(aA, 2), (aB, 3), (aC, 4)] m [1, 2, 3] 3 := Sch.ofE_0 (sB_ask b m h) rfl ho
theorem sB_here (b : Nat) {w : World} (h1 : Blk w b 40 (dimsV [(aA, 2), (aB, 3), (aC, 4)]).toArray) : (sB b).Here w :=
  ⟨blk_readsN h1 h1.lt rfl, Reads.none_, Reads.none_, Reads.none_, fun i => ⟨by simp, by simp⟩, (show 3 ≤ 100 ∧ 0 ≤ 100 ∧ 0 ≤ 100 ∧ 0 ≤ 100 by decide)⟩
theorem awake13 (w : World) : Calls Try.prog 15 #[] w fun e w' => e = .returned (.bool true) ∧ Ext w w' := by
  refine enter Try.func15 rfl (by kernel_rfl) ?_
  refine J.seq ?_
  refine J.region ?_
  refine L.va rfl (X.assign (by conv => lhs; whnf)) ?_
  refine L.nil ?_
  refine J.seq ?_
  refine J.region ?_
  refine L.va rfl (X.build (l := [_, _]) (Evs.cons (by conv => lhs; whnf) (Evs.cons (by conv => lhs; whnf) Evs.nil)) (bld_run Try.underlying40 (bp_40 Try.underlying40) zr_40 rfl)) ?_
  refine L.va rfl (X.build (l := [_, _]) (Evs.cons (by conv => lhs; whnf) (Evs.cons (by conv => lhs; whnf) Evs.nil)) (bld_run Try.underlying40 (bp_40 Try.underlying40) zr_40 rfl)) ?_
  refine L.va rfl (X.build (l := [_, _]) (Evs.cons (by conv => lhs; whnf) (Evs.cons (by conv => lhs; whnf) Evs.nil)) (bld_run Try.underlying40 (bp_40 Try.underlying40) zr_40 rfl)) ?_
  -- buildSlice
  refine L.bsliceR (ls := [[_, _], [_, _], [_, _]]) rfl (Evs.cons (by conv => lhs; whnf) (Evs.cons (by conv => lhs; whnf) (Evs.cons (by conv => lhs; whnf) Evs.nil))) rfl rfl rfl rfl Try.underlying22 sz_40 zr_40 (by decide) ?_
  intro b1 w1 hb1 hs1 hk1 he1
  refine L.va rfl (X.build (l := [_, _, _, _]) (Evs.cons (by conv => lhs; whnf) Evs.nil) (bld_run Try.underlying26 (bp_26 Try.underlying26) zr_26 rfl)) ?_
  -- alloc
  refine L.alloc rfl zr_26 ?_
  intro b2 w2 hb2 hs2 hk2 he2
  -- store
  refine L.storeAgg (vs := [_, _, _, _]) rfl rfl rfl rfl sz_26 (hk2) rfl ?_
  intro w3 hk3 hg3 hs3
  have he13 : Ext w1 w3 := he2.grw hg3 (by intro g hg; injection hg with hg; omega)
  have he03 := he1.trans he13
  have hk13 := hk1.ext he13
  have H3 : (sB b1).Here w3 := sB_here b1 hk13
  refine L.nil ?_
  refine J.seq ?_
  refine J.region ?_
  refine L.va rfl ((by first | exact X.loadAgg rfl (range_l hk3) Try.underlying26 rfl (by kernel_rfl) | exact X.loadAgg rfl (range_blk hk3) Try.underlying26 rfl (by kernel_rfl))) ?_
  -- buildSlice
  refine L.bslice (vs := [_, _, _]) rfl (Evs.cons (by conv => lhs; whnf) (Evs.cons (by conv => lhs; whnf) (Evs.cons (by conv => lhs; whnf) Evs.nil))) rfl rfl rfl rfl Try.underlying28 sz_3 zr_3 (by decide) ?_
  intro b4 w4 hb4 hs4 hk4 he4
  have H4 := H3.ext he4
  replace hk3 := hk3.ext he4
  have c1 := H4.of (m := 7) (by decide) _ 3 3 [1, 2, 3] (blk_reads hk4 (by omega) rfl) (by decide)
  rw [(sB_of b1 7 (by decide) (by decide)).1, (sB_of b1 7 (by decide) (by decide)).2] at c1
  -- callfn bushel/key.Of
  refine L.call rfl en_16 rfl (c1) ?_
  rintro e w5 ⟨rfl, he5⟩
  refine ⟨_, rfl, ?_⟩
  have he5 : Ext w4 w5 := he5
  have H5 := H4.ext he5
  replace hk3 := hk3.ext he5
  refine L.va rfl (X.move (by conv => lhs; whnf)) ?_
  refine L.va rfl (X.extract rfl rfl) ?_
  refine L.va rfl (X.extract rfl rfl) ?_
  refine L.va rfl (X.assign (by conv => lhs; whnf)) ?_
  refine L.va rfl (X.assign (by conv => lhs; whnf)) ?_
  refine L.nil ?_
  refine J.seq ?_
  refine J.region ?_
  refine L.va rfl ((by first | exact X.loadAgg rfl (range_l hk3) Try.underlying26 rfl (by kernel_rfl) | exact X.loadAgg rfl (range_blk hk3) Try.underlying26 rfl (by kernel_rfl))) ?_
  -- buildSlice
  refine L.bslice (vs := [_, _, _]) rfl (Evs.cons (by conv => lhs; whnf) (Evs.cons (by conv => lhs; whnf) (Evs.cons (by conv => lhs; whnf) Evs.nil))) rfl rfl rfl rfl Try.underlying28 sz_3 zr_3 (by decide) ?_
  intro b6 w6 hb6 hs6 hk6 he6
  have H6 := H5.ext he6
  replace hk3 := hk3.ext he6
  have c2 := H6.of (m := 5) (by decide) _ 3 3 [1, 2, 3] (blk_reads hk6 (by omega) rfl) (by decide)
  rw [(sB_of b1 5 (by decide) (by decide)).1, (sB_of b1 5 (by decide) (by decide)).2] at c2
  -- callfn bushel/key.Of
  refine L.call rfl en_16 rfl (c2) ?_
  rintro e w7 ⟨rfl, he7⟩
  refine ⟨_, rfl, ?_⟩
  have he7 : Ext w6 w7 := he7
  have H7 := H6.ext he7
  replace hk3 := hk3.ext he7
  refine L.va rfl (X.move (by conv => lhs; whnf)) ?_
  refine L.va rfl (X.extract rfl rfl) ?_
  refine L.va rfl (X.extract rfl rfl) ?_
  refine L.va rfl (X.assign (by conv => lhs; whnf)) ?_
  refine L.va rfl (X.assign (by conv => lhs; whnf)) ?_
  refine L.nil ?_
  refine J.seq ?_
  refine J.region ?_
  refine L.va rfl (X.move (by conv => lhs; whnf)) ?_
  refine L.va rfl (X.eql rfl rfl) ?_
  refine L.va rfl (X.move (by conv => lhs; whnf)) ?_
  -- case t25
  refine L.caseDecT (k := 25) rfl (by rfl) ?_
  refine L.va rfl (X.move (by conv => lhs; whnf)) ?_
  refine L.va rfl (X.eql rfl rfl) ?_
  refine L.va rfl (X.pickT rfl (by conv => lhs; whnf)) ?_
  refine L.va rfl (X.move (by conv => lhs; whnf)) ?_
  -- case t29
  refine L.caseDecT (k := 29) rfl (by rfl) ?_
  refine L.va rfl (X.move (by conv => lhs; whnf)) ?_
  refine L.va rfl (X.eql rfl rfl) ?_
  refine L.va rfl (X.pickT rfl (by conv => lhs; whnf)) ?_
  refine L.va rfl (X.move (by conv => lhs; whnf)) ?_
  -- case t33
  refine L.caseDecT (k := 33) rfl (by rfl) ?_
  refine L.va rfl (X.move (by conv => lhs; whnf)) ?_
  refine L.va rfl (X.eql rfl rfl) ?_
  refine L.va rfl (X.pickT rfl (by conv => lhs; whnf)) ?_
  refine L.va rfl (X.move (by conv => lhs; whnf)) ?_
  -- case t37
  refine L.caseDecT (k := 37) rfl (by rfl) ?_
  refine L.va rfl ((by first | exact X.loadAgg rfl (range_l hk3) Try.underlying26 rfl (by kernel_rfl) | exact X.loadAgg rfl (range_blk hk3) Try.underlying26 rfl (by kernel_rfl))) ?_
  -- callfn bushel/key.Code
  have c3 := H7.code1 (m := 7) (by decide) 23 (by decide) 1
  have e3 : (sB b1).coE 7 23 = 0 := (Sch.coE_0 (sB_ask b1 7 (by decide)) (show ¬ kyP [(aA, 2), (aB, 3), (aC, 4)] 7 3 ≤ 23 by decide)).1
  rw [Sch.cdE, e3, if_neg (show ¬ ((0 : Int) ≠ 0 ∨ (1 : Int) < 0 ∨ ((3 : Nat) : Int) ≤ 1) by decide), show cdK (sB b1).ds 7 (sB b1).nd 23 (Int.toNat 1) = 2 from (show cdK [(aA, 2), (aB, 3), (aC, 4)] 7 3 23 1 = 2 by decide)] at c3
  refine L.call rfl en_23 rfl (c3) ?_
  rintro e w8 ⟨rfl, he8⟩
  refine ⟨_, rfl, ?_⟩
  refine L.va rfl (X.eql rfl rfl) ?_
  refine L.va rfl (X.pickT rfl (by conv => lhs; whnf)) ?_
  refine L.va rfl (X.assign (by conv => lhs; whnf)) ?_
  refine L.nil ?_
  -- ret
  refine J.ret ?_
  refine fin1 ?_
  exact ⟨rfl, ((((he03.trans he4).trans he5).trans he6).trans he7).trans he8⟩
end Go.Proofs.Ytmiieppcoknmfaa
