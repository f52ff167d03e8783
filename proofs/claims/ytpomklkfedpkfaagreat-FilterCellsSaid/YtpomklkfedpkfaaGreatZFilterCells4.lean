import Derived.Laws.BitsAllLaws
import Derived.Test.YtpomklkfedpkfaaGreatZFilterCells3
/-
  What the law leans on, part 4: WNumG, WCelL, HeapPlain, SrtPlain, NrmPlain, SrtI, SrtIB, SrtBits, SrtIC.
-/
namespace Go.Proofs.YtpomklkfedpkfaaGreat
set_option maxRecDepth 100000
open Go.RowKit H
open Num Exa Flo Dfp
set_option linter.unusedVariables false
theorem okQ_no {q : List Int} {n : Nat} (hl : q.length = n) (h7 : n ≤ 7) (h : 0 < n) (h0 : q.getD (n - 1) 0 = 0) : okQ q = false := by
  unfold okQ
  rw [hl, decide_eq_true h7, decide_eq_false (fun k => k h h0)]
  rfl
theorem okQ_yes {q : List Int} {n : Nat} (hl : q.length = n) (h7 : n ≤ 7) (h : 0 < n → q.getD (n - 1) 0 ≠ 0) : okQ q = true := by
  unfold okQ
  rw [hl, decide_eq_true h7, decide_eq_true h]
  rfl
theorem rright14 {s : Sch} {m : Nat} {x : Ce} {w : World} {N : Nat} (H : s.Here w) (hm : m < 4294967296) (hN : N ≤ w.heap.size) (hx : x.At N w) (hL : x.Lt) : Calls Tryz.prog 41 #[s.val, .int .u32 (m : Int), x.val] w fun e w' => e = .returned (.bool (rightC s m x.con)) ∧ Ext w w' := by
 have li := hx.li
 have lr := hx.lr
 have Li := hL.i
 have Lr := hL.r
 have hle := H.hle
 have no : ∀ w' : World, rightC s m x.con = false → Ext w w' → Ending.returned (.bool false) = .returned (.bool (rightC s m x.con)) ∧ Ext w w' := fun w' h he => ⟨by rw [h], he⟩
 refine enter Tryz.func41 rfl (by kernel_rfl) ?_
 refine J.seq ?_
 refine J.region ?_
 refine L.boxA (l := [_, _, _, _]) rfl rfl ?_
 intro b1 w1 hb1 hs1 hk1 he1
 refine L.boxA (l := [_, _, _, _]) rfl rfl ?_
 intro b2 w2 hb2 hs2 hk2 he2
 have he02 := he1.trans he2
 have hk1 := hk1.ext he2
 have hk2 : Blk w2 b2 52 x.vs.toArray := hk2
 refine L.va rfl (X.assign (by conv => lhs; whnf)) ?_
 refine L.nil ?_
 refine J.cut (X := Unit) [6, 12, 13, 14, 15, 16, 17, 18, 19, 20, 21, 22, 23, 24, 25, 26, 27, 28, 29, 30, 31, 32, 33, 34, 35, 36, 37, 38, 39, 40, 41, 42, 43, 44, 45, 46, 47, 48, 49, 50, 51, 52] (fun _ => []) (fun _ w' => s.kb m = true ∧ ((x.k : Int) < s.kv m ∧ 1 ≤ x.t ∧ x.is.length = s.n1 ∧ x.rs.length = s.n2) ∧ Ext w2 w') ?_ ?_
 ·refine J.seq ?_
  refine J.draw (ℓ := 1000000) (S := Ext w2) mixed (fun w3 hS hS_h => ?_)
  refine D.va 0 rfl (by kernel_rfl) (fun _ _ _ h => h) rfl (fun w' hw => (by first | exact X.loadAgg rfl (range_l (hk1.ext hw)) Tryz.underlying26 rfl (by kernel_rfl) | exact X.loadAgg rfl (range_blk (hk1.ext hw)) Tryz.underlying26 rfl (by kernel_rfl) | exact X.loadAgg rfl (range_l (hk2.ext hw)) Tryz.underlying26 rfl (by kernel_rfl) | exact X.loadAgg rfl (range_blk (hk2.ext hw)) Tryz.underlying26 rfl (by kernel_rfl))) hS ?_
  have H3 := (H.ext he02).ext hS
  refine D.one 1 (by kernel_rfl) rfl ?_
  refine L.call rfl en_38 rfl (H3.rcheck) ?_
  rintro e w4 ⟨rfl, he4⟩
  refine ⟨_, rfl, ?_⟩
  have hS1 := hS.trans he4
  refine L.nil ?_
  refine ⟨fun _ => hS1, ?_⟩
  have H4 := H3.ext he4
  have he04 := he02.trans hS1
  refine D.va 2 rfl (by kernel_rfl) (fun _ _ _ h => h) rfl (fun w' hw => X.neq rfl rfl) hS1 ?_
  refine D.va 3 rfl (by kernel_rfl) (fun _ _ _ h => h) rfl (fun w' hw => X.move (by conv => lhs; whnf)) hS1 ?_
  rcases (show ¬ s.code = 0 ∨ (s.code = 0 ∧ ¬ (m : Int) ≤ s.F) ∨ (s.code = 0 ∧ (m : Int) ≤ s.F) by omega) with hc | ⟨hc, hF⟩ | ⟨hc, hF⟩
  ·refine D.caseNdecT (k := 15) rfl (by exact hc) ?_
   refine D.no 4 rfl (by kernel_rfl) (fun _ _ _ h => h) rfl hS1 ?_
   refine D.no 5 rfl (by kernel_rfl) (fun _ _ _ h => h) rfl hS1 ?_
   refine D.no 6 rfl (by kernel_rfl) (fun _ _ _ h => h) rfl hS1 ?_
   refine D.no 7 rfl (by kernel_rfl) (fun _ _ _ h => h) rfl hS1 ?_
   refine D.no 8 rfl (by kernel_rfl) (fun _ _ _ h => h) rfl hS1 ?_
   refine D.va 9 rfl (by kernel_rfl) (fun _ _ _ h => h) rfl (fun w' hw => X.pickT rfl (by conv => lhs; whnf)) hS1 ?_
   refine D.va 10 rfl (by kernel_rfl) (fun _ _ _ h => h) rfl (fun w' hw => X.move (by conv => lhs; whnf)) hS1 ?_
   refine D.no 11 rfl (by kernel_rfl) (fun _ _ _ h => h) rfl hS1 ?_
   refine D.no 12 rfl (by kernel_rfl) (fun _ _ _ h => h) rfl hS1 ?_
   refine D.no 13 rfl (by kernel_rfl) (fun _ _ _ h => h) rfl hS1 ?_
   refine D.no 14 rfl (by kernel_rfl) (fun _ _ _ h => h) rfl hS1 ?_
   refine D.no 15 rfl (by kernel_rfl) (fun _ _ _ h => h) rfl hS1 ?_
   refine D.no 16 rfl (by kernel_rfl) (fun _ _ _ h => h) rfl hS1 ?_
   refine D.va 17 rfl (by kernel_rfl) (fun _ _ _ h => h) rfl (fun w' hw => X.pickT rfl (by conv => lhs; whnf)) hS1 ?_
   refine D.va 18 rfl (by kernel_rfl) (fun _ _ _ h => h) rfl (fun w' hw => X.move (by conv => lhs; whnf)) hS1 ?_
   refine D.no 19 rfl (by kernel_rfl) (fun _ _ _ h => h) rfl hS1 ?_
   refine D.no 20 rfl (by kernel_rfl) (fun _ _ _ h => h) rfl hS1 ?_
   refine D.no 21 rfl (by kernel_rfl) (fun _ _ _ h => h) rfl hS1 ?_
   refine D.va 22 rfl (by kernel_rfl) (fun _ _ _ h => h) rfl (fun w' hw => X.pickT rfl (by conv => lhs; whnf)) hS1 ?_
   refine D.va 23 rfl (by kernel_rfl) (fun _ _ _ h => h) rfl (fun w' hw => X.move (by conv => lhs; whnf)) hS1 ?_
   refine D.no 24 rfl (by kernel_rfl) (fun _ _ _ h => h) rfl hS1 ?_
   refine D.no 25 rfl (by kernel_rfl) (fun _ _ _ h => h) rfl hS1 ?_
   refine D.no 26 rfl (by kernel_rfl) (fun _ _ _ h => h) rfl hS1 ?_
   refine D.no 27 rfl (by kernel_rfl) (fun _ _ _ h => h) rfl hS1 ?_
   refine D.no 28 rfl (by kernel_rfl) (fun _ _ _ h => h) rfl hS1 ?_
   refine D.no 29 rfl (by kernel_rfl) (fun _ _ _ h => h) rfl hS1 ?_
   refine D.no 30 rfl (by kernel_rfl) (fun _ _ _ h => h) rfl hS1 ?_
   refine D.va 31 rfl (by kernel_rfl) (fun _ _ _ h => h) rfl (fun w' hw => X.pickT rfl (by conv => lhs; whnf)) hS1 ?_
   refine D.va 32 rfl (by kernel_rfl) (fun _ _ _ h => h) rfl (fun w' hw => X.move (by conv => lhs; whnf)) hS1 ?_
   refine D.no 33 rfl (by kernel_rfl) (fun _ _ _ h => h) rfl hS1 ?_
   refine D.no 34 rfl (by kernel_rfl) (fun _ _ _ h => h) rfl hS1 ?_
   refine D.no 35 rfl (by kernel_rfl) (fun _ _ _ h => h) rfl hS1 ?_
   refine D.no 36 rfl (by kernel_rfl) (fun _ _ _ h => h) rfl hS1 ?_
   refine D.no 37 rfl (by kernel_rfl) (fun _ _ _ h => h) rfl hS1 ?_
   refine D.no 38 rfl (by kernel_rfl) (fun _ _ _ h => h) rfl hS1 ?_
   refine D.no 39 rfl (by kernel_rfl) (fun _ _ _ h => h) rfl hS1 ?_
   refine D.va 40 rfl (by kernel_rfl) (fun _ _ _ h => h) rfl (fun w' hw => X.pickT rfl (by conv => lhs; whnf)) hS1 ?_
   refine D.done (by kernel_rfl) ?_
   replace hk1 := hk1.ext hS1
   replace hk2 := hk2.ext hS1
   refine J.iteT rfl ?_
   refine J.seq ?_
   refine J.region ?_
   refine L.va rfl (X.assign (by conv => lhs; whnf)) ?_
   refine L.nil ?_
   refine J.ret ?_
   refine thn_ret <| ?_
   refine fin1 ?_
   exact no _ (rightC_kb (by unfold Sch.kb; exact decide_eq_false (fun h => hc h.1))) he04
  ·refine D.caseNdecF (k := 15) rfl (by exact hc) ?_
   refine D.va 4 rfl (by kernel_rfl) (fun _ _ _ h => h) rfl (fun w' hw => X.move (by conv => lhs; whnf)) hS1 ?_
   refine D.va 5 rfl (by kernel_rfl) (fun _ _ _ h => h) rfl (fun w' hw => (by first | exact X.loadAgg rfl (range_l (hk1.ext hw)) Tryz.underlying26 rfl (by kernel_rfl) | exact X.loadAgg rfl (range_blk (hk1.ext hw)) Tryz.underlying26 rfl (by kernel_rfl) | exact X.loadAgg rfl (range_l (hk2.ext hw)) Tryz.underlying26 rfl (by kernel_rfl) | exact X.loadAgg rfl (range_blk (hk2.ext hw)) Tryz.underlying26 rfl (by kernel_rfl))) hS1 ?_
   refine D.one 6 (by kernel_rfl) rfl ?_
   refine L.call rfl en_39 rfl (H4.rfull hc) ?_
   rintro e w5 ⟨rfl, he5⟩
   refine ⟨_, rfl, ?_⟩
   have hS2 := hS1.trans he5
   refine L.nil ?_
   refine ⟨fun _ => hS2, ?_⟩
   have H5 := H4.ext he5
   refine D.one 7 (by kernel_rfl) rfl ?_
   refine L.call rfl en_23 rfl ((Sch.Here.rsub hc hm)) ?_
   rintro e _ ⟨rfl, rfl⟩
   refine ⟨_, rfl, ?_⟩
   have hS3 := hS2
   refine L.nil ?_
   refine ⟨fun _ => hS3, ?_⟩
   refine D.va 8 rfl (by kernel_rfl) (fun _ _ _ h => h) rfl (fun w' hw => X.not rfl) hS3 ?_
   refine D.va 9 rfl (by kernel_rfl) (fun _ _ _ h => h) rfl (fun w' hw => X.pickF rfl (by conv => lhs; whnf)) hS3 ?_
   refine D.va 10 rfl (by kernel_rfl) (fun _ _ _ h => h) rfl (fun w' hw => X.move (by conv => lhs; whnf)) hS3 ?_
   refine D.caseBT (k := 22) rfl (by (rw [decide_eq_false hF]; rfl)) ?_
   refine D.no 11 rfl (by kernel_rfl) (fun _ _ _ h => h) rfl hS3 ?_
   refine D.no 12 rfl (by kernel_rfl) (fun _ _ _ h => h) rfl hS3 ?_
   refine D.no 13 rfl (by kernel_rfl) (fun _ _ _ h => h) rfl hS3 ?_
   refine D.no 14 rfl (by kernel_rfl) (fun _ _ _ h => h) rfl hS3 ?_
   refine D.no 15 rfl (by kernel_rfl) (fun _ _ _ h => h) rfl hS3 ?_
   refine D.no 16 rfl (by kernel_rfl) (fun _ _ _ h => h) rfl hS3 ?_
   refine D.va 17 rfl (by kernel_rfl) (fun _ _ _ h => h) rfl (fun w' hw => X.pickT rfl (by conv => lhs; whnf)) hS3 ?_
   refine D.va 18 rfl (by kernel_rfl) (fun _ _ _ h => h) rfl (fun w' hw => X.move (by conv => lhs; whnf)) hS3 ?_
   refine D.no 19 rfl (by kernel_rfl) (fun _ _ _ h => h) rfl hS3 ?_
   refine D.no 20 rfl (by kernel_rfl) (fun _ _ _ h => h) rfl hS3 ?_
   refine D.no 21 rfl (by kernel_rfl) (fun _ _ _ h => h) rfl hS3 ?_
   refine D.va 22 rfl (by kernel_rfl) (fun _ _ _ h => h) rfl (fun w' hw => X.pickT rfl (by conv => lhs; whnf)) hS3 ?_
   refine D.va 23 rfl (by kernel_rfl) (fun _ _ _ h => h) rfl (fun w' hw => X.move (by conv => lhs; whnf)) hS3 ?_
   refine D.no 24 rfl (by kernel_rfl) (fun _ _ _ h => h) rfl hS3 ?_
   refine D.no 25 rfl (by kernel_rfl) (fun _ _ _ h => h) rfl hS3 ?_
   refine D.no 26 rfl (by kernel_rfl) (fun _ _ _ h => h) rfl hS3 ?_
   refine D.no 27 rfl (by kernel_rfl) (fun _ _ _ h => h) rfl hS3 ?_
   refine D.no 28 rfl (by kernel_rfl) (fun _ _ _ h => h) rfl hS3 ?_
   refine D.no 29 rfl (by kernel_rfl) (fun _ _ _ h => h) rfl hS3 ?_
   refine D.no 30 rfl (by kernel_rfl) (fun _ _ _ h => h) rfl hS3 ?_
   refine D.va 31 rfl (by kernel_rfl) (fun _ _ _ h => h) rfl (fun w' hw => X.pickT rfl (by conv => lhs; whnf)) hS3 ?_
   refine D.va 32 rfl (by kernel_rfl) (fun _ _ _ h => h) rfl (fun w' hw => X.move (by conv => lhs; whnf)) hS3 ?_
   refine D.no 33 rfl (by kernel_rfl) (fun _ _ _ h => h) rfl hS3 ?_
   refine D.no 34 rfl (by kernel_rfl) (fun _ _ _ h => h) rfl hS3 ?_
   refine D.no 35 rfl (by kernel_rfl) (fun _ _ _ h => h) rfl hS3 ?_
   refine D.no 36 rfl (by kernel_rfl) (fun _ _ _ h => h) rfl hS3 ?_
   refine D.no 37 rfl (by kernel_rfl) (fun _ _ _ h => h) rfl hS3 ?_
   refine D.no 38 rfl (by kernel_rfl) (fun _ _ _ h => h) rfl hS3 ?_
   refine D.no 39 rfl (by kernel_rfl) (fun _ _ _ h => h) rfl hS3 ?_
   refine D.va 40 rfl (by kernel_rfl) (fun _ _ _ h => h) rfl (fun w' hw => X.pickT rfl (by conv => lhs; whnf)) hS3 ?_
   refine D.done (by kernel_rfl) ?_
   replace hk1 := hk1.ext hS3
   replace hk2 := hk2.ext hS3
   refine J.iteT rfl ?_
   refine J.seq ?_
   refine J.region ?_
   refine L.va rfl (X.assign (by conv => lhs; whnf)) ?_
   refine L.nil ?_
   refine J.ret ?_
   refine thn_ret <| ?_
   refine fin1 ?_
   exact no _ (rightC_kb (by unfold Sch.kb; exact decide_eq_false (fun h => hF h.2))) (he02.trans hS2)
  ·have hkb : s.kb m = true := decide_eq_true ⟨hc, hF⟩
   have hkv : s.kv m = kyP s.ds m s.nd := if_pos ⟨hc, hF⟩
   refine D.caseNdecF (k := 15) rfl (by exact hc) ?_
   refine D.va 4 rfl (by kernel_rfl) (fun _ _ _ h => h) rfl (fun w' hw => X.move (by conv => lhs; whnf)) hS1 ?_
   refine D.va 5 rfl (by kernel_rfl) (fun _ _ _ h => h) rfl (fun w' hw => (by first | exact X.loadAgg rfl (range_l (hk1.ext hw)) Tryz.underlying26 rfl (by kernel_rfl) | exact X.loadAgg rfl (range_blk (hk1.ext hw)) Tryz.underlying26 rfl (by kernel_rfl) | exact X.loadAgg rfl (range_l (hk2.ext hw)) Tryz.underlying26 rfl (by kernel_rfl) | exact X.loadAgg rfl (range_blk (hk2.ext hw)) Tryz.underlying26 rfl (by kernel_rfl))) hS1 ?_
   refine D.one 6 (by kernel_rfl) rfl ?_
   refine L.call rfl en_39 rfl (H4.rfull hc) ?_
   rintro e w5 ⟨rfl, he5⟩
   refine ⟨_, rfl, ?_⟩
   have hS2 := hS1.trans he5
   refine L.nil ?_
   refine ⟨fun _ => hS2, ?_⟩
   have H5 := H4.ext he5
   refine D.one 7 (by kernel_rfl) rfl ?_
   refine L.call rfl en_23 rfl ((Sch.Here.rsub hc hm)) ?_
   rintro e _ ⟨rfl, rfl⟩
   refine ⟨_, rfl, ?_⟩
   have hS3 := hS2
   refine L.nil ?_
   refine ⟨fun _ => hS3, ?_⟩
   refine D.va 8 rfl (by kernel_rfl) (fun _ _ _ h => h) rfl (fun w' hw => X.not rfl) hS3 ?_
   refine D.va 9 rfl (by kernel_rfl) (fun _ _ _ h => h) rfl (fun w' hw => X.pickF rfl (by conv => lhs; whnf)) hS3 ?_
   refine D.va 10 rfl (by kernel_rfl) (fun _ _ _ h => h) rfl (fun w' hw => X.move (by conv => lhs; whnf)) hS3 ?_
   refine D.caseBF (k := 22) rfl (by (rw [decide_eq_true hF]; rfl)) ?_
   refine D.va 11 rfl (by kernel_rfl) (fun _ _ _ h => h) rfl (fun w' hw => X.fieldAddr rfl Tryz.underlying52 rfl sz_48 (by decide)) hS3 ?_
   refine D.va 12 rfl (by kernel_rfl) (fun _ _ _ h => h) rfl (fun w' hw => X.load rfl sc_48 (by first | exact Ld.blk (hk1.ext hw) rfl | exact Ld.blk (hk2.ext hw) rfl)) hS3 ?_
   refine D.va 13 rfl (by kernel_rfl) (fun _ _ _ h => h) rfl (fun w' hw => (by first | exact X.loadAgg rfl (range_l (hk1.ext hw)) Tryz.underlying26 rfl (by kernel_rfl) | exact X.loadAgg rfl (range_blk (hk1.ext hw)) Tryz.underlying26 rfl (by kernel_rfl) | exact X.loadAgg rfl (range_l (hk2.ext hw)) Tryz.underlying26 rfl (by kernel_rfl) | exact X.loadAgg rfl (range_blk (hk2.ext hw)) Tryz.underlying26 rfl (by kernel_rfl))) hS3 ?_
   refine D.va 14 rfl (by kernel_rfl) (fun _ _ _ h => h) rfl (fun w' hw => X.move (by conv => lhs; whnf)) hS3 ?_
   refine D.one 15 (by kernel_rfl) rfl ?_
   refine L.call rfl en_67 rfl (H5.rkeys hc hm) ?_
   rintro e w6 ⟨rfl, he6⟩
   refine ⟨_, rfl, ?_⟩
   have hS4 := hS3.trans he6
   refine L.nil ?_
   refine ⟨fun _ => hS4, ?_⟩
   have he06 := he02.trans hS4
   refine D.va 16 rfl (by kernel_rfl) (fun _ _ _ h => h) rfl (fun w' hw => X.geq rfl rfl) hS4 ?_
   refine D.va 17 rfl (by kernel_rfl) (fun _ _ _ h => h) rfl (fun w' hw => X.pickF rfl (by conv => lhs; whnf)) hS4 ?_
   refine D.va 18 rfl (by kernel_rfl) (fun _ _ _ h => h) rfl (fun w' hw => X.move (by conv => lhs; whnf)) hS4 ?_
   refine D.caseDec (k := 30) rfl (fun h1 => ?_) (fun h1 => ?_)
   ·refine D.no 19 rfl (by kernel_rfl) (fun _ _ _ h => h) rfl hS4 ?_
    refine D.no 20 rfl (by kernel_rfl) (fun _ _ _ h => h) rfl hS4 ?_
    refine D.no 21 rfl (by kernel_rfl) (fun _ _ _ h => h) rfl hS4 ?_
    refine D.va 22 rfl (by kernel_rfl) (fun _ _ _ h => h) rfl (fun w' hw => X.pickT rfl (by conv => lhs; whnf)) hS4 ?_
    refine D.va 23 rfl (by kernel_rfl) (fun _ _ _ h => h) rfl (fun w' hw => X.move (by conv => lhs; whnf)) hS4 ?_
    refine D.no 24 rfl (by kernel_rfl) (fun _ _ _ h => h) rfl hS4 ?_
    refine D.no 25 rfl (by kernel_rfl) (fun _ _ _ h => h) rfl hS4 ?_
    refine D.no 26 rfl (by kernel_rfl) (fun _ _ _ h => h) rfl hS4 ?_
    refine D.no 27 rfl (by kernel_rfl) (fun _ _ _ h => h) rfl hS4 ?_
    refine D.no 28 rfl (by kernel_rfl) (fun _ _ _ h => h) rfl hS4 ?_
    refine D.no 29 rfl (by kernel_rfl) (fun _ _ _ h => h) rfl hS4 ?_
    refine D.no 30 rfl (by kernel_rfl) (fun _ _ _ h => h) rfl hS4 ?_
    refine D.va 31 rfl (by kernel_rfl) (fun _ _ _ h => h) rfl (fun w' hw => X.pickT rfl (by conv => lhs; whnf)) hS4 ?_
    refine D.va 32 rfl (by kernel_rfl) (fun _ _ _ h => h) rfl (fun w' hw => X.move (by conv => lhs; whnf)) hS4 ?_
    refine D.no 33 rfl (by kernel_rfl) (fun _ _ _ h => h) rfl hS4 ?_
    refine D.no 34 rfl (by kernel_rfl) (fun _ _ _ h => h) rfl hS4 ?_
    refine D.no 35 rfl (by kernel_rfl) (fun _ _ _ h => h) rfl hS4 ?_
    refine D.no 36 rfl (by kernel_rfl) (fun _ _ _ h => h) rfl hS4 ?_
    refine D.no 37 rfl (by kernel_rfl) (fun _ _ _ h => h) rfl hS4 ?_
    refine D.no 38 rfl (by kernel_rfl) (fun _ _ _ h => h) rfl hS4 ?_
    refine D.no 39 rfl (by kernel_rfl) (fun _ _ _ h => h) rfl hS4 ?_
    refine D.va 40 rfl (by kernel_rfl) (fun _ _ _ h => h) rfl (fun w' hw => X.pickT rfl (by conv => lhs; whnf)) hS4 ?_
    refine D.done (by kernel_rfl) ?_
    replace hk1 := hk1.ext hS4
    replace hk2 := hk2.ext hS4
    refine J.iteT rfl ?_
    refine J.seq ?_
    refine J.region ?_
    refine L.va rfl (X.assign (by conv => lhs; whnf)) ?_
    refine L.nil ?_
    refine J.ret ?_
    refine thn_ret <| ?_
    refine fin1 ?_
    exact no _ (rightC_h (by omega)) he06
   ·refine D.va 19 rfl (by kernel_rfl) (fun _ _ _ h => h) rfl (fun w' hw => X.fieldAddr rfl Tryz.underlying52 rfl sz_2 (by decide)) hS4 ?_
    refine D.va 20 rfl (by kernel_rfl) (fun _ _ _ h => h) rfl (fun w' hw => X.load rfl sc_2 (by first | exact Ld.blk (hk1.ext hw) rfl | exact Ld.blk (hk2.ext hw) rfl)) hS4 ?_
    refine D.va 21 rfl (by kernel_rfl) (fun _ _ _ h => h) rfl (fun w' hw => X.lss rfl rfl) hS4 ?_
    refine D.va 22 rfl (by kernel_rfl) (fun _ _ _ h => h) rfl (fun w' hw => X.pickF rfl (by conv => lhs; whnf)) hS4 ?_
    refine D.va 23 rfl (by kernel_rfl) (fun _ _ _ h => h) rfl (fun w' hw => X.move (by conv => lhs; whnf)) hS4 ?_
    refine D.caseDec (k := 35) rfl (fun h2 => ?_) (fun h2 => ?_)
    ·refine D.no 24 rfl (by kernel_rfl) (fun _ _ _ h => h) rfl hS4 ?_
     refine D.no 25 rfl (by kernel_rfl) (fun _ _ _ h => h) rfl hS4 ?_
     refine D.no 26 rfl (by kernel_rfl) (fun _ _ _ h => h) rfl hS4 ?_
     refine D.no 27 rfl (by kernel_rfl) (fun _ _ _ h => h) rfl hS4 ?_
     refine D.no 28 rfl (by kernel_rfl) (fun _ _ _ h => h) rfl hS4 ?_
     refine D.no 29 rfl (by kernel_rfl) (fun _ _ _ h => h) rfl hS4 ?_
     refine D.no 30 rfl (by kernel_rfl) (fun _ _ _ h => h) rfl hS4 ?_
     refine D.va 31 rfl (by kernel_rfl) (fun _ _ _ h => h) rfl (fun w' hw => X.pickT rfl (by conv => lhs; whnf)) hS4 ?_
     refine D.va 32 rfl (by kernel_rfl) (fun _ _ _ h => h) rfl (fun w' hw => X.move (by conv => lhs; whnf)) hS4 ?_
     refine D.no 33 rfl (by kernel_rfl) (fun _ _ _ h => h) rfl hS4 ?_
     refine D.no 34 rfl (by kernel_rfl) (fun _ _ _ h => h) rfl hS4 ?_
     refine D.no 35 rfl (by kernel_rfl) (fun _ _ _ h => h) rfl hS4 ?_
     refine D.no 36 rfl (by kernel_rfl) (fun _ _ _ h => h) rfl hS4 ?_
     refine D.no 37 rfl (by kernel_rfl) (fun _ _ _ h => h) rfl hS4 ?_
     refine D.no 38 rfl (by kernel_rfl) (fun _ _ _ h => h) rfl hS4 ?_
     refine D.no 39 rfl (by kernel_rfl) (fun _ _ _ h => h) rfl hS4 ?_
     refine D.va 40 rfl (by kernel_rfl) (fun _ _ _ h => h) rfl (fun w' hw => X.pickT rfl (by conv => lhs; whnf)) hS4 ?_
     refine D.done (by kernel_rfl) ?_
     replace hk1 := hk1.ext hS4
     replace hk2 := hk2.ext hS4
     refine J.iteT rfl ?_
     refine J.seq ?_
     refine J.region ?_
     refine L.va rfl (X.assign (by conv => lhs; whnf)) ?_
     refine L.nil ?_
     refine J.ret ?_
     refine thn_ret <| ?_
     refine fin1 ?_
     exact no _ (rightC_h (by omega)) he06
    ·refine D.va 24 rfl (by kernel_rfl) (fun _ _ _ h => h) rfl (fun w' hw => X.fieldAddr rfl Tryz.underlying52 rfl sz_49 (by decide)) hS4 ?_
     refine D.va 25 rfl (by kernel_rfl) (fun _ _ _ h => h) rfl (fun w' hw => X.load rfl sc_49 (by first | exact Ld.blk (hk1.ext hw) rfl | exact Ld.blk (hk2.ext hw) rfl)) hS4 ?_
     refine D.va 26 rfl (by kernel_rfl) (fun _ _ _ h => h) rfl (fun w' hw => X.len rfl Tryz.underlying49) hS4 ?_
     refine D.va 27 rfl (by kernel_rfl) (fun _ _ _ h => h) rfl (fun w' hw => X.fieldAddr rfl Tryz.underlying26 rfl sz_23 (by decide)) hS4 ?_
     refine D.va 28 rfl (by kernel_rfl) (fun _ _ _ h => h) rfl (fun w' hw => X.load rfl sc_23 (by first | exact Ld.blk (hk1.ext hw) rfl | exact Ld.blk (hk2.ext hw) rfl)) hS4 ?_
     refine D.va 29 rfl (by kernel_rfl) (fun _ _ _ h => h) rfl (fun w' hw => X.len rfl Tryz.underlying23) hS4 ?_
     refine D.va 30 rfl (by kernel_rfl) (fun _ _ _ h => h) rfl (fun w' hw => X.neq rfl rfl) hS4 ?_
     refine D.va 31 rfl (by kernel_rfl) (fun _ _ _ h => h) rfl (fun w' hw => X.pickF rfl (by conv => lhs; whnf)) hS4 ?_
     refine D.va 32 rfl (by kernel_rfl) (fun _ _ _ h => h) rfl (fun w' hw => X.move (by conv => lhs; whnf)) hS4 ?_
     refine D.caseNdec (k := 44) rfl (fun h3 => ?_) (fun h3 => ?_)
     ·refine D.no 33 rfl (by kernel_rfl) (fun _ _ _ h => h) rfl hS4 ?_
      refine D.no 34 rfl (by kernel_rfl) (fun _ _ _ h => h) rfl hS4 ?_
      refine D.no 35 rfl (by kernel_rfl) (fun _ _ _ h => h) rfl hS4 ?_
      refine D.no 36 rfl (by kernel_rfl) (fun _ _ _ h => h) rfl hS4 ?_
      refine D.no 37 rfl (by kernel_rfl) (fun _ _ _ h => h) rfl hS4 ?_
      refine D.no 38 rfl (by kernel_rfl) (fun _ _ _ h => h) rfl hS4 ?_
      refine D.no 39 rfl (by kernel_rfl) (fun _ _ _ h => h) rfl hS4 ?_
      refine D.va 40 rfl (by kernel_rfl) (fun _ _ _ h => h) rfl (fun w' hw => X.pickT rfl (by conv => lhs; whnf)) hS4 ?_
      refine D.done (by kernel_rfl) ?_
      replace hk1 := hk1.ext hS4
      replace hk2 := hk2.ext hS4
      refine J.iteT rfl ?_
      refine J.seq ?_
      refine J.region ?_
      refine L.va rfl (X.assign (by conv => lhs; whnf)) ?_
      refine L.nil ?_
      refine J.ret ?_
      refine thn_ret <| ?_
      refine fin1 ?_
      exact no _ (rightC_h (by omega)) he06
     ·refine D.va 33 rfl (by kernel_rfl) (fun _ _ _ h => h) rfl (fun w' hw => X.fieldAddr rfl Tryz.underlying52 rfl sz_50 (by decide)) hS4 ?_
      refine D.va 34 rfl (by kernel_rfl) (fun _ _ _ h => h) rfl (fun w' hw => X.load rfl sc_50 (by first | exact Ld.blk (hk1.ext hw) rfl | exact Ld.blk (hk2.ext hw) rfl)) hS4 ?_
      refine D.va 35 rfl (by kernel_rfl) (fun _ _ _ h => h) rfl (fun w' hw => X.len rfl Tryz.underlying50) hS4 ?_
      refine D.va 36 rfl (by kernel_rfl) (fun _ _ _ h => h) rfl (fun w' hw => X.fieldAddr rfl Tryz.underlying26 rfl sz_23 (by decide)) hS4 ?_
      refine D.va 37 rfl (by kernel_rfl) (fun _ _ _ h => h) rfl (fun w' hw => X.load rfl sc_23 (by first | exact Ld.blk (hk1.ext hw) rfl | exact Ld.blk (hk2.ext hw) rfl)) hS4 ?_
      refine D.va 38 rfl (by kernel_rfl) (fun _ _ _ h => h) rfl (fun w' hw => X.len rfl Tryz.underlying23) hS4 ?_
      refine D.va 39 rfl (by kernel_rfl) (fun _ _ _ h => h) rfl (fun w' hw => X.neq rfl rfl) hS4 ?_
      refine D.va 40 rfl (by kernel_rfl) (fun _ _ _ h => h) rfl (fun w' hw => X.pickF rfl (by conv => lhs; whnf)) hS4 ?_
      refine D.done (by kernel_rfl) ?_
      replace hk1 := hk1.ext hS4
      replace hk2 := hk2.ext hS4
      refine J.ndec rfl (fun h4 => ?_) (fun h4 => ?_)
      ·refine J.seq ?_
       refine J.region ?_
       refine L.va rfl (X.assign (by conv => lhs; whnf)) ?_
       refine L.nil ?_
       refine J.ret ?_
       refine thn_ret <| ?_
       refine fin1 ?_
       exact no _ (rightC_h (by omega)) he06
      ·refine J.skip ?_
       refine ⟨(), At0 , (by (iterate 46 refine Agr.lk rfl ?_); exact Agr.rfl'), ?_⟩
       exact ⟨hkb, by omega, hS4⟩
 ·rintro ⟨⟩ g w3 ⟨hkb, hh, he23⟩
  have he3 := he02.trans he23
  have hk3 := hk2.ext he23
  refine J.cut (X := Unit) [6, 7, 8, 53, 54, 55, 56, 57, 58, 59, 60, 61, 62, 63, 64, 65, 66, 67, 68, 69, 70, 71, 72, 73, 74, 75, 76, 77, 78, 79, 80, 81, 82, 83, 84, 85, 86, 87, 88, 89, 90, 91, 92, 93, 94, 95, 96, 97, 98, 99, 100, 101, 102, 103, 104, 105, 106, 107, 108, 109, 110, 111, 112] (fun _ => []) (fun _ w' => (∀ i, i < x.is.length → okW (x.is.getD i wh0).con = true) ∧ Ext w3 w') ?_ ?_
  ·refine J.seq ?_
   refine J.region ?_
   refine L.va rfl (X.assign (by conv => lhs; whnf)) ?_
   refine L.nil ?_
   refine J.block ?_
   refine J.loop (X := Nat) [6, 7, 8, 53, 54, 55, 56, 57, 58, 59, 60, 61, 62, 63, 64, 65, 66, 67, 68, 69, 70, 71, 72, 73, 74, 75, 76, 77, 78, 79, 80, 81, 82, 83, 84, 85, 86, 87, 88, 89, 90, 91, 92, 93, 94, 95, 96, 97, 98, 99, 100, 101, 102, 103, 104, 105, 106, 107, 108, 109, 110, 111, 112] (fun i => [(7, .int .i64 (i : Int))]) (fun i w' => i ≤ x.ni ∧ (∀ j, j < i → okW (x.is.getD j wh0).con = true) ∧ Ext w3 w') (fun i => x.ni - i) (0) (At1 (by first | rfl | exact at_int rfl (by omega) | exact at_slice rfl (by omega) | exact at_int rfl (by simp))) ?_ ?_
   ·exact ⟨Nat.zero_le _, fun j hj => absurd hj (by omega), Ext.refl _⟩
   ·rintro i g w4 ⟨hi, hP, he34⟩
    have he4 := he3.trans he34
    have hk4 := hk3.ext he34
    have z4 := he4.le
    iterate 2 refine J.seq ?_
    refine J.region ?_
    refine L.va rfl (X.move (by conv => lhs; whnf)) ?_
    refine L.va rfl (X.fieldAddr rfl Tryz.underlying52 rfl sz_49 (by decide)) ?_
    refine L.va rfl (X.load rfl sc_49 (by first | exact Ld.blk hk4 rfl)) ?_
    refine L.va rfl (X.len rfl Tryz.underlying49) ?_
    refine L.va rfl (X.lss rfl rfl) ?_
    refine L.nil ?_
    refine J.dec rfl (fun hlt => ?_) (fun hlt => ?_)
    ·have hin : i < x.is.length := by omega
     have hr4 := hx.i.ext he4
     have hA := hr4.some_ (by omega)
     have gy := gtW hin
     have my := memD (l := x.is) (i := i) (d := wh0) hin
     obtain ⟨y, hy⟩ : ∃ y, y = x.is.getD i wh0 := ⟨_, rfl⟩
     rw [← hy] at gy my
     have hbad : okW y.con = false → rightC s m x.con = false := fun h => rightC_i hin (by rw [← hy]; exact h)
     have y4 := (hx.hi y my).ext he4
     have ya := y4.o.a
     have y20 := hL.li y my
     have yl := y4.len
     refine J.skip ?_
     refine J.seq ?_
     refine J.block ?_
     refine J.seq ?_
     refine J.region ?_
     refine L.va rfl (X.fieldAddr rfl Tryz.underlying52 rfl sz_49 (by decide)) ?_
     refine L.va rfl (X.load rfl sc_49 (by first | exact Ld.blk hk4 rfl | exact hA)) ?_
     refine L.va rfl (X.move (by conv => lhs; whnf)) ?_
     refine L.va rfl ((by first | exact X.indexAddrn rfl rfl Tryz.underlying49 sz_70 (by first | exact Option.some_ne_none _ | exact hA) (by omega) | exact X.indexAddr rfl rfl Tryz.underlying49 sz_70 (by first | exact Option.some_ne_none _ | exact hA) (by omega))) ?_
     refine L.va rfl (X.loadRow (cs := y.vs) rfl hr4 (fun r u hu => flat_row wh_len gy r u hu) (Nat.zero_lt_succ _) Tryz.underlying70 rfl (by kernel_rfl)) ?_
     refine L.alloc rfl zr_70 ?_
     intro b5 w5 hb5 hs5 hk5 he5
     refine L.storeAgg (vs := [_, _, _, _, _]) rfl rfl rfl rfl sz_70 (hk5) rfl ?_
     intro w6 hk6 hg6 hs6
     have he46 : Ext w4 w6 := he5.grw hg6 (by intro g hg; injection hg with hg; omega)
     have hk6 : Blk w6 b5 70 y.vs.toArray := hk6
     have he06 := he4.trans he46
     refine L.nil ?_
     refine J.seq ?_
     refine J.region ?_
     refine L.va rfl (X.fieldAddr rfl Tryz.underlying70 rfl sz_2 (by decide)) ?_
     refine L.va rfl (X.load rfl sc_2 (by first | exact Ld.blk hk6 rfl)) ?_
     refine L.va rfl (X.lss rfl rfl) ?_
     refine L.va rfl (X.move (by conv => lhs; whnf)) ?_
     refine L.caseDec (k := 68) rfl (fun h1 => ?_) (fun h1 => ?_)
     ·refine L.no rfl ?_
      iterate 4 refine L.no rfl ?_
      refine L.va rfl (X.pickT rfl (by conv => lhs; whnf)) ?_
      refine L.va rfl (X.move (by conv => lhs; whnf)) ?_
      iterate 6 refine L.no rfl ?_
      refine L.va rfl (X.pickT rfl (by conv => lhs; whnf)) ?_
      refine L.va rfl (X.move (by conv => lhs; whnf)) ?_
      iterate 5 refine L.no rfl ?_
      refine L.va rfl (X.pickT rfl (by conv => lhs; whnf)) ?_
      refine L.va rfl (X.move (by conv => lhs; whnf)) ?_
      iterate 4 refine L.no rfl ?_
      refine L.va rfl (X.pickT rfl (by conv => lhs; whnf)) ?_
      refine L.va rfl (X.move (by conv => lhs; whnf)) ?_
      iterate 15 refine L.no rfl ?_
      refine L.va rfl (X.pickT rfl (by conv => lhs; whnf)) ?_
      refine L.nil ?_
      refine J.iteT rfl ?_
      refine J.seq ?_
      refine J.region ?_
      refine L.va rfl (X.assign (by conv => lhs; whnf)) ?_
      refine L.nil ?_
      refine J.ret ?_
      refine inB_ret <|  thn_ret <|  thn_ret <|  inB_ret <|  thn_ret <| ?_
      refine fin1 ?_
      exact no _ (hbad (okW_no (.inl h1))) he06
     ·refine L.va rfl (X.fieldAddr rfl Tryz.underlying70 rfl sz_2 (by decide)) ?_
      refine L.va rfl (X.load rfl sc_2 (by first | exact Ld.blk hk6 rfl)) ?_
      refine L.va rfl (X.fieldAddr rfl Tryz.underlying70 rfl sz_2 (by decide)) ?_
      refine L.va rfl (X.load rfl sc_2 (by first | exact Ld.blk hk6 rfl)) ?_
      refine L.va rfl (X.gtr rfl rfl) ?_
      refine L.va rfl (X.pickF rfl (by conv => lhs; whnf)) ?_
      refine L.va rfl (X.move (by conv => lhs; whnf)) ?_
      refine L.caseDec (k := 75) rfl (fun h2 => ?_) (fun h2 => ?_)
      ·refine L.no rfl ?_
       iterate 5 refine L.no rfl ?_
       refine L.va rfl (X.pickT rfl (by conv => lhs; whnf)) ?_
       refine L.va rfl (X.move (by conv => lhs; whnf)) ?_
       iterate 5 refine L.no rfl ?_
       refine L.va rfl (X.pickT rfl (by conv => lhs; whnf)) ?_
       refine L.va rfl (X.move (by conv => lhs; whnf)) ?_
       iterate 4 refine L.no rfl ?_
       refine L.va rfl (X.pickT rfl (by conv => lhs; whnf)) ?_
       refine L.va rfl (X.move (by conv => lhs; whnf)) ?_
       iterate 15 refine L.no rfl ?_
       refine L.va rfl (X.pickT rfl (by conv => lhs; whnf)) ?_
       refine L.nil ?_
       refine J.iteT rfl ?_
       refine J.seq ?_
       refine J.region ?_
       refine L.va rfl (X.assign (by conv => lhs; whnf)) ?_
       refine L.nil ?_
       refine J.ret ?_
       refine inB_ret <|  thn_ret <|  thn_ret <|  inB_ret <|  thn_ret <| ?_
       refine fin1 ?_
       exact no _ (hbad (okW_no (.inr (.inl h2)))) he06
      ·have hneg : IntKind.i64.wrap (0 - y.a) = -y.a := by rw [w64 (by omega)]; omega
       refine L.va rfl (X.fieldAddr rfl Tryz.underlying70 rfl sz_2 (by decide)) ?_
       refine L.va rfl (X.load rfl sc_2 (by first | exact Ld.blk hk6 rfl)) ?_
       refine L.va rfl (X.fieldAddr rfl Tryz.underlying70 rfl sz_2 (by decide)) ?_
       refine L.va rfl (X.load rfl sc_2 (by first | exact Ld.blk hk6 rfl)) ?_
       refine L.va rfl (X.negw rfl) ?_
       refine L.va rfl (X.lss rfl rfl) ?_
       refine L.va rfl (X.pickF rfl (by conv => lhs; whnf)) ?_
       refine L.va rfl (X.move (by conv => lhs; whnf)) ?_
       refine L.caseDec (k := 83) rfl (fun h3 => ?_) (fun h3 => ?_)
       ·rw [hneg] at h3
        iterate 5 refine L.no rfl ?_
        refine L.va rfl (X.pickT rfl (by conv => lhs; whnf)) ?_
        refine L.va rfl (X.move (by conv => lhs; whnf)) ?_
        iterate 4 refine L.no rfl ?_
        refine L.va rfl (X.pickT rfl (by conv => lhs; whnf)) ?_
        refine L.va rfl (X.move (by conv => lhs; whnf)) ?_
        iterate 15 refine L.no rfl ?_
        refine L.va rfl (X.pickT rfl (by conv => lhs; whnf)) ?_
        refine L.nil ?_
        refine J.iteT rfl ?_
        refine J.seq ?_
        refine J.region ?_
        refine L.va rfl (X.assign (by conv => lhs; whnf)) ?_
        refine L.nil ?_
        refine J.ret ?_
        refine inB_ret <|  thn_ret <|  thn_ret <|  inB_ret <|  thn_ret <| ?_
        refine fin1 ?_
        exact no _ (hbad (okW_no (.inr (.inr (.inl h3))))) he06
       ·rw [hneg] at h3
        refine L.va rfl (X.fieldAddr rfl Tryz.underlying70 rfl sz_2 (by decide)) ?_
        refine L.va rfl (X.load rfl sc_2 (by first | exact Ld.blk hk6 rfl)) ?_
        refine L.va rfl (X.fieldAddr rfl Tryz.underlying70 rfl sz_2 (by decide)) ?_
        refine L.va rfl (X.load rfl sc_2 (by first | exact Ld.blk hk6 rfl)) ?_
        refine L.va rfl (X.gtr rfl rfl) ?_
        refine L.va rfl (X.pickF rfl (by conv => lhs; whnf)) ?_
        refine L.va rfl (X.move (by conv => lhs; whnf)) ?_
        refine L.caseDec (k := 90) rfl (fun h4 => ?_) (fun h4 => ?_)
        ·refine L.no rfl ?_
         iterate 3 refine L.no rfl ?_
         refine L.va rfl (X.pickT rfl (by conv => lhs; whnf)) ?_
         refine L.va rfl (X.move (by conv => lhs; whnf)) ?_
         iterate 15 refine L.no rfl ?_
         refine L.va rfl (X.pickT rfl (by conv => lhs; whnf)) ?_
         refine L.nil ?_
         refine J.iteT rfl ?_
         refine J.seq ?_
         refine J.region ?_
         refine L.va rfl (X.assign (by conv => lhs; whnf)) ?_
         refine L.nil ?_
         refine J.ret ?_
         refine inB_ret <|  thn_ret <|  thn_ret <|  inB_ret <|  thn_ret <| ?_
         refine fin1 ?_
         exact no _ (hbad (okW_no (.inr (.inr (.inr h4))))) he06
        ·have hyes : okQ y.q = true → okW y.con = true := okW_yes ⟨by omega, by omega, by omega, by omega⟩
         have back : okQ y.q = true → ∀ j, j < i + 1 → okW (x.is.getD j wh0).con = true := fun hq j hj => by
          rcases Nat.lt_or_ge j i with h | h
          ·exact hP j h
          ·obtain rfl : j = i := by omega
           rw [← hy]
           exact hyes hq
         refine L.va rfl (X.fieldAddr rfl Tryz.underlying70 rfl sz_24 (by decide)) ?_
         refine L.va rfl (X.load rfl sc_24 (by first | exact Ld.blk hk6 rfl)) ?_
         refine L.va rfl (X.len rfl Tryz.underlying24) ?_
         refine L.va rfl (X.gtr rfl rfl) ?_
         refine L.va rfl (X.pickF rfl (by conv => lhs; whnf)) ?_
         refine L.va rfl (X.move (by conv => lhs; whnf)) ?_
         refine L.caseDec (k := 96) rfl (fun h5 => ?_) (fun h5 => ?_)
         ·refine L.no rfl ?_
          iterate 14 refine L.no rfl ?_
          refine L.va rfl (X.pickT rfl (by conv => lhs; whnf)) ?_
          refine L.nil ?_
          refine J.iteT rfl ?_
          refine J.seq ?_
          refine J.region ?_
          refine L.va rfl (X.assign (by conv => lhs; whnf)) ?_
          refine L.nil ?_
          refine J.ret ?_
          refine inB_ret <|  thn_ret <|  thn_ret <|  inB_ret <|  thn_ret <| ?_
          refine fin1 ?_
          refine no _ (hbad (okW_q ?_)) he06
          unfold okQ
          rw [decide_eq_false (by omega)]
          rfl
         ·refine L.va rfl (X.fieldAddr rfl Tryz.underlying70 rfl sz_24 (by decide)) ?_
          refine L.va rfl (X.load rfl sc_24 (by first | exact Ld.blk hk6 rfl)) ?_
          refine L.va rfl (X.len rfl Tryz.underlying24) ?_
          refine L.va rfl (X.gtr rfl rfl) ?_
          refine L.va rfl (X.move (by conv => lhs; whnf)) ?_
          refine L.caseDec (k := 101) rfl (fun h6 => ?_) (fun h6 => ?_)
          ·have hr6 := (y4.ext he46).r
           have hA6 := hr6.some_ (by omega)
           refine L.va rfl (X.fieldAddr rfl Tryz.underlying70 rfl sz_24 (by decide)) ?_
           refine L.va rfl (X.load rfl sc_24 (by first | exact Ld.blk hk6 rfl)) ?_
           refine L.va rfl (X.fieldAddr rfl Tryz.underlying70 rfl sz_24 (by decide)) ?_
           refine L.va rfl (X.load rfl sc_24 (by first | exact Ld.blk hk6 rfl)) ?_
           refine L.va rfl (X.len rfl Tryz.underlying24) ?_
           refine L.va rfl (X.sub rfl rfl (by omega)) ?_
           refine L.va rfl (X.index1e (j := y.n - 1) rfl rfl (by omega) Tryz.underlying24 sz_27 hA6 (by omega)) ?_
           refine L.va rfl (X.load rfl sc_27 (Ld.num hr6 (j := y.n - 1) (by omega))) ?_
           refine L.va rfl (X.eql rfl rfl) ?_
           refine L.va rfl (X.pickT rfl (by conv => lhs; whnf)) ?_
           refine L.va rfl (X.pickF rfl (by conv => lhs; whnf)) ?_
           refine L.nil ?_
           refine J.dec rfl (fun h7 => ?_) (fun h7 => ?_)
           ·refine J.seq ?_
            refine J.region ?_
            refine L.va rfl (X.assign (by conv => lhs; whnf)) ?_
            refine L.nil ?_
            refine J.ret ?_
            refine inB_ret <|  thn_ret <|  thn_ret <|  inB_ret <|  thn_ret <| ?_
            refine fin1 ?_
            exact no _ (hbad (okW_q (okQ_no yl (by omega) (by omega) h7))) he06
           ·skip
            refine J.skip ?_
            refine J.region ?_
            refine L.va rfl (X.move (by conv => lhs; whnf)) ?_
            refine L.va rfl (X.add rfl rfl (by omega)) ?_
            refine L.va rfl (X.assign (by conv => lhs; whnf)) ?_
            refine L.nil ?_
            refine ⟨i + 1, At1 (by first | rfl | exact at_int rfl (by omega) | exact at_slice rfl (by omega) | exact at_int rfl (by simp)), (by (iterate 68 refine Agr.lk rfl ?_); exact Agr.lk rfl (Agr.hav rfl Agr.rfl')), ?_⟩
            exact ⟨⟨by omega, back (okQ_yes yl (by omega) (fun _ => h7)), he34.trans he46⟩, by omega⟩
          ·refine L.no rfl ?_
           iterate 8 refine L.no rfl ?_
           iterate 2 refine L.va rfl (X.pickF rfl (by conv => lhs; whnf)) ?_
           refine L.nil ?_
           refine J.iteF rfl ?_
           refine J.skip ?_
           refine J.region ?_
           refine L.va rfl (X.move (by conv => lhs; whnf)) ?_
           refine L.va rfl (X.add rfl rfl (by omega)) ?_
           refine L.va rfl (X.assign (by conv => lhs; whnf)) ?_
           refine L.nil ?_
           refine ⟨i + 1, At1 (by first | rfl | exact at_int rfl (by omega) | exact at_slice rfl (by omega) | exact at_int rfl (by simp)), (by (iterate 68 refine Agr.lk rfl ?_); exact Agr.lk rfl (Agr.hav rfl Agr.rfl')), ?_⟩
           exact ⟨⟨by omega, back (okQ_yes yl (by omega) (fun h => by omega)), he34.trans he46⟩, by omega⟩
    ·skip
     refine J.exit ?_
     refine ⟨(), At0 , (by (iterate 5 refine Agr.lk rfl ?_); refine Agr.lk rfl ?_; refine Agr.hav rfl ?_; (iterate 1 refine Agr.lk rfl ?_); exact Agr.rfl'), ?_⟩
     exact ⟨fun j hj => hP j (by omega), he34⟩
  ·rintro ⟨⟩ g w4 ⟨hW, he34⟩
   have he4 := he3.trans he34
   have hk4 := hk3.ext he34
   iterate 2 refine J.seq ?_
   refine J.region ?_
   refine L.va rfl (X.assign (by conv => lhs; whnf)) ?_
   refine L.nil ?_
   refine J.block ?_
   refine J.loop (X := Nat) [6, 9, 10, 11, 113, 114, 115, 116, 117, 118, 119, 120, 121, 122, 123, 124, 125, 126, 127, 128, 129, 130, 131, 132, 133, 134, 135, 136, 137, 138, 139, 140, 141, 142, 143, 144, 145, 146] (fun i => [(9, .int .i64 (i : Int))]) (fun i w' => i ≤ x.nr ∧ (∀ j, j < i → okR (x.rs.getD j re0).con = true) ∧ Ext w4 w') (fun i => x.nr - i) (0) (At1 (by first | rfl | exact at_int rfl (by omega) | exact at_slice rfl (by omega) | exact at_int rfl (by simp))) ?_ ?_
   ·exact ⟨Nat.zero_le _, fun j hj => absurd hj (by omega), Ext.refl _⟩
   ·rintro i g w5 ⟨hi, hP, he45⟩
    have he5 := he4.trans he45
    have hk5 := hk4.ext he45
    have z5 := he5.le
    iterate 2 refine J.seq ?_
    refine J.region ?_
    refine L.va rfl (X.move (by conv => lhs; whnf)) ?_
    refine L.va rfl (X.fieldAddr rfl Tryz.underlying52 rfl sz_50 (by decide)) ?_
    refine L.va rfl (X.load rfl sc_50 (by first | exact Ld.blk hk5 rfl)) ?_
    refine L.va rfl (X.len rfl Tryz.underlying50) ?_
    refine L.va rfl (X.lss rfl rfl) ?_
    refine L.nil ?_
    refine J.dec rfl (fun hlt => ?_) (fun hlt => ?_)
    ·have hin : i < x.rs.length := by omega
     have hr5 := hx.r.ext he5
     have hA := hr5.some_ (by omega)
     have gy := gtR hin
     have my := memD (l := x.rs) (i := i) (d := re0) hin
     obtain ⟨y, hy⟩ : ∃ y, y = x.rs.getD i re0 := ⟨_, rfl⟩
     rw [← hy] at gy my
     have hbad : okR y.con = false → rightC s m x.con = false := fun h => rightC_r hin (by rw [← hy]; exact h)
     have y5 := (hx.hr y my).ext he5
     have yo := y5.o
     have y300 := hL.lr y my
     have yl := y5.len
     have c6 := rread05 y.A y.n y.c y.b w5 (N := N) (by omega) y5.r yo.b yl (by omega)
     refine J.skip ?_
     refine J.seq ?_
     refine J.block ?_
     refine J.seq ?_
     refine J.region ?_
     refine L.va rfl (X.fieldAddr rfl Tryz.underlying52 rfl sz_50 (by decide)) ?_
     refine L.va rfl (X.load rfl sc_50 (by first | exact Ld.blk hk5 rfl | exact hA | exact Ld.flat2 re_len hr5 gy (r := 0) rfl)) ?_
     refine L.va rfl (X.move (by conv => lhs; whnf)) ?_
     refine L.va rfl ((by first | exact X.indexAddrn rfl rfl Tryz.underlying50 sz_74 (by first | exact Option.some_ne_none _ | exact hA) (by omega) | exact X.indexAddr rfl rfl Tryz.underlying50 sz_74 (by first | exact Option.some_ne_none _ | exact hA) (by omega))) ?_
     refine L.va rfl (X.fieldP rfl Tryz.underlying74 rfl sz_71 (by decide) (by first | exact Option.some_ne_none _ | exact hA)) ?_
     refine L.va rfl (X.load rfl sc_71 (by first | exact Ld.blk hk5 rfl | exact hA | exact Ld.flat2 re_len hr5 gy (r := 0) rfl)) ?_
     refine L.call rfl en_68 rfl (c6) ?_
     rintro e w6 ⟨v, rfl, he6, ⟨vs, rfl, hvl, hv1⟩, _⟩
     refine ⟨_, rfl, ?_⟩
     have he6 : Ext w5 w6 := he6
     have he06 := he5.trans he6
     have hk6 := hk5.ext he6
     refine L.va rfl (X.move (by conv => lhs; whnf)) ?_
     iterate 2 refine L.va rfl (X.extract rfl rfl) ?_
     refine L.alloc rfl zr_113 ?_
     intro b7 w7 hb7 hs7 hk7 he7
     refine L.storeAgg (vs := vs) rfl rfl rfl hv1 (by rw [hvl]; exact sz_113) hk7 (by rw [hvl]; rfl) ?_
     intro w8 hk8 hg8 hs8
     have he68 : Ext w6 w8 := he7.grw hg8 (by intro g hg; injection hg with hg; omega)
     have he08 := he06.trans he68
     have hk8' := hk6.ext he68
     have hr8 := hx.r.ext he08
     refine L.va rfl (X.assign (by conv => lhs; whnf)) ?_
     refine L.nil ?_
     refine J.seq ?_
     by_cases h0 : ¬ readE y.b = 0
     ·refine J.draw (ℓ := 1000000) (S := Ext w8) mixed (fun w9 hS hS_h => ?_)
      refine D.va 0 rfl (by kernel_rfl) (fun _ _ _ h => h) rfl (fun w' hw => X.move (by conv => lhs; whnf)) hS ?_
      refine D.va 1 rfl (by kernel_rfl) (fun _ _ _ h => h) rfl (fun w' hw => X.neq rfl rfl) hS ?_
      refine D.va 2 rfl (by kernel_rfl) (fun _ _ _ h => h) rfl (fun w' hw => X.move (by conv => lhs; whnf)) hS ?_
      refine D.caseNdecT (k := 132) rfl (by exact h0) ?_
      refine D.no 3 rfl (by kernel_rfl) (fun _ _ _ h => h) rfl hS ?_
      refine D.no 4 rfl (by kernel_rfl) (fun _ _ _ h => h) rfl hS ?_
      refine D.no 5 rfl (by kernel_rfl) (fun _ _ _ h => h) rfl hS ?_
      refine D.no 6 rfl (by kernel_rfl) (fun _ _ _ h => h) rfl hS ?_
      refine D.no 7 rfl (by kernel_rfl) (fun _ _ _ h => h) rfl hS ?_
      refine D.no 8 rfl (by kernel_rfl) (fun _ _ _ h => h) rfl hS ?_
      refine D.no 9 rfl (by kernel_rfl) (fun _ _ _ h => h) rfl hS ?_
      refine D.no 10 rfl (by kernel_rfl) (fun _ _ _ h => h) rfl hS ?_
      refine D.no 11 rfl (by kernel_rfl) (fun _ _ _ h => h) rfl hS ?_
      refine D.no 12 rfl (by kernel_rfl) (fun _ _ _ h => h) rfl hS ?_
      refine D.no 13 rfl (by kernel_rfl) (fun _ _ _ h => h) rfl hS ?_
      refine D.no 14 rfl (by kernel_rfl) (fun _ _ _ h => h) rfl hS ?_
      refine D.no 15 rfl (by kernel_rfl) (fun _ _ _ h => h) rfl hS ?_
      refine D.va 16 rfl (by kernel_rfl) (fun _ _ _ h => h) rfl (fun w' hw => X.pickT rfl (by conv => lhs; whnf)) hS ?_
      refine D.done (by kernel_rfl) ?_
      replace hk8' := hk8'.ext hS
      refine J.iteT rfl ?_
      refine J.seq ?_
      refine J.region ?_
      refine L.va rfl (X.assign (by conv => lhs; whnf)) ?_
      refine L.nil ?_
      refine J.ret ?_
      refine inB_ret <|  thn_ret <|  thn_ret <|  inB_ret <|  thn_ret <| ?_
      refine fin1 ?_
      refine no _ (hbad ?_) (he08.trans hS)
      unfold okR
      rw [decide_eq_false (show ¬ readE y.con.1 = 0 from h0)]
      rfl
     ·have h0 : readE y.b = 0 := by omega
      refine J.draw (ℓ := 1000000) (S := Ext w8) mixed (fun w9 hS hS_h => ?_)
      refine D.va 0 rfl (by kernel_rfl) (fun _ _ _ h => h) rfl (fun w' hw => X.move (by conv => lhs; whnf)) hS ?_
      refine D.va 1 rfl (by kernel_rfl) (fun _ _ _ h => h) rfl (fun w' hw => X.neq rfl rfl) hS ?_
      refine D.va 2 rfl (by kernel_rfl) (fun _ _ _ h => h) rfl (fun w' hw => X.move (by conv => lhs; whnf)) hS ?_
      refine D.caseNdecF (k := 132) rfl (by exact h0) ?_
      refine D.va 3 rfl (by kernel_rfl) (fun _ _ _ h => h) rfl (fun w' hw => X.fieldAddr rfl Tryz.underlying52 rfl sz_50 (by decide)) hS ?_
      refine D.va 4 rfl (by kernel_rfl) (fun _ _ _ h => h) rfl (fun w' hw => X.load rfl sc_50 (by first | exact Ld.blk (hk8'.ext hw) rfl | exact hA | exact Ld.flat2 re_len (hr8.ext hw) gy (r := 1) rfl | exact Ld.flat2 re_len (hr8.ext hw) gy (r := 2) rfl)) hS ?_
      refine D.va 5 rfl (by kernel_rfl) (fun _ _ _ h => h) rfl (fun w' hw => X.move (by conv => lhs; whnf)) hS ?_
      refine D.va 6 rfl (by kernel_rfl) (fun _ _ _ h => h) rfl (fun w' hw => (by first | exact X.indexAddrn rfl rfl Tryz.underlying50 sz_74 (by first | exact Option.some_ne_none _ | exact hA) (by omega) | exact X.indexAddr rfl rfl Tryz.underlying50 sz_74 (by first | exact Option.some_ne_none _ | exact hA) (by omega))) hS ?_
      refine D.va 7 rfl (by kernel_rfl) (fun _ _ _ h => h) rfl (fun w' hw => X.fieldP rfl Tryz.underlying74 rfl sz_72 (by decide) (by first | exact Option.some_ne_none _ | exact hA)) hS ?_
      refine D.va 8 rfl (by kernel_rfl) (fun _ _ _ h => h) rfl (fun w' hw => X.load rfl sc_72 (by first | exact Ld.blk (hk8'.ext hw) rfl | exact hA | exact Ld.flat2 re_len (hr8.ext hw) gy (r := 1) rfl | exact Ld.flat2 re_len (hr8.ext hw) gy (r := 2) rfl)) hS ?_
      refine D.va 9 rfl (by kernel_rfl) (fun _ _ _ h => h) rfl (fun w' hw => X.fieldAddr rfl Tryz.underlying52 rfl sz_50 (by decide)) hS ?_
      refine D.va 10 rfl (by kernel_rfl) (fun _ _ _ h => h) rfl (fun w' hw => X.load rfl sc_50 (by first | exact Ld.blk (hk8'.ext hw) rfl | exact hA | exact Ld.flat2 re_len (hr8.ext hw) gy (r := 1) rfl | exact Ld.flat2 re_len (hr8.ext hw) gy (r := 2) rfl)) hS ?_
      refine D.va 11 rfl (by kernel_rfl) (fun _ _ _ h => h) rfl (fun w' hw => X.move (by conv => lhs; whnf)) hS ?_
      refine D.va 12 rfl (by kernel_rfl) (fun _ _ _ h => h) rfl (fun w' hw => (by first | exact X.indexAddrn rfl rfl Tryz.underlying50 sz_74 (by first | exact Option.some_ne_none _ | exact hA) (by omega) | exact X.indexAddr rfl rfl Tryz.underlying50 sz_74 (by first | exact Option.some_ne_none _ | exact hA) (by omega))) hS ?_
      refine D.va 13 rfl (by kernel_rfl) (fun _ _ _ h => h) rfl (fun w' hw => X.fieldP rfl Tryz.underlying74 rfl sz_72 (by decide) (by first | exact Option.some_ne_none _ | exact hA)) hS ?_
      refine D.va 14 rfl (by kernel_rfl) (fun _ _ _ h => h) rfl (fun w' hw => X.load rfl sc_72 (by first | exact Ld.blk (hk8'.ext hw) rfl | exact hA | exact Ld.flat2 re_len (hr8.ext hw) gy (r := 1) rfl | exact Ld.flat2 re_len (hr8.ext hw) gy (r := 2) rfl)) hS ?_
      refine D.one 15 (by kernel_rfl) rfl ?_
      refine L.call rfl en_69 rfl ((rless03 y.hi y.lo _ yo.hi yo.lo)) ?_
      rintro e w10 ⟨rfl, he10⟩
      refine ⟨_, rfl, ?_⟩
      have hS1 := hS.trans he10
      refine L.nil ?_
      refine ⟨fun _ => hS1, ?_⟩
      have he010 := he08.trans hS1
      refine D.va 16 rfl (by kernel_rfl) (fun _ _ _ h => h) rfl (fun w' hw => X.pickF rfl (by conv => lhs; whnf)) hS1 ?_
      refine D.done (by kernel_rfl) ?_
      replace hk8' := hk8'.ext hS1
      refine J.ite rfl (fun h6 => ?_) (fun h6 => ?_)
      ·refine J.seq ?_
       refine J.region ?_
       refine L.va rfl (X.assign (by conv => lhs; whnf)) ?_
       refine L.nil ?_
       refine J.ret ?_
       refine inB_ret <|  thn_ret <|  thn_ret <|  inB_ret <|  thn_ret <| ?_
       refine fin1 ?_
       refine no _ (hbad ?_) he010
       unfold okR
       rw [decide_eq_false (show ¬ ¬ keyF y.con.2.2 < keyF y.con.2.1 from fun h => h (of_decide_eq_true h6)), Bool.and_false]
      ·have h6 : ¬ keyF y.hi < keyF y.lo := of_decide_eq_false h6
       refine J.skip ?_
       refine J.region ?_
       refine L.va rfl (X.move (by conv => lhs; whnf)) ?_
       refine L.va rfl (X.add rfl rfl (by omega)) ?_
       refine L.va rfl (X.assign (by conv => lhs; whnf)) ?_
       refine L.nil ?_
       refine ⟨i + 1, At1 (by first | rfl | exact at_int rfl (by omega) | exact at_slice rfl (by omega) | exact at_int rfl (by simp)), (by (iterate 38 refine Agr.lk rfl ?_); exact Agr.lk rfl (Agr.hav rfl Agr.rfl')), ?_⟩
       refine ⟨⟨by omega, fun j hj => ?_, ((he45.trans he6).trans he68).trans hS1⟩, by omega⟩
       rcases Nat.lt_or_ge j i with h | h
       ·exact hP j h
       ·obtain rfl : j = i := by omega
        rw [← hy]
        unfold okR
        rw [decide_eq_true (show readE y.con.1 = 0 from h0), decide_eq_true (show ¬ keyF y.con.2.2 < keyF y.con.2.1 from h6)]
        rfl
    ·refine J.exit ?_
     refine J.seq ?_
     refine J.region ?_
     refine L.va rfl (X.assign (by conv => lhs; whnf)) ?_
     refine L.nil ?_
     refine J.ret ?_
     refine fin1 ?_
     exact ⟨by rw [rightC_yes hkb hh hW (fun j hj => hP j (by omega))]; rfl, he5⟩
end Go.Proofs.YtpomklkfedpkfaaGreat
namespace Go.Proofs.YtpomklkfedpkfaaGreat
set_option maxRecDepth 100000
open Go.RowKit H
open Dfp
set_option linter.unusedVariables false
namespace H
theorem X.slice3 {P : Program} {f : Fr} {w : World} {d : Option Tmp} {ty : TypeId} {pos : String} {aft : Array Edge} {g : Option (Nat × Bool)} {x y z : Operand} {t e : TypeId} {A : Option Addr} {q c sz n : Nat} (hx : ev f x = .slice A q c) (hy : ev f y = .int .i64 (n : Int)) (hz : ev f z = .int .i64 (n : Int)) (ht : P.underlying t = some (.slice e)) (hs : Siz P e sz) (hij : n ≤ c) :
    (execOp (ev f) ⟨d, .slice t x none (some y) (some z), ty, pos, aft, g⟩).run P w = .ok (.value (.slice A n n)) w := by
  simp only [execOp, Instr.sliceAt, Instr.slice, Instr.sliceBounds, Instr.sliceBound, Option.map_some, Option.map_none, hx, hy, hz, Sem.run_bind, run_underlying ht, Result.andThen_ok, asIntOf, Sem.run_pure, hs.run]
  have h1 : 0 ≤ (n : Int) ∧ (n : Int) ≤ (c : Int) := by omega
  simp [h1]
  cases A <;> simp [Addr.add_zero']
theorem X.appendNil {P : Program} {f : Fr} {w : World} {d : Option Tmp} {ty : TypeId} {pos : String} {aft : Array Edge} {g : Option (Nat × Bool)} {x y : Operand} {t e : TypeId} {A : Option Addr} {n c c' sz : Nat} (hx : ev f x = .slice A n c) (hy : ev f y = .slice none 0 c') (ht : P.underlying t = some (.slice e)) (hs : Siz P e sz) (hij : n ≤ c) (hA : A = none → n = 0 ∧ c = 0) :
    (execOp (ev f) ⟨d, .call { callee := .builtin .append, args := #[x, y], argTypes := #[t, t] }, ty, pos, aft, g⟩).run P w = .ok (.value (.slice A n c)) w := by
  obtain ⟨i, hi, hz⟩ := hs
  have hrun : (Builtin.append_ #[t, t] ty #[.slice A n c, .slice none 0 c']).run P w = .ok (.slice A n c) w := by
    rcases A with _ | ad
    · obtain ⟨rfl, rfl⟩ := hA rfl
      simp [Builtin.append_, run_underlying ht, sizeOf, typeInfo, hi, Builtin.lenOf, Builtin.firstCells]
    · simp [Builtin.append_, run_underlying ht, sizeOf, typeInfo, hi, Builtin.lenOf, Builtin.firstCells, hij, storeCells]
  unfold execOp
  simp only [resolve, Go.invoke, builtin, Sem.run_bind, Sem.run_pure, Result.andThen_ok, List.map_toArray, List.map_cons, List.map_nil, hx, hy, hrun]
end H
theorem cmerge (s : Ces) (w : World) (hs : s.At w.heap.size w) (hn : s.n ≤ 1000) (hc : s.n ≤ s.c) (hr : rise s.l = true) (hL : ∀ x ∈ s.l, x.Lt) : Calls Tryz.prog 20 #[s.val, .slice none 0 0] w fun e w' => ∃ t : Ces, e = .returned (.tuple #[t.val, .int .i64 0]) ∧ t.con = s.con ∧ t.At w'.heap.size w' ∧ t.n ≤ t.c ∧ (∀ x ∈ t.l, x.Lt) ∧ Ext w w' := by
 obtain ⟨A, n, c, l⟩ := s
 have hl : l.length = n := hs.l
 have hn : n ≤ 1000 := hn
 have hc : n ≤ c := hc
 subst hl
 have hrr : Reads w w.heap.size 4 A l.length (l.flatMap Ce.vs) := hs.r
 refine enter Tryz.func20 rfl (by kernel_rfl) ?_
 refine J.seq ?_
 refine J.region ?_
 iterate 2 refine L.va rfl (X.assign (by conv => lhs; whnf)) ?_
 refine L.nil ?_
 iterate 2 refine J.seq ?_
 refine J.region ?_
 refine L.va rfl (X.move (by conv => lhs; whnf)) ?_
 have c1 := crising A c l hrr (Nat.le_refl _) (by omega)
 rw [show rise l = true from hr] at c1
 refine L.call rfl en_32 rfl (c1) ?_
 rintro e w1 ⟨rfl, he1⟩
 refine ⟨_, rfl, ?_⟩
 refine L.va rfl (X.not rfl) ?_
 refine L.va rfl (X.move (by conv => lhs; whnf)) ?_
 refine L.caseBF (k := 14) rfl (by rfl) ?_
 refine L.va rfl (X.move (by conv => lhs; whnf)) ?_
 have c2 := crising none 0 [] (Reads.of_own (own_nil w1 0 0 4)) (Nat.le_refl _) (by simp)
 rw [show rise [] = true from rfl] at c2
 refine L.call rfl en_32 rfl (c2) ?_
 rintro e w2 ⟨rfl, he2⟩
 refine ⟨_, rfl, ?_⟩
 refine L.va rfl (X.not rfl) ?_
 refine L.va rfl (X.pickF rfl (by conv => lhs; whnf)) ?_
 refine L.nil ?_
 refine J.iteF rfl ?_
 refine J.skip ?_
 refine J.seq ?_
 refine J.region ?_
 refine L.va rfl (X.assign (by conv => lhs; whnf)) ?_
 refine L.nil ?_
 have he02 := he1.trans he2
 refine J.cut (X := Unit) [0, 1, 4, 5, 6, 7, 8, 19, 20, 21, 22, 23, 24, 25, 26, 27, 28, 29, 30, 31, 32, 33, 34, 35, 36, 37, 38, 39, 40, 41, 42, 43, 44, 45, 46, 47, 48, 49, 50, 51, 52, 53, 54, 55, 56, 57, 58, 59, 60, 61, 62, 63, 64, 65, 66, 67, 68, 69, 70, 71, 72, 73, 74, 75, 76, 77, 78, 79, 80, 81, 82, 83, 84, 85] (fun _ => [(0, .slice A l.length c), (1, .slice none 0 0), (6, .slice none 0 0)]) (fun _ w' => w2 = w') ?_ ?_
 ·refine J.block ?_
  refine J.loop (X := Unit) [0, 1, 4, 5, 6, 7, 8, 19, 20, 21, 22, 23, 24, 25, 26, 27, 28, 29, 30, 31, 32, 33, 34, 35, 36, 37, 38, 39, 40, 41, 42, 43, 44, 45, 46, 47, 48, 49, 50, 51, 52, 53, 54, 55, 56, 57, 58, 59, 60, 61, 62, 63, 64, 65, 66, 67, 68, 69, 70, 71, 72, 73, 74, 75, 76, 77, 78, 79, 80, 81, 82, 83, 84, 85] (fun _ => [(0, .slice A l.length c), (1, .slice none 0 0), (6, .slice none 0 0)]) (fun _ w' => w2 = w') (fun _ => 0) (()) (At3 (by first | rfl | exact at_int rfl (by omega) | exact at_slice rfl (by omega) | exact at_int rfl (by simp)) (by first | rfl | exact at_int rfl (by omega) | exact at_slice rfl (by omega) | exact at_int rfl (by simp)) (by first | rfl | exact at_int rfl (by omega) | exact at_slice rfl (by omega) | exact at_int rfl (by simp))) ?_ ?_
  ·exact rfl
  ·rintro ⟨⟩ g w3 rfl
   iterate 2 refine J.seq ?_
   refine J.region ?_
   refine L.va rfl (X.move (by conv => lhs; whnf)) ?_
   refine L.va rfl (X.len rfl Tryz.underlying29) ?_
   refine L.va rfl (X.gtr rfl rfl) ?_
   refine L.va rfl (X.move (by conv => lhs; whnf)) ?_
   refine L.caseDec (k := 22) rfl (fun h0 => ?_) (fun h0 => ?_)
   ·refine L.va rfl (X.move (by conv => lhs; whnf)) ?_
    refine L.va rfl (X.len rfl Tryz.underlying29) ?_
    refine L.va rfl (X.gtr rfl rfl) ?_
    refine L.va rfl (X.pickT rfl (by conv => lhs; whnf)) ?_
    refine L.nil ?_
    refine J.iteF rfl ?_
    refine J.exit ?_
    refine ⟨(), At3 (by first | rfl | exact at_int rfl (by omega) | exact at_slice rfl (by omega) | exact at_int rfl (by simp)) (by first | rfl | exact at_int rfl (by omega) | exact at_slice rfl (by omega) | exact at_int rfl (by simp)) (by first | rfl | exact at_int rfl (by omega) | exact at_slice rfl (by omega) | exact at_int rfl (by simp)), (by (iterate 9 refine Agr.lk rfl ?_); refine Agr.lk rfl ?_; refine Agr.hav rfl ?_; exact Agr.rfl'), ?_⟩
    rfl
   ·refine L.no rfl ?_
    iterate 2 refine L.no rfl ?_
    refine L.va rfl (X.pickF rfl (by conv => lhs; whnf)) ?_
    refine L.nil ?_
    refine J.iteF rfl ?_
    refine J.exit ?_
    refine ⟨(), At3 (by first | rfl | exact at_int rfl (by omega) | exact at_slice rfl (by omega) | exact at_int rfl (by simp)) (by first | rfl | exact at_int rfl (by omega) | exact at_slice rfl (by omega) | exact at_int rfl (by simp)) (by first | rfl | exact at_int rfl (by omega) | exact at_slice rfl (by omega) | exact at_int rfl (by simp)), (by (iterate 9 refine Agr.lk rfl ?_); refine Agr.lk rfl ?_; refine Agr.hav rfl ?_; exact Agr.rfl'), ?_⟩
    rfl
 ·rintro ⟨⟩ g w3 rfl
  have z2 := he02.le
  have hA : A = none → l.length = 0 ∧ l.length = 0 := fun e => by
   apply Decidable.byContradiction
   intro h
   exact hrr.some_ (by omega) e
  iterate 2 refine J.seq ?_
  refine J.region ?_
  iterate 2 refine L.va rfl (X.move (by conv => lhs; whnf)) ?_
  refine L.va rfl (X.len rfl Tryz.underlying29) ?_
  refine L.va rfl (X.move (by conv => lhs; whnf)) ?_
  refine L.va rfl (X.len rfl Tryz.underlying29) ?_
  refine L.va rfl (X.slice3 rfl rfl rfl Tryz.underlying29 sz_52 hc) ?_
  refine L.va rfl (X.move (by conv => lhs; whnf)) ?_
  refine L.va rfl (X.appendNil rfl rfl Tryz.underlying29 sz_52 (Nat.le_refl _) hA) ?_
  refine L.va rfl (X.len rfl Tryz.underlying29) ?_
  refine L.va rfl (X.move (by conv => lhs; whnf)) ?_
  refine L.nil ?_
  refine J.block ?_
  refine J.loop (X := Nat × Option Addr × Nat × List Ce) [6, 10, 95, 96, 97, 98, 99, 100, 101, 102, 103, 104] (fun (i, B, d, o) => [(95, .int .i64 (i : Int)), (6, .slice B i d)]) (fun (i, B, d, o) w' => i ≤ l.length ∧ o.length = i ∧ o.map Ce.con = (l.take i).map Ce.con ∧ (∀ y ∈ o, y.Own w.heap.size w') ∧ w'.ownsRow w2.heap.size 52 4 (.slice B i d) i (o.flatMap Ce.vs) ∧ Ext w2 w') (fun (i, _) => l.length - i) ((0, none, 0, [])) (At2 (by first | rfl | exact at_int rfl (by omega) | exact at_slice rfl (by omega) | exact at_int rfl (by simp)) (by first | rfl | exact at_int rfl (by omega) | exact at_slice rfl (by omega) | exact at_int rfl (by simp))) ?_ ?_
  ·exact ⟨Nat.zero_le _, rfl, rfl, (fun y hy => by cases hy), own_nil _ _ _ _, Ext.refl _⟩
  ·rintro ⟨i, B, d, o⟩ g w4 ⟨hi, ho, hco, hLo, ho4, he4⟩
   have he04 := he02.trans he4
   have z4 := he04.le
   refine J.seq ?_
   refine J.region ?_
   refine L.va rfl (X.lss rfl rfl) ?_
   refine L.nil ?_
   refine J.seq ?_
   refine J.dec rfl (fun hlt => ?_) (fun hlt => ?_)
   ·have hin : i < l.length := by omega
    obtain ⟨x, hx⟩ : ∃ x, x = l.getD i ce0 := ⟨_, rfl⟩
    have gx := gtX (l := l) (i := i) hin
    have mx := memD (l := l) (i := i) (d := ce0) hin
    rw [← hx] at gx mx
    have hr4 := hrr.ext he04
    have hAs := hr4.some_ (by omega)
    refine J.skip ?_
    refine J.seq ?_
    refine J.block ?_
    refine J.seq ?_
    refine J.region ?_
    refine L.va rfl ((by first | exact X.indexAddrn rfl rfl Tryz.underlying29 sz_52 (by first | exact Option.some_ne_none _ | exact hAs) (by omega) | exact X.indexAddr rfl rfl Tryz.underlying29 sz_52 (by first | exact Option.some_ne_none _ | exact hAs) (by omega))) ?_
    refine L.va rfl (X.loadRow (cs := x.vs) rfl hr4 (fun r u hu => flat_row ce_len gx r u hu) (Nat.zero_lt_succ _) Tryz.underlying52 rfl (by kernel_rfl)) ?_
    refine L.alloc rfl zr_52 ?_
    intro b5 w5 hb5 hs5 hk5 he5
    have ho5 := ho4.ext he5
    refine L.storeAgg (vs := [_, _, _, _]) rfl rfl rfl rfl sz_52 (hk5) rfl ?_
    intro w6 hk6 hg6 hs6
    have he46 : Ext w4 w6 := he5.grw hg6 (by intro g hg; injection hg with hg; omega)
    have hk6 : Blk w6 b5 52 x.vs.toArray := hk6
    have ho6 := ho4.ext he46
    have he06 := he04.trans he46
    refine L.nil ?_
    refine J.region ?_
    refine L.va rfl (X.move (by conv => lhs; whnf)) ?_
    refine L.va rfl ((by first | exact X.loadAgg rfl (range_l hk6) Tryz.underlying52 rfl (by kernel_rfl) | exact X.loadAgg rfl (range_blk hk6) Tryz.underlying52 rfl (by kernel_rfl))) ?_
    have c5 := copied x w6 he06.le ((hs.h x mx).ext he06) (hL x mx)
    refine L.call rfl en_36 rfl (c5) ?_
    rintro e w7 ⟨y, rfl, hcy, hy7, he7⟩
    refine ⟨_, rfl, ?_⟩
    have ho7 := ho6.ext he7
    refine L.bslice1 (l := [_, _, _, _]) rfl rfl rfl Tryz.underlying29 sz_52 zr_52 rfl ?_
    intro b8 w8 hb8 hs8 hk8 he8
    have ho8 := ho7.ext he8
    have he48 := (he46.trans he7).trans he8
    have he28 := he4.trans he48
    have z28 := he28.le
    refine L.appendV (q := i + 1) (ys := ((o ++ [y]).flatMap Ce.vs)) rfl rfl rfl Tryz.underlying29 el_52 (ho8) ((blk_readsN (sz := 4) (q := 1) (l := y.vs) hk8 hk8.lt rfl)) (by first | rfl | exact strs_ones _ | assumption) (by omega) (by simp) (by unfold maxLen; omega) (by omega) ?_
    intro B9 d9 w9 ho9 hg9 hb9 hor9
    have hC9 : TCh 52 w8 w9 := TCh.row ho8 hg9
    have hY : ∀ z ∈ o ++ [y], z.Own w.heap.size w9 := fun z hz => by
     have : z.Own w.heap.size w8 := by
      rcases List.mem_append.1 hz with hz | hz
      ·exact (hLo z hz).ext he48
      ·rw [List.mem_singleton] at hz
       rw [hz]
       exact hy7.ext he8
     exact this.put (Below.mono hb9 z2) hC9 (by decide)
    have he9 := he28.grw hg9 (fun g hg => (ho8.lt g hg).1)
    refine L.va rfl (X.assign (by conv => lhs; whnf)) ?_
    refine L.nil ?_
    refine J.region ?_
    refine L.va rfl (X.add rfl rfl (by omega)) ?_
    refine L.va rfl (X.move (by conv => lhs; whnf)) ?_
    refine L.nil ?_
    refine ⟨(i + 1, B9, d9, o ++ [y]), At2 (by first | rfl | exact at_int rfl (by omega) | exact at_slice rfl (by omega) | exact at_int rfl (by simp)) (by first | rfl | exact at_int rfl (by omega) | exact at_slice rfl (by omega) | exact at_int rfl (by simp)), (by (iterate 12 refine Agr.lk rfl ?_); exact Agr.lk rfl (Agr.hav rfl Agr.rfl')), ?_⟩
    refine ⟨⟨by omega, by rw [List.length_append, ho]; rfl, ?_, hY, ho9, he9⟩, by show l.length - (i + 1) < l.length - i; omega⟩
    rw [List.map_append, hco, take_one hin, List.map_append, ← hx]
    show _ ++ [y.con] = _ ++ [x.con]
    rw [hcy]
   ·obtain rfl : i = l.length := by omega
    rw [List.take_length] at hco
    refine J.exit ?_
    refine J.seq ?_
    refine J.region ?_
    refine L.va rfl (X.move (by conv => lhs; whnf)) ?_
    iterate 2 refine L.va rfl (X.assign (by conv => lhs; whnf)) ?_
    refine L.nil ?_
    refine J.ret ?_
    refine fin2 ?_
    refine ⟨⟨B, l.length, d, o⟩, rfl, hco, ⟨Reads.of_own ho4, fun y hy => (hLo y hy).at z4, ho, by show l.length ≤ maxLen; unfold maxLen; omega⟩, own_le' ho4, fun y hy => (hLo y hy).L, he04⟩
end Go.Proofs.YtpomklkfedpkfaaGreat
namespace Go.Proofs.YtpomklkfedpkfaaGreat
set_option linter.unusedVariables false
def swp (l : List Int) (i j : Nat) : List Int := (l.set i (l.getD j 0)).set j (l.getD i 0)
theorem swp_length (l : List Int) (i j : Nat) : (swp l i j).length = l.length := by simp [swp]
theorem getD_set (l : List Int) (i j : Nat) (x : Int) (hi : i < l.length) : (l.set i x).getD j 0 = if i = j then x else l.getD j 0 := by
  simp only [List.getD, List.getElem?_set]
  split
  · rename_i h
    subst h
    simp
  · rfl
theorem swp_at (l : List Int) {i j : Nat} (hi : i < l.length) (hj : j < l.length) (k : Nat) : (swp l i j).getD k 0 = if k = j then l.getD i 0 else if k = i then l.getD j 0 else l.getD k 0 := by
  unfold swp
  rw [getD_set _ _ _ _ (by simpa using hj), getD_set _ _ _ _ hi]
  by_cases h1 : k = j
  · rw [if_pos h1.symm, if_pos h1]
  · rw [if_neg (fun h => h1 h.symm), if_neg h1]
    by_cases h2 : k = i
    · rw [if_pos h2.symm, if_pos h2]
    · rw [if_neg (fun h => h2 h.symm), if_neg h2]
theorem swp_perm (l : List Int) {i j : Nat} (hi : i < l.length) (hj : j < l.length) : (swp l i j).Perm l := by
  have e1 : l.getD j 0 = l[j] := by simp [List.getD, hj]
  have e2 : l.getD i 0 = l[i] := by simp [List.getD, hi]
  unfold swp
  rw [e1, e2]
  exact List.set_set_perm hi hj
end Go.Proofs.YtpomklkfedpkfaaGreat
namespace Go.Proofs.YtpomklkfedpkfaaGreat
set_option linter.unusedVariables false
namespace Srt
inductive Pr (a b : Nat) : List Int → List Int → Prop
  | refl (l : List Int) : Pr a b l l
  | step {l m : List Int} {i j : Nat} (h : Pr a b l m) (hi : a ≤ i ∧ i < b) (hj : a ≤ j ∧ j < b) (hb : b ≤ m.length) : Pr a b l (swp m i j)
variable {a b : Nat} {l m k : List Int}
theorem Pr.len (h : Pr a b l m) : m.length = l.length := by
  induction h with
  | refl => rfl
  | step h _ _ _ ih => rw [swp_length]; exact ih
theorem Pr.perm (h : Pr a b l m) : m.Perm l := by
  induction h with
  | refl => exact List.Perm.refl _
  | step h hi hj hb ih => exact (swp_perm _ (by omega) (by omega)).trans ih
theorem Pr.trans (h : Pr a b l m) (h' : Pr a b m k) : Pr a b l k := by
  induction h' with
  | refl => exact h
  | step _ hi hj hb ih => exact .step ih hi hj hb
theorem Pr.wide {a' b' : Nat} (h : Pr a b l m) (ha : a' ≤ a) (hb : b ≤ b') (hl : b' ≤ l.length) : Pr a' b' l m := by
  induction h with
  | refl => exact .refl _
  | step h hi hj hb2 ih => exact .step ih ⟨by omega, by omega⟩ ⟨by omega, by omega⟩ (by rw [ih.len]; exact hl)
theorem Pr.out (h : Pr a b l m) {i : Nat} (hi : i < a ∨ b ≤ i) : m.getD i 0 = l.getD i 0 := by
  induction h with
  | refl => rfl
  | step h h1 h2 hb ih => rw [swp_at _ (by omega) (by omega), if_neg (by omega), if_neg (by omega), ih]
theorem Pr.all (h : Pr a b l m) {p : Int → Prop} (hp : ∀ i, a ≤ i → i < b → p (l.getD i 0)) : ∀ i, a ≤ i → i < b → p (m.getD i 0) := by
  induction h with
  | refl => exact hp
  | step h h1 h2 hb ih =>
    intro i hi1 hi2
    rw [swp_at _ (by omega) (by omega)]
    split
    · exact ih _ h1.1 h1.2
    · split
      · exact ih _ h2.1 h2.2
      · exact ih _ hi1 hi2
def In (l : List Int) (a b : Nat) : Prop := ∀ p q, a ≤ p → p < q → q < b → l.getD p 0 ≤ l.getD q 0
theorem In.tiny {l : List Int} {a b : Nat} (h : b ≤ a + 1) : In l a b := fun p q h1 h2 h3 => by omega
def InBut (l : List Int) (a i j : Nat) : Prop := ∀ p q, a ≤ p → p < q → q ≤ i → q ≠ j → l.getD p 0 ≤ l.getD q 0
theorem InBut.start {l : List Int} {a i : Nat} (h : In l a i) : InBut l a i i := fun p q h1 h2 h3 h4 => h p q h1 h2 (by omega)
theorem InBut.step {l : List Int} {a i j : Nat} (h : InBut l a i (j + 1)) (hj : a ≤ j) (hji : j + 1 ≤ i) (hi : i < l.length) (hlt : l.getD (j + 1) 0 < l.getD j 0) : InBut (swp l (j + 1) j) a i j := by
  intro p q h1 h2 h3 h4
  have ep := swp_at l (i := j + 1) (j := j) (by omega) (by omega) p
  have eq := swp_at l (i := j + 1) (j := j) (by omega) (by omega) q
  rw [if_neg h4] at eq
  by_cases hq : q = j + 1
  · rw [if_pos hq] at eq
    by_cases hp : p = j
    · rw [if_pos hp] at ep
      rw [ep, eq]; omega
    · rw [if_neg hp, if_neg (by omega)] at ep
      rw [ep, eq]
      exact h p j h1 (by omega) (by omega) (by omega)
  · rw [if_neg hq] at eq
    by_cases hp : p = j
    · rw [if_pos hp] at ep
      rw [ep, eq]
      exact h (j + 1) q (by omega) (by omega) h3 (by omega)
    · rw [if_neg hp] at ep
      by_cases hp2 : p = j + 1
      · rw [if_pos hp2] at ep
        rw [ep, eq]
        exact h j q (by omega) (by omega) h3 (by omega)
      · rw [if_neg hp2] at ep
        rw [ep, eq]
        exact h p q h1 h2 h3 (by omega)
theorem InBut.stop {l : List Int} {a i j : Nat} (h : InBut l a i j) (hji : j ≤ i) (hs : j = a ∨ l.getD (j - 1) 0 ≤ l.getD j 0) : In l a (i + 1) := by
  intro p q h1 h2 h3
  by_cases hq : q = j
  · subst hq
    rcases hs with hs | hs
    · omega
    · by_cases hp : p = q - 1
      · rw [hp]; exact hs
      · exact Int.le_trans (h p (q - 1) h1 (by omega) (by omega) (by omega)) hs
  · exact h p q h1 h2 (by omega) hq
def Hpr (l : List Int) (f lo n : Nat) : Prop := ∀ k, 0 < k → k < n → lo ≤ (k - 1) / 2 → l.getD (f + k) 0 ≤ l.getD (f + (k - 1) / 2) 0
structure Sd (l : List Int) (f lo n i : Nat) : Prop where
  h1 : ∀ k, 0 < k → k < n → lo ≤ (k - 1) / 2 → (k - 1) / 2 ≠ i → l.getD (f + k) 0 ≤ l.getD (f + (k - 1) / 2) 0
  h2 : 0 < i → lo ≤ (i - 1) / 2 → ∀ k, 0 < k → k < n → (k - 1) / 2 = i → l.getD (f + k) 0 ≤ l.getD (f + (i - 1) / 2) 0
theorem Sd.start {l : List Int} {f i n : Nat} (h : Hpr l f (i + 1) n) : Sd l f i n i :=
  ⟨fun k h0 hk hlo hne => h k h0 hk (by omega), fun h0 hlo => absurd hlo (by omega)⟩
theorem Sd.step {l : List Int} {f lo n i j : Nat} (h : Sd l f lo n i) (hj : (j - 1) / 2 = i) (hj0 : 0 < j) (hjn : j < n) (hf : f + n ≤ l.length)
    (hm : ∀ k, 0 < k → k < n → (k - 1) / 2 = i → l.getD (f + k) 0 ≤ l.getD (f + j) 0) (hlt : l.getD (f + i) 0 < l.getD (f + j) 0) : Sd (swp l (f + i) (f + j)) f lo n j := by
  have hs : ∀ k, k < n → (swp l (f + i) (f + j)).getD (f + k) 0 = if k = j then l.getD (f + i) 0 else if k = i then l.getD (f + j) 0 else l.getD (f + k) 0 := fun k hk => by
    rw [swp_at l (by omega) (by omega)]
    by_cases h1 : k = j
    · rw [if_pos (by omega), if_pos h1]
    · rw [if_neg (by omega), if_neg h1]
      by_cases h2 : k = i
      · rw [if_pos (by omega), if_pos h2]
      · rw [if_neg (by omega), if_neg h2]
  refine ⟨fun k h0 hk hlo hne => ?_, fun h0 hlo k hk0 hk hki => ?_⟩
  · have e1 := hs k hk
    have e2 := hs ((k - 1) / 2) (by omega)
    rw [if_neg hne] at e2
    by_cases hp : (k - 1) / 2 = i
    · rw [if_pos hp] at e2
      rw [e2, e1]
      by_cases hkj : k = j
      · rw [if_pos hkj]; omega
      · rw [if_neg hkj, if_neg (by omega)]
        exact hm k h0 hk hp
    · rw [if_neg hp] at e2
      rw [e2, e1]
      rw [if_neg (by omega)]
      by_cases hki : k = i
      · rw [if_pos hki]
        subst hki
        exact h.h2 h0 hlo j hj0 hjn hj
      · rw [if_neg hki]
        exact h.h1 k h0 hk hlo hp
  · have e1 := hs k hk
    have e2 := hs ((j - 1) / 2) (by omega)
    rw [if_neg (by omega), if_neg (by omega)] at e1
    rw [if_neg (by omega), if_pos hj] at e2
    rw [e1, e2]
    have := h.h1 k hk0 hk (by omega) (by omega)
    rw [hki] at this
    exact this
theorem Sd.stop {l : List Int} {f lo n i : Nat} (h : Sd l f lo n i) (hs : ∀ k, 0 < k → k < n → (k - 1) / 2 = i → l.getD (f + k) 0 ≤ l.getD (f + i) 0) : Hpr l f lo n := by
  intro k h0 hk hlo
  by_cases hp : (k - 1) / 2 = i
  · have := hs k h0 hk hp
    rw [hp]; exact this
  · exact h.h1 k h0 hk hlo hp
theorem Hpr.root {l : List Int} {f n : Nat} (h : Hpr l f 0 n) : ∀ k, k < n → l.getD (f + k) 0 ≤ l.getD f 0 := by
  intro k
  induction k using Nat.strongRecOn with
  | ind k ih =>
    intro hk
    by_cases h0 : k = 0
    · rw [h0]; exact Int.le_refl _
    · have h1 := h k (by omega) hk (Nat.zero_le _)
      have h2 := ih ((k - 1) / 2) (by omega) (by omega)
      omega
structure Off (l : List Int) (f p n : Nat) : Prop where
  hp : Hpr l f 0 p
  so : ∀ x y, p ≤ x → x < y → y < n → l.getD (f + x) 0 ≤ l.getD (f + y) 0
  lo : ∀ x y, x < p → p ≤ y → y < n → l.getD (f + x) 0 ≤ l.getD (f + y) 0
theorem Off.all {l : List Int} {f n : Nat} (h : Off l f 0 n) : In l f (f + n) := by
  intro p q h1 h2 h3
  have := h.so (p - f) (q - f) (Nat.zero_le _) (by omega) (by omega)
  rwa [show f + (p - f) = p by omega, show f + (q - f) = q by omega] at this
theorem Off.swap {l : List Int} {f p n : Nat} (h : Off l f (p + 1) n) (hn : p < n) (hf : f + n ≤ l.length) : Sd (swp l f (f + p)) f 0 p 0 := by
  have hs : ∀ k, k < p → 0 < k → (swp l f (f + p)).getD (f + k) 0 = l.getD (f + k) 0 := fun k hk h0 => by
    rw [swp_at l (by omega) (by omega), if_neg (by omega), if_neg (by omega)]
  refine ⟨fun k h0 hk hlo hne => ?_, fun h0 => absurd h0 (by omega)⟩
  rw [hs k hk h0, hs ((k - 1) / 2) (by omega) (by omega)]
  exact h.hp k h0 (by omega) (Nat.zero_le _)
theorem Off.next {l m : List Int} {f p n : Nat} (h : Off l f (p + 1) n) (hn : p < n) (hf : f + n ≤ l.length) (hP : Pr f (f + p) (swp l f (f + p)) m) (hH : Hpr m f 0 p) : Off m f p n := by
  have hr := h.hp.root
  have hmax : m.getD (f + p) 0 = l.getD f 0 := by
    rw [hP.out (.inr (Nat.le_refl _)), swp_at l (by omega) (by omega), if_pos rfl]
  have hhi : ∀ k, p < k → m.getD (f + k) 0 = l.getD (f + k) 0 := fun k hk => by
    rw [hP.out (.inr (by omega)), swp_at l (by omega) (by omega), if_neg (by omega), if_neg (by omega)]
  have hlo : ∀ i, f ≤ i → i < f + p → ∃ k, k ≤ p ∧ m.getD i 0 = l.getD (f + k) 0 := by
    refine hP.all (p := fun z => ∃ k, k ≤ p ∧ z = l.getD (f + k) 0) fun i h1 h2 => ?_
    rw [swp_at l (by omega) (by omega), if_neg (by omega)]
    split
    · exact ⟨p, Nat.le_refl _, rfl⟩
    · exact ⟨i - f, by omega, by rw [show f + (i - f) = i by omega]⟩
  refine ⟨hH, fun x y h1 h2 h3 => ?_, fun x y h1 h2 h3 => ?_⟩
  · rw [hhi y (by omega)]
    by_cases hx : x = p
    · rw [hx, hmax]
      exact h.lo 0 y (by omega) (by omega) h3
    · rw [hhi x (by omega)]
      exact h.so x y (by omega) h2 h3
  · obtain ⟨k, hk, e⟩ := hlo (f + x) (by omega) (by omega)
    rw [e]
    by_cases hy : y = p
    · rw [hy, hmax]
      exact hr k (by omega)
    · rw [hhi y (by omega)]
      exact h.lo k y (by omega) (by omega) h3
structure Pt (P Q : Int → Int → Prop) (m : List Int) (a b i j : Nat) : Prop where
  ai : a < i
  ij : i ≤ j + 1
  jb : j < b
  le : ∀ k, a < k → k < i → P (m.getD k 0) (m.getD a 0)
  ri : ∀ k, j < k → k < b → Q (m.getD k 0) (m.getD a 0)
theorem Pt.swap {P Q : Int → Int → Prop} {m : List Int} {a b i j : Nat} (h : Pt P Q m a b i (j + 1)) (hij : i < j + 1) (hb : b ≤ m.length) (hp : P (m.getD (j + 1) 0) (m.getD a 0)) (hq : Q (m.getD i 0) (m.getD a 0)) : Pt P Q (swp m i (j + 1)) a b (i + 1) j := by
  have h1 := h.ai
  have h2 := h.jb
  have hs := fun k => swp_at m (i := i) (j := j + 1) (by omega) (by omega) k
  have ha : (swp m i (j + 1)).getD a 0 = m.getD a 0 := by rw [hs, if_neg (by omega), if_neg (by omega)]
  refine ⟨by omega, by omega, by omega, fun k k1 k2 => ?_, fun k k1 k2 => ?_⟩
  · rw [ha, hs, if_neg (by omega)]
    by_cases hk : k = i
    · rw [if_pos hk]; exact hp
    · rw [if_neg hk]; exact h.le k k1 (by omega)
  · rw [ha, hs]
    by_cases hk : k = j + 1
    · rw [if_pos hk]; exact hq
    · rw [if_neg hk, if_neg (by omega)]; exact h.ri k (by omega) k2
theorem Pt.done {m : List Int} {a b i j : Nat} (h : Pt (· < ·) (fun x y => y ≤ x) m a b i j) (hij : j < i) (hb : b ≤ m.length) :
    (∀ k, a ≤ k → k < j → (swp m j a).getD k 0 < (swp m j a).getD j 0) ∧ ∀ k, j < k → k < b → (swp m j a).getD j 0 ≤ (swp m j a).getD k 0 := by
  have h1 := h.ai
  have h2 := h.jb
  have h3 := h.ij
  have hs := fun k => swp_at m (i := j) (j := a) (by omega) (by omega) k
  have hj : (swp m j a).getD j 0 = m.getD a 0 := by
    rw [hs]
    by_cases e : j = a
    · rw [if_pos e, e]
    · rw [if_neg e, if_pos rfl]
  refine ⟨fun k k1 k2 => ?_, fun k k1 k2 => ?_⟩
  · rw [hj, hs]
    by_cases e : k = a
    · rw [if_pos e]
      exact h.le j (by omega) hij
    · rw [if_neg e, if_neg (by omega)]
      exact h.le k (by omega) (by omega)
  · rw [hj, hs, if_neg (by omega), if_neg (by omega)]
    exact h.ri k k1 k2
theorem In.same {l m : List Int} {a i : Nat} (h : In l a i) (hs : ∀ k, k < i → m.getD k 0 = l.getD k 0) : In m a i := fun p q h1 h2 h3 => by
  rw [hs p (by omega), hs q h3]
  exact h p q h1 h2 h3
theorem In.but {l : List Int} {a i : Nat} (h : In l a (i + 1)) (hi : i + 1 < l.length) : InBut (swp l (i + 1) i) a i i := fun p q h1 h2 h3 h4 => by
  rw [swp_at l (by omega) (by omega), swp_at l (by omega) (by omega), if_neg (by omega), if_neg (by omega), if_neg (by omega), if_neg (by omega)]
  exact h p q h1 h2 (by omega)
def Lo (l : List Int) (a b : Nat) : Prop := 0 < a → ∀ k, a ≤ k → k < b → l.getD (a - 1) 0 ≤ l.getD k 0
theorem Lo.keep {l m : List Int} {a b : Nat} (h : Lo l a b) (hp : Pr a b l m) : Lo m a b := fun h0 => by
  rw [hp.out (.inl (by omega))]
  exact hp.all (p := fun z => l.getD (a - 1) 0 ≤ z) (h h0)
theorem In.join {m : List Int} {a q b : Nat} (h1 : In m a q) (h2 : In m (q + 1) b) (hl : ∀ k, a ≤ k → k < q → m.getD k 0 ≤ m.getD q 0) (hr : ∀ k, q < k → k < b → m.getD q 0 ≤ m.getD k 0) : In m a b := by
  intro x y k1 k2 k3
  rcases Nat.lt_trichotomy y q with h | h | h
  · exact h1 x y k1 k2 h
  · subst h; exact hl x k1 k2
  · rcases Nat.lt_trichotomy x q with h' | h' | h'
    · exact Int.le_trans (hl x k1 h') (hr y h k3)
    · subst h'; exact hr y h k3
    · exact h2 x y (by omega) k2 k3
theorem rest_right {m1 m2 : List Int} {a q b : Nat} (haq : a ≤ q) (hl : ∀ k, a ≤ k → k < q → m1.getD k 0 < m1.getD q 0) (hr : ∀ k, q < k → k < b → m1.getD q 0 ≤ m1.getD k 0) (hP : Pr a q m1 m2) (hI : In m2 a q) :
    Lo m2 (q + 1) b ∧ ∀ m3, Pr (q + 1) b m2 m3 → In m3 (q + 1) b → In m3 a b := by
  have e0 : m2.getD q 0 = m1.getD q 0 := hP.out (.inr (Nat.le_refl _))
  have hl2 := hP.all (p := fun z => z < m1.getD q 0) hl
  have hr2 : ∀ k, q < k → k < b → m2.getD q 0 ≤ m2.getD k 0 := fun k k1 k2 => by rw [e0, hP.out (.inr (by omega))]; exact hr k k1 k2
  refine ⟨fun _ k k1 k2 => by rw [Nat.add_sub_cancel]; exact hr2 k (by omega) k2, fun m3 hP3 hI3 => ?_⟩
  have hs : ∀ k, k < q + 1 → m3.getD k 0 = m2.getD k 0 := fun k hk => hP3.out (.inl hk)
  refine In.join (hI.same fun k hk => hs k (by omega)) hI3 (fun k k1 k2 => ?_) (fun k k1 k2 => ?_)
  · rw [hs k (by omega), hs q (by omega), e0]
    exact Int.le_of_lt (hl2 k k1 k2)
  · rw [hs q (by omega)]
    exact hP3.all (p := fun z => m2.getD q 0 ≤ z) (fun k k1 k2 => hr2 k (by omega) k2) k k1 k2
theorem rest_left {m1 m2 : List Int} {a q b : Nat} (haq : a ≤ q) (hl : ∀ k, a ≤ k → k < q → m1.getD k 0 < m1.getD q 0) (hr : ∀ k, q < k → k < b → m1.getD q 0 ≤ m1.getD k 0) (hLo : Lo m1 a b) (hqb : q < b) (hP : Pr (q + 1) b m1 m2) (hI : In m2 (q + 1) b) :
    Lo m2 a q ∧ ∀ m3, Pr a q m2 m3 → In m3 a q → In m3 a b := by
  have hs1 : ∀ k, k < q + 1 → m2.getD k 0 = m1.getD k 0 := fun k hk => hP.out (.inl hk)
  have hr2 := hP.all (p := fun z => m1.getD q 0 ≤ z) (fun k k1 k2 => hr k (by omega) k2)
  refine ⟨fun h0 k k1 k2 => by rw [hs1 _ (by omega), hs1 k (by omega)]; exact hLo h0 k k1 (by omega), fun m3 hP3 hI3 => ?_⟩
  have hs : ∀ k, q ≤ k → m3.getD k 0 = m2.getD k 0 := fun k hk => hP3.out (.inr hk)
  have hI4 : In m3 (q + 1) b := fun x y k1 k2 k3 => by rw [hs x (by omega), hs y (by omega)]; exact hI x y k1 k2 k3
  refine In.join hI3 hI4 (fun k k1 k2 => ?_) (fun k k1 k2 => ?_)
  · rw [hs q (Nat.le_refl _), hs1 q (by omega)]
    exact hP3.all (p := fun z => z ≤ m1.getD q 0) (fun k k1 k2 => by rw [hs1 k (by omega)]; exact Int.le_of_lt (hl k k1 k2)) k k1 k2
  · rw [hs q (Nat.le_refl _), hs k (by omega), hs1 q (by omega)]
    exact hr2 k (by omega) k2
theorem rest_eq {m1 : List Int} {a q b : Nat} {v : Int} (haq : a < q) (hl : ∀ k, a ≤ k → k < q → m1.getD k 0 ≤ v) (hr : ∀ k, q ≤ k → k < b → v < m1.getD k 0) (hv : ∀ k, a ≤ k → k < b → v ≤ m1.getD k 0) (hqb : q ≤ b) :
    Lo m1 q b ∧ ∀ m3, Pr q b m1 m3 → In m3 q b → In m3 a b := by
  refine ⟨fun _ k k1 k2 => ?_, fun m3 hP3 hI3 => ?_⟩
  · have h1 := hl (q - 1) (by omega) (by omega)
    have h2 := hr k k1 k2
    omega
  · have hs : ∀ k, k < q → m3.getD k 0 = m1.getD k 0 := fun k hk => hP3.out (.inl hk)
    have h2 := hP3.all (p := fun z => v < z) hr
    intro x y k1 k2 k3
    rcases Nat.lt_or_ge y q with h | h
    · rw [hs x (by omega), hs y h]
      have e1 := hl x k1 (by omega)
      have e2 := hv y (by omega) (by omega)
      omega
    · rcases Nat.lt_or_ge x q with h' | h'
      · rw [hs x h']
        have e1 := hl x k1 h'
        have e2 := h2 y h k3
        omega
      · exact hI3 x y h' k2 k3
end Srt
end Go.Proofs.YtpomklkfedpkfaaGreat
namespace Go.Proofs.YtpomklkfedpkfaaGreat
set_option linter.unusedVariables false
namespace Nrm
def Up (l : List Int) : Prop := l.Pairwise (fun a b => a < b)
theorem up_eq : ∀ {l m : List Int}, Up l → Up m → (∀ x, x ∈ l ↔ x ∈ m) → l = m
  | [], [], _, _, _ => rfl
  | [], b :: t, _, _, h => absurd ((h b).2 (by simp)) (by simp)
  | a :: s, [], _, _, h => absurd ((h a).1 (by simp)) (by simp)
  | a :: s, b :: t, hl, hm, h => by
    have hl' := List.pairwise_cons.1 hl
    have hm' := List.pairwise_cons.1 hm
    have hab : a = b := by
      rcases List.mem_cons.1 ((h a).1 (by simp)) with h1 | h1
      · exact h1
      · rcases List.mem_cons.1 ((h b).2 (by simp)) with h2 | h2
        · exact h2.symm
        · have k1 := hm'.1 a h1
          have k2 := hl'.1 b h2
          omega
    subst hab
    rw [up_eq hl'.2 hm'.2 (fun x => ?_)]
    constructor
    · intro hx
      rcases List.mem_cons.1 ((h x).1 (List.mem_cons_of_mem _ hx)) with k | k
      · subst k; have := hl'.1 x hx; omega
      · exact k
    · intro hx
      rcases List.mem_cons.1 ((h x).2 (List.mem_cons_of_mem _ hx)) with k | k
      · subst k; have := hm'.1 x hx; omega
      · exact k
def sel (n : Nat) (p : Int → Bool) : List Int := ((List.range n).map Int.ofNat).filter p
theorem up_sel (n : Nat) (p : Int → Bool) : Up (sel n p) := by
  unfold sel Up
  refine List.Pairwise.filter _ ?_
  rw [List.pairwise_map]
  refine List.Pairwise.imp ?_ List.pairwise_lt_range
  intro a b h
  exact Int.ofNat_lt.2 h
theorem mem_sel {n : Nat} {p : Int → Bool} {x : Int} : x ∈ sel n p ↔ (0 ≤ x ∧ x < (n : Int)) ∧ p x = true := by
  unfold sel
  rw [List.mem_filter, List.mem_map]
  constructor
  · rintro ⟨⟨k, hk, rfl⟩, h⟩
    have hk := List.mem_range.1 hk
    exact ⟨⟨Int.natCast_nonneg k, Int.ofNat_lt.2 hk⟩, h⟩
  · rintro ⟨⟨h0, h1⟩, h⟩
    exact ⟨⟨x.toNat, List.mem_range.2 (by omega), by show ((x.toNat : Nat) : Int) = x; omega⟩, h⟩
theorem eq_sel {l : List Int} {n : Nat} {p : Int → Bool} (h : Up l) (hm : ∀ x, x ∈ l ↔ (0 ≤ x ∧ x < (n : Int)) ∧ p x = true) : l = sel n p :=
  up_eq h (up_sel n p) fun x => (hm x).trans mem_sel.symm
theorem sel_congr {n : Nat} {p q : Int → Bool} (h : ∀ x, 0 ≤ x → x < (n : Int) → p x = q x) : sel n p = sel n q :=
  eq_sel (up_sel n p) fun x => by
    rw [mem_sel]
    constructor
    · rintro ⟨k, hp⟩; exact ⟨k, by rw [← h x k.1 k.2]; exact hp⟩
    · rintro ⟨k, hp⟩; exact ⟨k, by rw [h x k.1 k.2]; exact hp⟩
theorem sel_all (n : Nat) {p : Int → Bool} (h : ∀ x, 0 ≤ x → x < (n : Int) → p x = true) : (sel n p).length = n := by
  unfold sel
  rw [List.filter_eq_self.2]
  · simp
  · intro x hx
    obtain ⟨k, hk, rfl⟩ := List.mem_map.1 hx
    have hk := List.mem_range.1 hk
    exact h _ (Int.natCast_nonneg k) (Int.ofNat_lt.2 hk)
theorem sel_le (n : Nat) (p : Int → Bool) : (sel n p).length ≤ n := by
  unfold sel
  have := List.length_filter_le p ((List.range n).map Int.ofNat)
  simpa using this
theorem take_next {α : Type} (l : List α) (d : α) {p : Nat} (hp : p < l.length) : l.take (p + 1) = l.take p ++ [l.getD p d] := by
  rw [List.take_succ_eq_append_getElem hp, List.getD, List.getElem?_eq_getElem hp]
  rfl
structure Dd (l : List Int) (p : Nat) (y : List Int) : Prop where
  up : Up y
  mem : ∀ x, x ∈ y ↔ x ∈ l.take p
  top : ∀ x, x ∈ y → x ≤ l.getD (p - 1) 0
variable {l m y : List Int} {n p : Nat}
theorem Dd.one (h : 1 ≤ l.length) : Dd l 1 (l.take 1) := by
  have e : l.take 1 = [l.getD 0 0] := by rw [show (1 : Nat) = 0 + 1 from rfl, take_next l 0 (by omega)]; rfl
  refine ⟨by rw [e]; simp [Up], fun x => Iff.rfl, fun x hx => ?_⟩
  rw [e] at hx
  have : x = l.getD 0 0 := by simpa using hx
  rw [this]
  exact Int.le_refl _
theorem Dd.same (h : Dd l p y) (h1 : 1 ≤ p) (hp : p < l.length) (e : l.getD p 0 = l.getD (p - 1) 0) : Dd l (p + 1) y := by
  refine ⟨h.up, fun x => ?_, fun x hx => by rw [Nat.add_sub_cancel, e]; exact h.top x hx⟩
  rw [take_next l 0 hp, List.mem_append, ← h.mem x]
  constructor
  · exact .inl
  · rintro (k | k)
    · exact k
    · have k : x = l.getD p 0 := by simpa using k
      rw [h.mem, k, e]
      have hlt : p - 1 < (l.take p).length := by rw [List.length_take]; omega
      have : (l.take p)[p - 1]'hlt = l.getD (p - 1) 0 := by
        rw [List.getElem_take, List.getD, List.getElem?_eq_getElem (by omega)]; rfl
      rw [← this]
      exact List.getElem_mem _
theorem Dd.new (h : Dd l p y) (hp : p < l.length) (e : l.getD (p - 1) 0 < l.getD p 0) : Dd l (p + 1) (y ++ [l.getD p 0]) := by
  refine ⟨?_, fun x => ?_, fun x hx => ?_⟩
  · unfold Up
    rw [List.pairwise_append]
    refine ⟨h.up, by simp, fun a ha b hb => ?_⟩
    have hb : b = l.getD p 0 := by simpa using hb
    have := h.top a ha
    omega
  · rw [take_next l 0 hp, List.mem_append, List.mem_append, h.mem x]
  · rw [Nat.add_sub_cancel]
    rcases List.mem_append.1 hx with k | k
    · have := h.top x k; omega
    · have k : x = l.getD p 0 := by simpa using k
      omega
theorem Dd.mems (h : Dd l p y) (hp : l.length ≤ p) (x : Int) : x ∈ y ↔ x ∈ l := by rw [h.mem x, List.take_of_length_le hp]
structure Cmn (la lb a b out : List Int) : Prop where
  uo : Up out
  ua : Up a
  ub : Up b
  oa : ∀ x, x ∈ out → ∀ z, z ∈ a → x < z
  ob : ∀ x, x ∈ out → ∀ z, z ∈ b → x < z
  m : ∀ x, (x ∈ out ∨ x ∈ a ∧ x ∈ b) ↔ (x ∈ la ∧ x ∈ lb)
variable {la lb a b out : List Int} {u v : Int}
theorem Cmn.start (ha : Up la) (hb : Up lb) : Cmn la lb la lb [] := ⟨by simp [Up], ha, hb, by simp, by simp, by simp⟩
theorem Cmn.left (h : Cmn la lb (u :: a) (v :: b) out) (hlt : u < v) : Cmn la lb a (v :: b) out := by
  refine ⟨h.uo, (List.pairwise_cons.1 h.ua).2, h.ub, fun x hx z hz => h.oa x hx z (List.mem_cons_of_mem _ hz), h.ob, fun x => ?_⟩
  rw [← h.m x]
  constructor
  · rintro (k | ⟨k1, k2⟩)
    · exact .inl k
    · exact .inr ⟨List.mem_cons_of_mem _ k1, k2⟩
  · rintro (k | ⟨k1, k2⟩)
    · exact .inl k
    · rcases List.mem_cons.1 k1 with k1 | k1
      · subst k1
        rcases List.mem_cons.1 k2 with k2 | k2
        · omega
        · have := (List.pairwise_cons.1 h.ub).1 x k2; omega
      · exact .inr ⟨k1, k2⟩
theorem Cmn.turn (h : Cmn la lb a b out) : Cmn lb la b a out := by
  refine ⟨h.uo, h.ub, h.ua, h.ob, h.oa, fun x => ?_⟩
  rw [And.comm (a := x ∈ b), And.comm (a := x ∈ lb)]
  exact h.m x
theorem Cmn.right (h : Cmn la lb (u :: a) (v :: b) out) (hlt : v < u) : Cmn la lb (u :: a) b out := (Cmn.left h.turn hlt).turn
theorem Cmn.both (h : Cmn la lb (u :: a) (u :: b) out) : Cmn la lb a b (out ++ [u]) := by
  have pa := List.pairwise_cons.1 h.ua
  have pb := List.pairwise_cons.1 h.ub
  refine ⟨?_, pa.2, pb.2, ?_, ?_, fun x => ?_⟩
  · unfold Up
    rw [List.pairwise_append]
    refine ⟨h.uo, by simp, fun x hx z hz => ?_⟩
    have hz : z = u := by simpa using hz
    subst hz
    exact h.oa x hx z (by simp)
  · intro x hx z hz
    rcases List.mem_append.1 hx with k | k
    · exact h.oa x k z (List.mem_cons_of_mem _ hz)
    · have k : x = u := by simpa using k
      subst k; exact pa.1 z hz
  · intro x hx z hz
    rcases List.mem_append.1 hx with k | k
    · exact h.ob x k z (List.mem_cons_of_mem _ hz)
    · have k : x = u := by simpa using k
      subst k; exact pb.1 z hz
  · rw [← h.m x, List.mem_append]
    constructor
    · rintro ((k | k) | ⟨k1, k2⟩)
      · exact .inl k
      · have k : x = u := by simpa using k
        subst k; exact .inr ⟨by simp, by simp⟩
      · exact .inr ⟨List.mem_cons_of_mem _ k1, List.mem_cons_of_mem _ k2⟩
    · rintro (k | ⟨k1, k2⟩)
      · exact .inl (.inl k)
      · rcases List.mem_cons.1 k1 with k1 | k1
        · subst k1; exact .inl (.inr (by simp))
        · rcases List.mem_cons.1 k2 with k2 | k2
          · subst k2; exact .inl (.inr (by simp))
          · exact .inr ⟨k1, k2⟩
theorem Cmn.stop (h : Cmn la lb a b out) (hz : a = [] ∨ b = []) (x : Int) : x ∈ out ↔ (x ∈ la ∧ x ∈ lb) := by
  rw [← h.m x]
  constructor
  · exact .inl
  · rintro (k | ⟨k1, k2⟩)
    · exact k
    · rcases hz with rfl | rfl
      · exact absurd k1 (by simp)
      · exact absurd k2 (by simp)
abbrev Ks : Type := List (Int × List Int)
def kp (l : Ks) (d c : Int) : Bool := l.all fun f => !decide (f.1 = d) || f.2.contains c
theorem kp_iff {l : Ks} {d c : Int} : kp l d c = true ↔ ∀ f, f ∈ l → f.1 = d → c ∈ f.2 := by
  unfold kp
  rw [List.all_eq_true]
  constructor
  · intro h f hf e
    have := h f hf
    simpa [e] using this
  · intro h f hf
    by_cases e : f.1 = d
    · simp [e, h f hf e]
    · simp [e]
theorem kp_next (l : Ks) (f : Int × List Int) (d c : Int) : kp (l ++ [f]) d c = (kp l d c && (!decide (f.1 = d) || f.2.contains c)) := by
  unfold kp
  simp
def sm (l : Ks) (d : Int) : Bool := l.any fun f => decide (f.1 = d)
theorem sm_next (l : Ks) (f : Int × List Int) (d : Int) : sm (l ++ [f]) d = (sm l d || decide (f.1 = d)) := by
  unfold sm
  simp
theorem kp_none {l : Ks} {d : Int} (h : sm l d = false) (c : Int) : kp l d c = true := by
  rw [kp_iff]
  intro f hf e
  unfold sm at h
  rw [List.any_eq_false] at h
  exact absurd (h f hf) (by simp [e])
def nf (l : Ks) (d : Nat) (n : Nat) : Ks := if (sel n (kp l d)).length < n then [((d : Int), sel n (kp l d))] else []
def nrm (l : Ks) : Nat → List Nat → Ks
  | _, [] => []
  | d, n :: t => nf l d n ++ nrm l (d + 1) t
theorem nrm_snoc (l : Ks) : ∀ (ns : List Nat) (d n : Nat), nrm l d (ns ++ [n]) = nrm l d ns ++ nf l (d + ns.length) n
  | [], d, n => by simp [nrm]
  | k :: t, d, n => by
    show nf l d k ++ nrm l (d + 1) (t ++ [n]) = nf l d k ++ nrm l (d + 1) t ++ nf l (d + (t.length + 1)) n
    rw [nrm_snoc l t (d + 1) n, List.append_assoc, show d + 1 + t.length = d + (t.length + 1) by omega]
theorem nf_none {l : Ks} {d : Nat} (h : sm l d = false) (n : Nat) : nf l d n = [] := by
  unfold nf
  rw [if_neg]
  rw [sel_all n (fun x _ _ => kp_none h x)]
  omega
theorem nf_len (l : Ks) (d n : Nat) : (nf l d n).length ≤ 1 := by
  unfold nf
  split
  · exact Nat.le_refl _
  · exact Nat.zero_le _
theorem nrm_len (l : Ks) : ∀ (ns : List Nat) (d : Nat), (nrm l d ns).length ≤ ns.length
  | [], _ => Nat.le_refl _
  | n :: t, d => by
    show (nf l d n ++ nrm l (d + 1) t).length ≤ t.length + 1
    rw [List.length_append]
    have := nf_len l d n
    have := nrm_len l t (d + 1)
    omega
def pk (l : Ks) (cs : List Int) : Bool := l.all fun f => decide (0 ≤ f.1 ∧ f.1 < cs.length) && f.2.contains (cs.getD f.1.toNat 0)
theorem pk_iff {l : Ks} {cs : List Int} : pk l cs = true ↔ ∀ f, f ∈ l → (0 ≤ f.1 ∧ f.1 < cs.length) ∧ cs.getD f.1.toNat 0 ∈ f.2 := by
  unfold pk
  rw [List.all_eq_true]
  constructor
  · intro h f hf
    have := h f hf
    rw [Bool.and_eq_true, decide_eq_true_eq] at this
    exact ⟨this.1, by simpa using this.2⟩
  · intro h f hf
    have := h f hf
    rw [Bool.and_eq_true, decide_eq_true_eq]
    exact ⟨this.1, by simpa using this.2⟩
end Nrm
end Go.Proofs.YtpomklkfedpkfaaGreat
namespace Go.Proofs.YtpomklkfedpkfaaGreat
set_option maxRecDepth 100000
open Go.RowKit H
open Srt
set_option linter.unusedVariables false
theorem X.index1eI {P : Program} {w : World} {f : Fr} {x y : Operand} {d : Option Tmp} {t ty e : TypeId} {pos : String} {aft : Array Edge} {g : Option (Nat × Bool)} {A : Option Addr} {q c j : Nat} {k : IntKind} {m : Int} (hx : ev f x = .slice A q c) (hy : ev f y = .int k m) (hm : m = (j : Int)) (ht : P.underlying t = some (.slice e)) (hs : Siz P e 1) (hA : A ≠ none) (hj : j < q) : (execOp (ev f) ⟨d, .indexAddr t x y, ty, pos, aft, g⟩).run P w = .ok (.value (pA A j)) w :=
  X.index1n hx (by rw [hy, hm]) ht hs hA hj
theorem isnanI (x : Int) (w : World) : Calls Tryz.prog 112 #[.int .i64 x] w fun e w' => e = .returned (.bool false) ∧ w = w' := by
  refine enter Tryz.func112 rfl (by kernel_rfl) ?_
  refine J.seq ?_
  refine J.region ?_
  refine L.va rfl (X.assign (by conv => lhs; whnf)) ?_
  refine L.nil ?_
  refine J.seq ?_
  refine J.region ?_
  refine L.va rfl (X.move (by conv => lhs; whnf)) ?_
  refine L.va rfl (X.move (by conv => lhs; whnf)) ?_
  refine L.va rfl (X.neq rfl rfl) ?_
  refine L.va rfl (X.assign (by conv => lhs; whnf)) ?_
  refine L.nil ?_
  refine J.ret ?_
  refine fin1 ?_
  exact ⟨(show Ending.returned (.bool (!decide (x = x))) = _ from by simp), rfl⟩
theorem clessI (x y : Int) (w : World) : Calls Tryz.prog 93 #[.int .i64 x, .int .i64 y] w fun e w' => e = .returned (.bool (decide (x < y))) ∧ w = w' := by
 refine enter Tryz.func93 rfl (by kernel_rfl) ?_
 refine J.seq ?_
 refine J.region ?_
 refine L.va rfl (X.assign (by conv => lhs; whnf)) ?_
 refine L.nil ?_
 refine J.seq ?_
 refine J.region ?_
 refine L.va rfl (X.move (by conv => lhs; whnf)) ?_
 refine L.call rfl en_112 rfl (isnanI x w) ?_
 rintro e _ ⟨rfl, rfl⟩
 refine ⟨_, rfl, ?_⟩
 refine L.va rfl (X.move (by conv => lhs; whnf)) ?_
 refine L.caseBF (k := 7) rfl (by rfl) ?_
 iterate 3 refine L.no rfl ?_
 refine L.va rfl (X.pickF rfl (by conv => lhs; whnf)) ?_
 iterate 3 refine L.va rfl (X.move (by conv => lhs; whnf)) ?_
 refine L.va rfl (X.lss rfl rfl) ?_
 refine L.va rfl (X.pickF rfl (by conv => lhs; whnf)) ?_
 refine L.va rfl (X.assign (by conv => lhs; whnf)) ?_
 refine L.nil ?_
 refine J.ret ?_
 refine fin1 ?_
 exact ⟨rfl, rfl⟩
structure SwI (w w' : World) (A : Option Addr) (n c N a b : Nat) (l l' : List Int) : Prop where
  o : w'.ownsRow N 3 1 (.slice A n c) n (nums .i64 l')
  g : w.grownBy w' (Value.ownBlock (.slice A n c))
  p : Pr a b l l'
theorem isortI (A : Option Addr) (n c N a b : Nat) (l : List Int) (w : World) (ho : w.ownsRow N 3 1 (.slice A n c) n (nums .i64 l)) (hab : a ≤ b) (hb : b ≤ n) (hn : n ≤ 1000000) :
  Calls Tryz.prog 87 #[.slice A n c, .int .i64 (a : Int), .int .i64 (b : Int)] w fun e w' => e = .returned (.tuple #[]) ∧ ∃ l', SwI w w' A n c N a b l l' ∧ In l' a b := by
 have hl : l.length = n := by have := ho.1; simpa [nums] using this
 refine enter Tryz.func87 rfl (by kernel_rfl) ?_
 refine J.seq ?_
 refine J.region ?_
 refine L.va rfl (X.move (by conv => lhs; whnf)) ?_
 refine L.va rfl (X.add rfl rfl (by omega)) ?_
 refine L.va rfl (X.assign (by conv => lhs; whnf)) ?_
 refine L.nil ?_
 refine J.block ?_
 refine J.loop (X := Nat × List Int) [6, 7, 10, 11, 12, 13, 14, 15, 16, 17, 18, 19, 20, 21, 22, 23, 24, 25, 26, 27, 28, 29, 30, 31, 32, 33, 34, 35, 36, 37, 38, 39, 40, 41, 42, 43, 44, 45, 46, 47, 48] (fun (i, m) => [(6, .int .i64 (i : Int))]) (fun (i, m) w' => a + 1 ≤ i ∧ (i ≤ b ∨ i = a + 1) ∧ SwI w w' A n c N a b l m ∧ In m a i) (fun (i, _) => n + 1 - i) ((a + 1, l)) (At1 (by first | rfl | exact at_int rfl (by omega) | exact at_slice rfl (by omega) | exact at_int rfl (by simp))) ?_ ?_
 ·exact ⟨Nat.le_refl _, .inr rfl, ⟨ho, grown_ext (Ext.refl _), .refl _⟩, In.tiny (Nat.le_refl _)⟩
 ·rintro ⟨i, m⟩ g w2 ⟨h1, h2, M, hI⟩
  have hml : m.length = n := by rw [M.p.len, hl]
  iterate 2 refine J.seq ?_
  refine J.region ?_
  iterate 2 refine L.va rfl (X.move (by conv => lhs; whnf)) ?_
  refine L.va rfl (X.lss rfl rfl) ?_
  refine L.nil ?_
  refine J.dec rfl (fun hlt => ?_) (fun hlt => ?_)
  ·refine J.skip ?_
   refine J.seq ?_
   refine J.block ?_
   refine J.seq ?_
   refine J.region ?_
   refine L.va rfl (X.move (by conv => lhs; whnf)) ?_
   refine L.va rfl (X.assign (by conv => lhs; whnf)) ?_
   refine L.nil ?_
   refine J.block ?_
   refine J.loop (X := Nat × List Int) [7, 16, 17, 18, 19, 20, 21, 22, 23, 24, 25, 26, 27, 28, 29, 30, 31, 32, 33, 34, 35, 36, 37, 38, 39, 40, 41, 42, 43, 44, 45, 46, 47, 48] (fun (j, m) => [(7, .int .i64 (j : Int))]) (fun (j, m) w' => a ≤ j ∧ j ≤ i ∧ SwI w w' A n c N a b l m ∧ InBut m a i j) (fun (j, _) => j) ((i, m)) (At1 (by first | rfl | exact at_int rfl (by omega) | exact at_slice rfl (by omega) | exact at_int rfl (by simp))) ?_ ?_
   ·exact ⟨by omega, Nat.le_refl _, M, InBut.start hI⟩
   ·rintro ⟨j, m⟩ g w3 ⟨h3, h4, M, hJ⟩
    have hml : m.length = n := by rw [M.p.len, hl]
    have hr := Reads.of_own M.o
    have hA := hr.some_ (by omega)
    iterate 2 refine J.seq ?_
    refine J.quiet mixed (by kernel_rfl) ?_
    iterate 2 refine Qt.va rfl (fun w' hw => X.move (by conv => lhs; whnf)) ?_
    refine Qt.va rfl (fun w' hw => X.gtr rfl rfl) ?_
    refine Qt.va rfl (fun w' hw => X.move (by conv => lhs; whnf)) ?_
    refine Qt.caseDec (k := 19) rfl (fun hja => ?_) (fun hja => ?_)
    ·refine Qt.va rfl (fun w' hw => X.move (by conv => lhs; whnf)) ?_
     refine Qt.va rfl (fun w' hw => X.move (by conv => lhs; whnf)) ?_
     refine Qt.va rfl (fun w' hw => (by first | exact X.index1n rfl rfl Tryz.underlying44 sz_3 (by first | exact Option.some_ne_none _ | exact hr.some_ (by omega) | exact hA) (by omega) | exact X.index1 rfl rfl Tryz.underlying44 sz_3 (by first | exact Option.some_ne_none _ | exact hr.some_ (by omega) | exact hA) (by omega))) ?_
     refine Qt.va rfl (fun w' hw => X.load rfl sc_3 (by first | exact Ld.num (hr.ext hw) (by omega) | exact hA)) ?_
     iterate 2 refine Qt.va rfl (fun w' hw => X.move (by conv => lhs; whnf)) ?_
     refine Qt.va rfl (fun w' hw => X.sub rfl rfl (by omega)) ?_
     refine Qt.va rfl (fun w' hw => X.index1eI (j := j - 1) rfl rfl (by omega) Tryz.underlying44 sz_3 hA (by omega)) ?_
     refine Qt.va rfl (fun w' hw => X.load rfl sc_3 (by first | exact Ld.num (hr.ext hw) (by omega) | exact hA)) ?_
     refine Qt.call rfl en_93 rfl (fun w' hw => calls_same hw (clessI (m.getD j 0) (m.getD (j - 1) 0) w')) ?_
     refine Qt.va rfl (fun w' hw => X.pickT rfl (by conv => lhs; whnf)) ?_
     refine Qt.nil (fun w4 hq => ?_)
     replace hr := hr.ext hq
     by_cases hd : m.getD j 0 < m.getD (j - 1) 0
     ·obtain ⟨j', rfl⟩ : ∃ j', j = j' + 1 := ⟨j - 1, by omega⟩
      rw [Nat.add_sub_cancel] at hd
      rw [Nat.add_sub_cancel]
      have ho4 := M.o.ext hq
      rw [decide_eq_true hd]
      refine J.iteT rfl ?_
      refine J.skip ?_
      refine J.seq ?_
      refine J.block ?_
      refine J.draw (ℓ := 1000000) (S := (fun _ => True)) mixed (fun w5d hSE hS_h => ?_)
      have hS : ((fun _ => True)) w5d := trivial
      have hrw5 := (Reads.of_own ho4).ext hSE
      have hoX := ho4.ext hSE
      have hG : w4.grownBy w5d (Value.ownBlock (.slice A n c)) := grown_ext hSE
      refine D.va 0 rfl (by kernel_rfl) (fun _ _ _ h => h) rfl (fun w' hw => X.move (by conv => lhs; whnf)) hS ?_
      refine D.va 1 rfl (by kernel_rfl) (fun _ _ _ h => h) rfl (fun w' hw => X.move (by conv => lhs; whnf)) hS ?_
      refine D.va 2 rfl (by kernel_rfl) (fun _ _ _ h => h) rfl (fun w' hw => X.move (by conv => lhs; whnf)) hS ?_
      refine D.va 3 rfl (by kernel_rfl) (fun _ _ _ h => h) rfl (fun w' hw => X.move (by conv => lhs; whnf)) hS ?_
      refine D.va 4 rfl (by kernel_rfl) (fun _ _ _ h => h) rfl (fun w' hw => X.sub rfl rfl (by omega)) hS ?_
      refine D.va 5 rfl (by kernel_rfl) (fun _ _ _ h => h) rfl (fun w' hw => X.move (by conv => lhs; whnf)) hS ?_
      refine D.va 6 rfl (by kernel_rfl) (fun _ _ _ h => h) rfl (fun w' hw => X.move (by conv => lhs; whnf)) hS ?_
      refine D.va 7 rfl (by kernel_rfl) (fun _ _ _ h => h) rfl (fun w' hw => X.sub rfl rfl (by omega)) hS ?_
      refine D.va 8 rfl (by kernel_rfl) (fun _ _ _ h => h) rfl (fun w' hw => X.index1eI (j := j') rfl rfl (by omega) Tryz.underlying44 sz_3 hA (by omega)) hS ?_
      refine D.va 10 rfl (by kernel_rfl) (fun _ _ _ h => h) rfl (fun w' hw => X.move (by conv => lhs; whnf)) hS ?_
      refine D.va 11 rfl (by kernel_rfl) (fun _ _ _ h => h) rfl (fun w' hw => X.move (by conv => lhs; whnf)) hS ?_
      refine D.va 12 rfl (by kernel_rfl) (fun _ _ _ h => h) rfl (fun w' hw => (by first | exact X.index1n rfl rfl Tryz.underlying44 sz_3 (by first | exact Option.some_ne_none _ | exact hA) (by omega) | exact X.index1 rfl rfl Tryz.underlying44 sz_3 (by first | exact Option.some_ne_none _ | exact hA) (by omega))) hS ?_
      refine D.two 9 13 (by kernel_rfl) rfl rfl ?_ ?_
      ·refine L.va rfl (X.load rfl sc_3 (Ld.num hrw5 (j := j') (by omega))) ?_
       refine L.nil ?_
       refine ⟨fun _ => hS, ?_⟩
       refine D.one 13 (by kernel_rfl) rfl ?_
       refine L.va rfl (X.load rfl sc_3 (Ld.num hrw5 (j := j' + 1) (by omega))) ?_
       refine L.nil ?_
       refine ⟨fun _ => hS, ?_⟩
       refine D.va 14 rfl (by kernel_rfl) (fun _ _ _ h => h) rfl (fun w' hw => (by first | exact X.index1n rfl rfl Tryz.underlying44 sz_3 (by first | exact Option.some_ne_none _ | exact hA) (by omega) | exact X.index1 rfl rfl Tryz.underlying44 sz_3 (by first | exact Option.some_ne_none _ | exact hA) (by omega))) hS ?_
       refine D.one 15 (by kernel_rfl) rfl ?_
       refine L.storeON rfl rfl (by conv => lhs; whnf) sz_3 (hoX) (by omega) ?_
       intro w5 hoX hg2 hb2 hs2
       have hS1 := trivial
       refine L.nil ?_
       refine ⟨fun _ => hS1, ?_⟩
       replace hG := grb_trans hG hg2
       refine D.va 16 rfl (by kernel_rfl) (fun _ _ _ h => h) rfl (fun w' hw => X.index1eI (j := j') rfl rfl (by omega) Tryz.underlying44 sz_3 hA (by omega)) hS1 ?_
       refine D.one 17 (by kernel_rfl) rfl ?_
       refine L.storeON rfl rfl (by conv => lhs; whnf) sz_3 (hoX) (by omega) ?_
       intro w5 hoX hg2 hb2 hs2
       have hS2 := trivial
       refine L.nil ?_
       refine ⟨fun _ => hS2, ?_⟩
       replace hG := grb_trans hG hg2
       refine D.done (by kernel_rfl) ?_
       refine J.region ?_
       refine L.va rfl (X.move (by conv => lhs; whnf)) ?_
       refine L.va rfl (X.sub rfl rfl (by omega)) ?_
       refine L.va rfl (X.assign (by conv => lhs; whnf)) ?_
       refine L.nil ?_
       refine ⟨(j', swp m (j' + 1) j'), At1 (by first | rfl | exact at_int rfl (by omega) | exact at_slice rfl (by omega) | exact at_int rfl (by simp)), (by (iterate 35 refine Agr.lk rfl ?_); exact Agr.lk rfl (Agr.hav rfl Agr.rfl')), ?_⟩
       exact ⟨⟨by omega, by omega, ⟨hoX, grb_trans M.g (grb_trans (grown_ext hq) hG), .step M.p ⟨by omega, by omega⟩ ⟨by omega, by omega⟩ (by omega)⟩, hJ.step (by omega) h4 (by omega) hd⟩, by show j' < j' + 1; omega⟩
      ·refine L.va rfl (X.load rfl sc_3 (Ld.num hrw5 (j := j' + 1) (by omega))) ?_
       refine L.nil ?_
       refine ⟨fun _ => hS, ?_⟩
       refine D.one 9 (by kernel_rfl) rfl ?_
       refine L.va rfl (X.load rfl sc_3 (Ld.num hrw5 (j := j') (by omega))) ?_
       refine L.nil ?_
       refine ⟨fun _ => hS, ?_⟩
       refine D.va 14 rfl (by kernel_rfl) (fun _ _ _ h => h) rfl (fun w' hw => (by first | exact X.index1n rfl rfl Tryz.underlying44 sz_3 (by first | exact Option.some_ne_none _ | exact hA) (by omega) | exact X.index1 rfl rfl Tryz.underlying44 sz_3 (by first | exact Option.some_ne_none _ | exact hA) (by omega))) hS ?_
       refine D.one 15 (by kernel_rfl) rfl ?_
       refine L.storeON rfl rfl (by conv => lhs; whnf) sz_3 (hoX) (by omega) ?_
       intro w5 hoX hg2 hb2 hs2
       have hS1 := trivial
       refine L.nil ?_
       refine ⟨fun _ => hS1, ?_⟩
       replace hG := grb_trans hG hg2
       refine D.va 16 rfl (by kernel_rfl) (fun _ _ _ h => h) rfl (fun w' hw => X.index1eI (j := j') rfl rfl (by omega) Tryz.underlying44 sz_3 hA (by omega)) hS1 ?_
       refine D.one 17 (by kernel_rfl) rfl ?_
       refine L.storeON rfl rfl (by conv => lhs; whnf) sz_3 (hoX) (by omega) ?_
       intro w5 hoX hg2 hb2 hs2
       have hS2 := trivial
       refine L.nil ?_
       refine ⟨fun _ => hS2, ?_⟩
       replace hG := grb_trans hG hg2
       refine D.done (by kernel_rfl) ?_
       refine J.region ?_
       refine L.va rfl (X.move (by conv => lhs; whnf)) ?_
       refine L.va rfl (X.sub rfl rfl (by omega)) ?_
       refine L.va rfl (X.assign (by conv => lhs; whnf)) ?_
       refine L.nil ?_
       refine ⟨(j', swp m (j' + 1) j'), At1 (by first | rfl | exact at_int rfl (by omega) | exact at_slice rfl (by omega) | exact at_int rfl (by simp)), (by (iterate 35 refine Agr.lk rfl ?_); exact Agr.lk rfl (Agr.hav rfl Agr.rfl')), ?_⟩
       exact ⟨⟨by omega, by omega, ⟨hoX, grb_trans M.g (grb_trans (grown_ext hq) hG), .step M.p ⟨by omega, by omega⟩ ⟨by omega, by omega⟩ (by omega)⟩, hJ.step (by omega) h4 (by omega) hd⟩, by show j' < j' + 1; omega⟩
     ·rw [decide_eq_false hd]
      refine J.iteF rfl ?_
      refine J.exit ?_
      refine J.region ?_
      refine L.va rfl (X.move (by conv => lhs; whnf)) ?_
      refine L.va rfl (X.add rfl rfl (by omega)) ?_
      refine L.va rfl (X.assign (by conv => lhs; whnf)) ?_
      refine L.nil ?_
      refine ⟨(i + 1, m), At1 (by first | rfl | exact at_int rfl (by omega) | exact at_slice rfl (by omega) | exact at_int rfl (by simp)), (by (iterate 19 refine Agr.lk rfl ?_); refine Agr.lk rfl ?_; refine Agr.hav rfl ?_; (iterate 5 refine Agr.lk rfl ?_); exact Agr.lk rfl (Agr.hav rfl Agr.rfl')), ?_⟩
      exact ⟨⟨by omega, by omega, ⟨M.o.ext hq, grb_trans M.g (grown_ext hq), M.p⟩, hJ.stop h4 (.inr (by omega))⟩, by show n + 1 - (i + 1) < n + 1 - i; omega⟩
    ·refine Qt.no rfl ?_
     iterate 9 refine Qt.no rfl ?_
     refine Qt.va rfl (fun w' hw => X.pickF rfl (by conv => lhs; whnf)) ?_
     refine Qt.nil (fun w4 hq => ?_)
     replace hr := hr.ext hq
     refine J.iteF rfl ?_
     refine J.exit ?_
     refine J.region ?_
     refine L.va rfl (X.move (by conv => lhs; whnf)) ?_
     refine L.va rfl (X.add rfl rfl (by omega)) ?_
     refine L.va rfl (X.assign (by conv => lhs; whnf)) ?_
     refine L.nil ?_
     refine ⟨(i + 1, m), At1 (by first | rfl | exact at_int rfl (by omega) | exact at_slice rfl (by omega) | exact at_int rfl (by simp)), (by (iterate 19 refine Agr.lk rfl ?_); refine Agr.lk rfl ?_; refine Agr.hav rfl ?_; (iterate 5 refine Agr.lk rfl ?_); exact Agr.lk rfl (Agr.hav rfl Agr.rfl')), ?_⟩
     exact ⟨⟨by omega, by omega, ⟨M.o.ext hq, grb_trans M.g (grown_ext hq), M.p⟩, hJ.stop h4 (.inl (by omega))⟩, by show n + 1 - (i + 1) < n + 1 - i; omega⟩
  ·refine J.exit ?_
   refine thn_exit <| thn_exit <| inB_eq ?_
   refine fin0 (.inr rfl) ?_
   refine ⟨rfl, m, M, ?_⟩
   intro p q k1 k2 k3
   exact hI p q k1 k2 (by omega)
end Go.Proofs.YtpomklkfedpkfaaGreat
namespace Go.Proofs.YtpomklkfedpkfaaGreat
set_option maxRecDepth 100000
open Go.RowKit H
open Srt
set_option linter.unusedVariables false
theorem sdownI (A : Option Addr) (n c N lo hi f : Nat) (l : List Int) (w : World) (ho : w.ownsRow N 3 1 (.slice A n c) n (nums .i64 l)) (hf : f + hi ≤ n) (hn : n ≤ 1000000) (hlo : lo ≤ hi) (hS : Sd l f lo hi lo) :
  Calls Tryz.prog 107 #[.slice A n c, .int .i64 (lo : Int), .int .i64 (hi : Int), .int .i64 (f : Int)] w fun e w' => e = .returned (.tuple #[]) ∧ ∃ l', SwI w w' A n c N f (f + hi) l l' ∧ Hpr l' f lo hi := by
 have hl : l.length = n := by have := ho.1; simpa [nums] using this
 refine enter Tryz.func107 rfl (by kernel_rfl) ?_
 refine J.seq ?_
 refine J.region ?_
 refine L.va rfl (X.move (by conv => lhs; whnf)) ?_
 refine L.va rfl (X.assign (by conv => lhs; whnf)) ?_
 refine L.nil ?_
 refine J.block ?_
 refine J.loop (X := Nat × List Int) [8, 9, 11, 12, 13, 14, 15, 16, 17, 18, 19, 20, 21, 22, 23, 24, 25, 26, 27, 28, 29, 30, 31, 32, 33, 34, 35, 36, 37, 38, 39, 40, 41, 42, 43, 44, 45, 46, 47, 48, 49, 50, 51, 52, 53, 54, 55, 56, 57, 58, 59, 60, 61, 62, 63, 64, 65, 66, 67, 68, 69, 70, 71, 72, 73, 74, 75] (fun (r, m) => [(8, .int .i64 (r : Int))]) (fun (r, m) w' => r ≤ hi ∧ SwI w w' A n c N f (f + hi) l m ∧ Sd m f lo hi r) (fun (r, _) => hi - r) ((lo, l)) (At1 (by first | rfl | exact at_int rfl (by omega) | exact at_slice rfl (by omega) | exact at_int rfl (by simp))) ?_ ?_
 ·exact ⟨hlo, ⟨ho, grown_ext (Ext.refl _), .refl _⟩, hS⟩
 ·rintro ⟨r, m⟩ g w2 ⟨h1, M, hSd⟩
  have hml : m.length = n := by rw [M.p.len, hl]
  refine J.block ?_
  refine J.seq ?_
  refine J.region ?_
  refine L.va rfl (X.move (by conv => lhs; whnf)) ?_
  refine L.va rfl (X.mul rfl rfl (by omega)) ?_
  refine L.va rfl (X.add rfl rfl (by omega)) ?_
  refine L.va rfl (X.assign (by conv => lhs; whnf)) ?_
  refine L.nil ?_
  iterate 2 refine J.seq ?_
  refine J.region ?_
  iterate 2 refine L.va rfl (X.move (by conv => lhs; whnf)) ?_
  refine L.va rfl (X.geq rfl rfl) ?_
  refine L.nil ?_
  refine J.dec rfl (fun hge => ?_) (fun hge => ?_)
  ·refine J.exit ?_
   refine thn_exit <| inB_ne rfl <| thn_exit <| inB_eq ?_
   refine fin0 (.inr rfl) ?_
   exact ⟨rfl, m, M, hSd.stop fun k h0 hk hp => by omega⟩
  ·have hc : 2 * r + 1 < hi := by omega
   have hr := Reads.of_own M.o
   have hA := hr.some_ (by omega)
   refine J.skip ?_
   refine J.cut (X := Nat) [9, 17, 18, 19, 20, 21, 22, 23, 24, 25, 26, 27, 28, 29, 30, 31, 32, 33, 34, 35, 36, 37, 38] (fun j => [(9, .int .i64 (j : Int))]) (fun j w' => Ext w2 w' ∧ (j - 1) / 2 = r ∧ 0 < j ∧ j < hi ∧ ∀ k, 0 < k → k < hi → (k - 1) / 2 = r → m.getD (f + k) 0 ≤ m.getD (f + j) 0) ?_ ?_
   ·refine J.seq ?_
    refine J.quiet mixed (by kernel_rfl) ?_
    refine Qt.va rfl (fun w' hw => X.move (by conv => lhs; whnf)) ?_
    refine Qt.va rfl (fun w' hw => X.add rfl rfl (by omega)) ?_
    refine Qt.va rfl (fun w' hw => X.move (by conv => lhs; whnf)) ?_
    refine Qt.va rfl (fun w' hw => X.lss rfl rfl) ?_
    refine Qt.va rfl (fun w' hw => X.move (by conv => lhs; whnf)) ?_
    refine Qt.caseDec (k := 21) rfl (fun h2 => ?_) (fun h2 => ?_)
    ·refine Qt.va rfl (fun w' hw => X.move (by conv => lhs; whnf)) ?_
     iterate 2 refine Qt.va rfl (fun w' hw => X.move (by conv => lhs; whnf)) ?_
     refine Qt.va rfl (fun w' hw => X.add rfl rfl (by omega)) ?_
     refine Qt.va rfl (fun w' hw => X.index1eI (j := f + (2 * r + 1)) rfl rfl (by omega) Tryz.underlying44 sz_3 hA (by omega)) ?_
     refine Qt.va rfl (fun w' hw => X.load rfl sc_3 (by first | exact Ld.num (hr.ext hw) (by omega) | exact hA)) ?_
     iterate 3 refine Qt.va rfl (fun w' hw => X.move (by conv => lhs; whnf)) ?_
     iterate 2 refine Qt.va rfl (fun w' hw => X.add rfl rfl (by omega)) ?_
     refine Qt.va rfl (fun w' hw => X.index1eI (j := f + (2 * r + 2)) rfl rfl (by omega) Tryz.underlying44 sz_3 hA (by omega)) ?_
     refine Qt.va rfl (fun w' hw => X.load rfl sc_3 (by first | exact Ld.num (hr.ext hw) (by omega) | exact hA)) ?_
     refine Qt.call rfl en_93 rfl (fun w' hw => calls_same hw (clessI (m.getD (f + (2 * r + 1)) 0) (m.getD (f + (2 * r + 2)) 0) w')) ?_
     refine Qt.va rfl (fun w' hw => X.pickT rfl (by conv => lhs; whnf)) ?_
     refine Qt.nil (fun w3 hq => ?_)
     replace hr := hr.ext hq
     by_cases hd : m.getD (f + (2 * r + 1)) 0 < m.getD (f + (2 * r + 2)) 0
     ·rw [decide_eq_true hd]
      refine J.iteT rfl ?_
      refine J.region ?_
      refine L.va rfl (X.move (by conv => lhs; whnf)) ?_
      refine L.va rfl (X.add rfl rfl (by omega)) ?_
      refine L.va rfl (X.assign (by conv => lhs; whnf)) ?_
      refine L.nil ?_
      refine ⟨2 * r + 2, At1 (by first | rfl | exact at_int rfl (by omega) | exact at_slice rfl (by omega) | exact at_int rfl (by simp)), (by (iterate 24 refine Agr.lk rfl ?_); exact Agr.rfl'), ?_⟩
      refine ⟨hq, by omega, by omega, by omega, fun k h0 hk hp => ?_⟩
      rcases (by omega : k = 2 * r + 1 ∨ k = 2 * r + 2) with rfl | rfl
      ·omega
      ·exact Int.le_refl _
     ·rw [decide_eq_false hd]
      refine J.iteF rfl ?_
      refine J.skip ?_
      refine ⟨2 * r + 1, At1 (by first | rfl | exact at_int rfl (by omega) | exact at_slice rfl (by omega) | exact at_int rfl (by simp)), (by (iterate 21 refine Agr.lk rfl ?_); exact Agr.rfl'), ?_⟩
      refine ⟨hq, by omega, by omega, by omega, fun k h0 hk hp => ?_⟩
      rcases (by omega : k = 2 * r + 1 ∨ k = 2 * r + 2) with rfl | rfl
      ·exact Int.le_refl _
      ·omega
    ·refine Qt.no rfl ?_
     iterate 13 refine Qt.no rfl ?_
     refine Qt.va rfl (fun w' hw => X.pickF rfl (by conv => lhs; whnf)) ?_
     refine Qt.nil (fun w3 hq => ?_)
     replace hr := hr.ext hq
     refine J.iteF rfl ?_
     refine J.skip ?_
     refine ⟨2 * r + 1, At1 (by first | rfl | exact at_int rfl (by omega) | exact at_slice rfl (by omega) | exact at_int rfl (by simp)), (by (iterate 21 refine Agr.lk rfl ?_); exact Agr.rfl'), ?_⟩
     refine ⟨hq, by omega, by omega, by omega, fun k h0 hk hp => ?_⟩
     obtain rfl : k = 2 * r + 1 := by omega
     exact Int.le_refl _
   ·rintro j g w3 ⟨he3, hj, hj0, hjn, hmx⟩
    have ho3 := M.o.ext he3
    have hr3 := Reads.of_own ho3
    iterate 2 refine J.seq ?_
    refine J.quiet mixed (by kernel_rfl) ?_
    iterate 3 refine Qt.va rfl (fun w' hw => X.move (by conv => lhs; whnf)) ?_
    refine Qt.va rfl (fun w' hw => X.add rfl rfl (by omega)) ?_
    refine Qt.va rfl (fun w' hw => X.index1eI (j := f + r) rfl rfl (by omega) Tryz.underlying44 sz_3 hA (by omega)) ?_
    refine Qt.va rfl (fun w' hw => X.load rfl sc_3 (by first | exact Ld.num (hr3.ext hw) (by omega) | exact hA)) ?_
    iterate 3 refine Qt.va rfl (fun w' hw => X.move (by conv => lhs; whnf)) ?_
    refine Qt.va rfl (fun w' hw => X.add rfl rfl (by omega)) ?_
    refine Qt.va rfl (fun w' hw => X.index1eI (j := f + j) rfl rfl (by omega) Tryz.underlying44 sz_3 hA (by omega)) ?_
    refine Qt.va rfl (fun w' hw => X.load rfl sc_3 (by first | exact Ld.num (hr3.ext hw) (by omega) | exact hA)) ?_
    refine Qt.call rfl en_93 rfl (fun w' hw => calls_same hw (clessI (m.getD (f + r) 0) (m.getD (f + j) 0) w')) ?_
    refine Qt.va rfl (fun w' hw => X.not rfl) ?_
    refine Qt.nil (fun w4 hq => ?_)
    replace hr3 := hr3.ext hq
    by_cases hd : m.getD (f + r) 0 < m.getD (f + j) 0
    ·rw [decide_eq_true hd]
     have ho4 := ho3.ext hq
     refine J.iteF rfl ?_
     refine J.skip ?_
     refine J.seq ?_
     refine J.draw (ℓ := 1000000) (S := (fun _ => True)) mixed (fun w5d hSE hS_h => ?_)
     have hS : ((fun _ => True)) w5d := trivial
     have hrw5 := (Reads.of_own ho4).ext hSE
     have hoX := ho4.ext hSE
     have hG : w4.grownBy w5d (Value.ownBlock (.slice A n c)) := grown_ext hSE
     refine D.va 0 rfl (by kernel_rfl) (fun _ _ _ h => h) rfl (fun w' hw => X.move (by conv => lhs; whnf)) hS ?_
     refine D.va 1 rfl (by kernel_rfl) (fun _ _ _ h => h) rfl (fun w' hw => X.move (by conv => lhs; whnf)) hS ?_
     refine D.va 2 rfl (by kernel_rfl) (fun _ _ _ h => h) rfl (fun w' hw => X.move (by conv => lhs; whnf)) hS ?_
     refine D.va 3 rfl (by kernel_rfl) (fun _ _ _ h => h) rfl (fun w' hw => X.add rfl rfl (by omega)) hS ?_
     refine D.va 4 rfl (by kernel_rfl) (fun _ _ _ h => h) rfl (fun w' hw => X.move (by conv => lhs; whnf)) hS ?_
     refine D.va 5 rfl (by kernel_rfl) (fun _ _ _ h => h) rfl (fun w' hw => X.move (by conv => lhs; whnf)) hS ?_
     refine D.va 6 rfl (by kernel_rfl) (fun _ _ _ h => h) rfl (fun w' hw => X.move (by conv => lhs; whnf)) hS ?_
     refine D.va 7 rfl (by kernel_rfl) (fun _ _ _ h => h) rfl (fun w' hw => X.add rfl rfl (by omega)) hS ?_
     refine D.va 8 rfl (by kernel_rfl) (fun _ _ _ h => h) rfl (fun w' hw => X.move (by conv => lhs; whnf)) hS ?_
     refine D.va 9 rfl (by kernel_rfl) (fun _ _ _ h => h) rfl (fun w' hw => X.move (by conv => lhs; whnf)) hS ?_
     refine D.va 10 rfl (by kernel_rfl) (fun _ _ _ h => h) rfl (fun w' hw => X.move (by conv => lhs; whnf)) hS ?_
     refine D.va 11 rfl (by kernel_rfl) (fun _ _ _ h => h) rfl (fun w' hw => X.add rfl rfl (by omega)) hS ?_
     refine D.va 12 rfl (by kernel_rfl) (fun _ _ _ h => h) rfl (fun w' hw => X.index1eI (j := f + j) rfl rfl (by omega) Tryz.underlying44 sz_3 hA (by omega)) hS ?_
     refine D.va 14 rfl (by kernel_rfl) (fun _ _ _ h => h) rfl (fun w' hw => X.move (by conv => lhs; whnf)) hS ?_
     refine D.va 15 rfl (by kernel_rfl) (fun _ _ _ h => h) rfl (fun w' hw => X.move (by conv => lhs; whnf)) hS ?_
     refine D.va 16 rfl (by kernel_rfl) (fun _ _ _ h => h) rfl (fun w' hw => X.move (by conv => lhs; whnf)) hS ?_
     refine D.va 17 rfl (by kernel_rfl) (fun _ _ _ h => h) rfl (fun w' hw => X.add rfl rfl (by omega)) hS ?_
     refine D.va 18 rfl (by kernel_rfl) (fun _ _ _ h => h) rfl (fun w' hw => X.index1eI (j := f + r) rfl rfl (by omega) Tryz.underlying44 sz_3 hA (by omega)) hS ?_
     refine D.two 13 19 (by kernel_rfl) rfl rfl ?_ ?_
     ·refine L.va rfl (X.load rfl sc_3 (Ld.num hrw5 (j := f + j) (by omega))) ?_
      refine L.nil ?_
      refine ⟨fun _ => hS, ?_⟩
      refine D.one 19 (by kernel_rfl) rfl ?_
      refine L.va rfl (X.load rfl sc_3 (Ld.num hrw5 (j := f + r) (by omega))) ?_
      refine L.nil ?_
      refine ⟨fun _ => hS, ?_⟩
      refine D.va 20 rfl (by kernel_rfl) (fun _ _ _ h => h) rfl (fun w' hw => X.index1eI (j := f + r) rfl rfl (by omega) Tryz.underlying44 sz_3 hA (by omega)) hS ?_
      refine D.one 21 (by kernel_rfl) rfl ?_
      refine L.storeON rfl rfl (by conv => lhs; whnf) sz_3 (hoX) (by omega) ?_
      intro w5 hoX hg2 hb2 hs2
      have hS1 := trivial
      refine L.nil ?_
      refine ⟨fun _ => hS1, ?_⟩
      replace hG := grb_trans hG hg2
      refine D.va 22 rfl (by kernel_rfl) (fun _ _ _ h => h) rfl (fun w' hw => X.index1eI (j := f + j) rfl rfl (by omega) Tryz.underlying44 sz_3 hA (by omega)) hS1 ?_
      refine D.one 23 (by kernel_rfl) rfl ?_
      refine L.storeON rfl rfl (by conv => lhs; whnf) sz_3 (hoX) (by omega) ?_
      intro w5 hoX hg2 hb2 hs2
      have hS2 := trivial
      refine L.nil ?_
      refine ⟨fun _ => hS2, ?_⟩
      replace hG := grb_trans hG hg2
      refine D.done (by kernel_rfl) ?_
      refine J.region ?_
      refine L.va rfl (X.move (by conv => lhs; whnf)) ?_
      refine L.va rfl (X.assign (by conv => lhs; whnf)) ?_
      refine L.nil ?_
      refine ⟨(j, swp m (f + r) (f + j)), At1 (by first | rfl | exact at_int rfl (by omega) | exact at_slice rfl (by omega) | exact at_int rfl (by simp)), (by (iterate 38 refine Agr.lk rfl ?_); refine Agr.lk rfl ?_; refine Agr.hav rfl ?_; (iterate 7 refine Agr.lk rfl ?_); exact Agr.lk rfl (Agr.hav rfl Agr.rfl')), ?_⟩
      exact ⟨⟨by omega, ⟨hoX, grb_trans M.g (grb_trans (grown_ext (he3.trans hq)) hG), .step M.p ⟨by omega, by omega⟩ ⟨by omega, by omega⟩ (by omega)⟩, hSd.step hj hj0 hjn (by omega) hmx hd⟩, by show hi - j < hi - r; omega⟩
     ·refine L.va rfl (X.load rfl sc_3 (Ld.num hrw5 (j := f + r) (by omega))) ?_
      refine L.nil ?_
      refine ⟨fun _ => hS, ?_⟩
      refine D.one 13 (by kernel_rfl) rfl ?_
      refine L.va rfl (X.load rfl sc_3 (Ld.num hrw5 (j := f + j) (by omega))) ?_
      refine L.nil ?_
      refine ⟨fun _ => hS, ?_⟩
      refine D.va 20 rfl (by kernel_rfl) (fun _ _ _ h => h) rfl (fun w' hw => X.index1eI (j := f + r) rfl rfl (by omega) Tryz.underlying44 sz_3 hA (by omega)) hS ?_
      refine D.one 21 (by kernel_rfl) rfl ?_
      refine L.storeON rfl rfl (by conv => lhs; whnf) sz_3 (hoX) (by omega) ?_
      intro w5 hoX hg2 hb2 hs2
      have hS1 := trivial
      refine L.nil ?_
      refine ⟨fun _ => hS1, ?_⟩
      replace hG := grb_trans hG hg2
      refine D.va 22 rfl (by kernel_rfl) (fun _ _ _ h => h) rfl (fun w' hw => X.index1eI (j := f + j) rfl rfl (by omega) Tryz.underlying44 sz_3 hA (by omega)) hS1 ?_
      refine D.one 23 (by kernel_rfl) rfl ?_
      refine L.storeON rfl rfl (by conv => lhs; whnf) sz_3 (hoX) (by omega) ?_
      intro w5 hoX hg2 hb2 hs2
      have hS2 := trivial
      refine L.nil ?_
      refine ⟨fun _ => hS2, ?_⟩
      replace hG := grb_trans hG hg2
      refine D.done (by kernel_rfl) ?_
      refine J.region ?_
      refine L.va rfl (X.move (by conv => lhs; whnf)) ?_
      refine L.va rfl (X.assign (by conv => lhs; whnf)) ?_
      refine L.nil ?_
      refine ⟨(j, swp m (f + r) (f + j)), At1 (by first | rfl | exact at_int rfl (by omega) | exact at_slice rfl (by omega) | exact at_int rfl (by simp)), (by (iterate 38 refine Agr.lk rfl ?_); refine Agr.lk rfl ?_; refine Agr.hav rfl ?_; (iterate 7 refine Agr.lk rfl ?_); exact Agr.lk rfl (Agr.hav rfl Agr.rfl')), ?_⟩
      exact ⟨⟨by omega, ⟨hoX, grb_trans M.g (grb_trans (grown_ext (he3.trans hq)) hG), .step M.p ⟨by omega, by omega⟩ ⟨by omega, by omega⟩ (by omega)⟩, hSd.step hj hj0 hjn (by omega) hmx hd⟩, by show hi - j < hi - r; omega⟩
    ·rw [decide_eq_false hd]
     refine J.iteT rfl ?_
     refine J.ret ?_
     refine thn_ret <|  inB_ret <|  thn_ret <|  inB_ret <| ?_
     refine fin0 (.inl rfl) ?_
     exact ⟨rfl, m, ⟨ho3.ext hq, grb_trans M.g (grown_ext (he3.trans hq)), M.p⟩, hSd.stop fun k h0 hk hp => by have := hmx k h0 hk hp; omega⟩
theorem hsortI (A : Option Addr) (n c N a h : Nat) (l : List Int) (w : World) (ho : w.ownsRow N 3 1 (.slice A n c) n (nums .i64 l)) (hf : a + h ≤ n) (hn : n ≤ 1000000) (h0 : 0 < h) :
  Calls Tryz.prog 88 #[.slice A n c, .int .i64 (a : Int), .int .i64 ((a + h : Nat) : Int)] w fun e w' => e = .returned (.tuple #[]) ∧ ∃ l', SwI w w' A n c N a (a + h) l l' ∧ In l' a (a + h) := by
 have hl : l.length = n := by have := ho.1; simpa [nums] using this
 have eh : ((a + h : Nat) : Int) - (a : Int) = (h : Int) := by omega
 refine enter Tryz.func88 rfl (by kernel_rfl) ?_
 refine J.seq ?_
 refine J.region ?_
 refine L.va rfl (X.move (by conv => lhs; whnf)) ?_
 refine L.va rfl (X.assign (by conv => lhs; whnf)) ?_
 refine L.nil ?_
 refine J.seq ?_
 refine J.region ?_
 refine L.va rfl (X.assign (by conv => lhs; whnf)) ?_
 refine L.nil ?_
 refine J.seq ?_
 refine J.region ?_
 iterate 2 refine L.va rfl (X.move (by conv => lhs; whnf)) ?_
 refine L.va rfl (X.sub rfl rfl (by omega)) ?_
 refine L.va rfl (X.assign (by conv => lhs; whnf)) ?_
 refine L.nil ?_
 rw [eh]
 iterate 2 refine J.seq ?_
 refine J.region ?_
 refine L.va rfl (X.move (by conv => lhs; whnf)) ?_
 refine L.va rfl (X.sub rfl rfl (by omega)) ?_
 refine L.va rfl (X.quo rfl rfl (by omega)) ?_
 refine L.va rfl (X.assign (by conv => lhs; whnf)) ?_
 refine L.nil ?_
 refine J.block ?_
 refine J.loop (X := Int × List Int) [9, 18, 19, 20, 21, 22, 23, 24, 25, 26] (fun (i, m) => [(9, .int .i64 i)]) (fun (i, m) w' => -1 ≤ i ∧ 2 * i < h ∧ SwI w w' A n c N a (a + h) l m ∧ Hpr m a (i + 1).toNat h) (fun (i, _) => (i + 1).toNat) ((((h : Int) - 1) / 2, l)) (At1 (by first | rfl | exact at_int rfl (by omega) | exact at_slice rfl (by omega) | exact at_int rfl (by simp))) ?_ ?_
 ·refine ⟨by omega, by omega, ⟨ho, grown_ext (Ext.refl _), .refl _⟩, fun k k0 hk hlo => by omega⟩
 ·rintro ⟨i, m⟩ g w2 ⟨h1, h2, M, hH⟩
  have hml : m.length = n := by rw [M.p.len, hl]
  iterate 2 refine J.seq ?_
  refine J.region ?_
  refine L.va rfl (X.move (by conv => lhs; whnf)) ?_
  refine L.va rfl (X.geq rfl rfl) ?_
  refine L.nil ?_
  refine J.dec rfl (fun hge => ?_) (fun hge => ?_)
  ·obtain ⟨p, rfl⟩ := Int.eq_ofNat_of_zero_le hge
   rw [show ((p : Int) + 1).toNat = p + 1 by omega] at hH
   have c1 := sdownI A n c N p h a m w2 M.o hf hn (by omega) (Sd.start hH)
   refine J.skip ?_
   refine J.seq ?_
   refine J.block ?_
   refine J.region ?_
   iterate 4 refine L.va rfl (X.move (by conv => lhs; whnf)) ?_
   refine L.call rfl en_107 rfl (c1) ?_
   rintro e w3 ⟨rfl, m', M', hH'⟩
   refine ⟨_, rfl, ?_⟩
   refine L.nil ?_
   refine J.region ?_
   refine L.va rfl (X.move (by conv => lhs; whnf)) ?_
   refine L.va rfl (X.sub rfl rfl (by omega)) ?_
   refine L.va rfl (X.assign (by conv => lhs; whnf)) ?_
   refine L.nil ?_
   refine ⟨((p : Int) - 1, m'), At1 (by first | rfl | exact at_int rfl (by omega) | exact at_slice rfl (by omega) | exact at_int rfl (by simp)), (by (iterate 10 refine Agr.lk rfl ?_); exact Agr.lk rfl (Agr.hav rfl Agr.rfl')), ?_⟩
   refine ⟨⟨by omega, by omega, ⟨M'.o, grb_trans M.g M'.g, M.p.trans M'.p⟩, ?_⟩, by show ((p : Int) - 1 + 1).toNat < ((p : Int) + 1).toNat; omega⟩
   rw [show ((p : Int) - 1 + 1).toNat = p by omega]
   exact hH'
  ·obtain rfl : i = -1 := by omega
   have hH0 : Hpr m a 0 h := hH
   refine J.exit ?_
   refine J.seq ?_
   refine J.region ?_
   refine L.va rfl (X.move (by conv => lhs; whnf)) ?_
   refine L.va rfl (X.sub rfl rfl (by omega)) ?_
   refine L.va rfl (X.assign (by conv => lhs; whnf)) ?_
   refine L.nil ?_
   refine J.block ?_
   refine J.loop (X := Nat × List Int) [10, 29, 30, 31, 32, 33, 34, 35, 36, 37, 38, 39, 40, 41, 42, 43, 44, 45, 46, 47, 48, 49, 50, 51, 52, 53, 54, 55] (fun (p, m) => [(10, .int .i64 ((p : Int) - 1))]) (fun (p, m) w' => p ≤ h ∧ SwI w w' A n c N a (a + h) l m ∧ Off m a p h) (fun (p, _) => p) ((h, m)) (At1 (by first | rfl | exact at_int rfl (by omega) | exact at_slice rfl (by omega) | exact at_int rfl (by simp))) ?_ ?_
   ·exact ⟨Nat.le_refl _, M, ⟨hH0, (fun x y x1 x2 x3 => by omega), (fun x y x1 x2 x3 => by omega)⟩⟩
   ·rintro ⟨p, m⟩ g w3 ⟨hp, M, hO⟩
    have hml : m.length = n := by rw [M.p.len, hl]
    iterate 2 refine J.seq ?_
    refine J.region ?_
    refine L.va rfl (X.move (by conv => lhs; whnf)) ?_
    refine L.va rfl (X.geq rfl rfl) ?_
    refine L.nil ?_
    refine J.dec rfl (fun hge => ?_) (fun hge => ?_)
    ·obtain ⟨p, rfl⟩ : ∃ p', p = p' + 1 := ⟨p - 1, by omega⟩
     have hA := (Reads.of_own M.o).some_ (by omega)
     have ep : ((p + 1 : Nat) : Int) - 1 = (p : Int) := by omega
     have ho4 := M.o
     refine J.skip ?_
     refine J.seq ?_
     refine J.block ?_
     refine J.seq ?_
     refine J.draw (ℓ := 1000000) (S := (fun _ => True)) mixed (fun w5d hSE hS_h => ?_)
     have hS : ((fun _ => True)) w5d := trivial
     have hrw5 := (Reads.of_own ho4).ext hSE
     have hoX := ho4.ext hSE
     have hG : w3.grownBy w5d (Value.ownBlock (.slice A n c)) := grown_ext hSE
     refine D.va 0 rfl (by kernel_rfl) (fun _ _ _ h => h) rfl (fun w' hw => X.move (by conv => lhs; whnf)) hS ?_
     refine D.va 1 rfl (by kernel_rfl) (fun _ _ _ h => h) rfl (fun w' hw => X.move (by conv => lhs; whnf)) hS ?_
     refine D.va 2 rfl (by kernel_rfl) (fun _ _ _ h => h) rfl (fun w' hw => X.move (by conv => lhs; whnf)) hS ?_
     refine D.va 3 rfl (by kernel_rfl) (fun _ _ _ h => h) rfl (fun w' hw => X.move (by conv => lhs; whnf)) hS ?_
     refine D.va 4 rfl (by kernel_rfl) (fun _ _ _ h => h) rfl (fun w' hw => X.move (by conv => lhs; whnf)) hS ?_
     refine D.va 5 rfl (by kernel_rfl) (fun _ _ _ h => h) rfl (fun w' hw => X.add rfl rfl (by omega)) hS ?_
     refine D.va 6 rfl (by kernel_rfl) (fun _ _ _ h => h) rfl (fun w' hw => X.move (by conv => lhs; whnf)) hS ?_
     refine D.va 7 rfl (by kernel_rfl) (fun _ _ _ h => h) rfl (fun w' hw => X.move (by conv => lhs; whnf)) hS ?_
     refine D.va 8 rfl (by kernel_rfl) (fun _ _ _ h => h) rfl (fun w' hw => X.move (by conv => lhs; whnf)) hS ?_
     refine D.va 9 rfl (by kernel_rfl) (fun _ _ _ h => h) rfl (fun w' hw => X.add rfl rfl (by omega)) hS ?_
     refine D.va 10 rfl (by kernel_rfl) (fun _ _ _ h => h) rfl (fun w' hw => X.index1eI (j := a + p) rfl rfl (by omega) Tryz.underlying44 sz_3 hA (by omega)) hS ?_
     refine D.va 12 rfl (by kernel_rfl) (fun _ _ _ h => h) rfl (fun w' hw => X.move (by conv => lhs; whnf)) hS ?_
     refine D.va 13 rfl (by kernel_rfl) (fun _ _ _ h => h) rfl (fun w' hw => X.move (by conv => lhs; whnf)) hS ?_
     refine D.va 14 rfl (by kernel_rfl) (fun _ _ _ h => h) rfl (fun w' hw => (by first | exact X.index1n rfl rfl Tryz.underlying44 sz_3 (by first | exact Option.some_ne_none _ | exact hA) (by omega) | exact X.index1 rfl rfl Tryz.underlying44 sz_3 (by first | exact Option.some_ne_none _ | exact hA) (by omega))) hS ?_
     refine D.two 11 15 (by kernel_rfl) rfl rfl ?_ ?_
     ·refine L.va rfl (X.load rfl sc_3 (Ld.num hrw5 (j := a + p) (by omega))) ?_
      refine L.nil ?_
      refine ⟨fun _ => hS, ?_⟩
      refine D.one 15 (by kernel_rfl) rfl ?_
      refine L.va rfl (X.load rfl sc_3 (Ld.num hrw5 (j := a) (by omega))) ?_
      refine L.nil ?_
      refine ⟨fun _ => hS, ?_⟩
      refine D.va 16 rfl (by kernel_rfl) (fun _ _ _ h => h) rfl (fun w' hw => (by first | exact X.index1n rfl rfl Tryz.underlying44 sz_3 (by first | exact Option.some_ne_none _ | exact hA) (by omega) | exact X.index1 rfl rfl Tryz.underlying44 sz_3 (by first | exact Option.some_ne_none _ | exact hA) (by omega))) hS ?_
      refine D.one 17 (by kernel_rfl) rfl ?_
      refine L.storeON rfl rfl (by conv => lhs; whnf) sz_3 (hoX) (by omega) ?_
      intro w5 hoX hg2 hb2 hs2
      have hS1 := trivial
      refine L.nil ?_
      refine ⟨fun _ => hS1, ?_⟩
      replace hG := grb_trans hG hg2
      refine D.va 18 rfl (by kernel_rfl) (fun _ _ _ h => h) rfl (fun w' hw => X.index1eI (j := a + p) rfl rfl (by omega) Tryz.underlying44 sz_3 hA (by omega)) hS1 ?_
      refine D.one 19 (by kernel_rfl) rfl ?_
      refine L.storeON rfl rfl (by conv => lhs; whnf) sz_3 (hoX) (by omega) ?_
      intro w5 hoX hg2 hb2 hs2
      have hS2 := trivial
      refine L.nil ?_
      refine ⟨fun _ => hS2, ?_⟩
      replace hG := grb_trans hG hg2
      refine D.done (by kernel_rfl) ?_
      refine J.region ?_
      iterate 4 refine L.va rfl (X.move (by conv => lhs; whnf)) ?_
      have hsw : Pr a (a + h) m (swp m a (a + p)) := .step (.refl _) ⟨by omega, by omega⟩ ⟨by omega, by omega⟩ (by omega)
      have c2 := sdownI A n c N 0 p a (swp m a (a + p)) w5 hoX (by omega) hn (Nat.zero_le _) (hO.swap (by omega) (by omega))
      rw [← ep] at c2
      refine L.call rfl en_107 rfl (c2) ?_
      rintro e w6 ⟨rfl, m', M', hH'⟩
      refine ⟨_, rfl, ?_⟩
      refine L.nil ?_
      refine J.region ?_
      refine L.va rfl (X.move (by conv => lhs; whnf)) ?_
      refine L.va rfl (X.sub rfl rfl (by omega)) ?_
      refine L.va rfl (X.assign (by conv => lhs; whnf)) ?_
      refine L.nil ?_
      refine ⟨(p, m'), At1 (by first | rfl | exact at_int rfl (by omega) | exact at_slice rfl (by omega) | exact at_int rfl (by simp)), (by (iterate 28 refine Agr.lk rfl ?_); exact Agr.lk rfl (Agr.hav rfl Agr.rfl')), ?_⟩
      exact ⟨⟨by omega, ⟨M'.o, grb_trans (grb_trans M.g hG) M'.g, (M.p.trans hsw).trans (M'.p.wide (Nat.le_refl _) (by omega) (by rw [swp_length]; omega))⟩, hO.next (by omega) (by omega) M'.p hH'⟩, by show p < p + 1; omega⟩
     ·refine L.va rfl (X.load rfl sc_3 (Ld.num hrw5 (j := a) (by omega))) ?_
      refine L.nil ?_
      refine ⟨fun _ => hS, ?_⟩
      refine D.one 11 (by kernel_rfl) rfl ?_
      refine L.va rfl (X.load rfl sc_3 (Ld.num hrw5 (j := a + p) (by omega))) ?_
      refine L.nil ?_
      refine ⟨fun _ => hS, ?_⟩
      refine D.va 16 rfl (by kernel_rfl) (fun _ _ _ h => h) rfl (fun w' hw => (by first | exact X.index1n rfl rfl Tryz.underlying44 sz_3 (by first | exact Option.some_ne_none _ | exact hA) (by omega) | exact X.index1 rfl rfl Tryz.underlying44 sz_3 (by first | exact Option.some_ne_none _ | exact hA) (by omega))) hS ?_
      refine D.one 17 (by kernel_rfl) rfl ?_
      refine L.storeON rfl rfl (by conv => lhs; whnf) sz_3 (hoX) (by omega) ?_
      intro w5 hoX hg2 hb2 hs2
      have hS1 := trivial
      refine L.nil ?_
      refine ⟨fun _ => hS1, ?_⟩
      replace hG := grb_trans hG hg2
      refine D.va 18 rfl (by kernel_rfl) (fun _ _ _ h => h) rfl (fun w' hw => X.index1eI (j := a + p) rfl rfl (by omega) Tryz.underlying44 sz_3 hA (by omega)) hS1 ?_
      refine D.one 19 (by kernel_rfl) rfl ?_
      refine L.storeON rfl rfl (by conv => lhs; whnf) sz_3 (hoX) (by omega) ?_
      intro w5 hoX hg2 hb2 hs2
      have hS2 := trivial
      refine L.nil ?_
      refine ⟨fun _ => hS2, ?_⟩
      replace hG := grb_trans hG hg2
      refine D.done (by kernel_rfl) ?_
      refine J.region ?_
      iterate 4 refine L.va rfl (X.move (by conv => lhs; whnf)) ?_
      have hsw : Pr a (a + h) m (swp m a (a + p)) := .step (.refl _) ⟨by omega, by omega⟩ ⟨by omega, by omega⟩ (by omega)
      have c2 := sdownI A n c N 0 p a (swp m a (a + p)) w5 hoX (by omega) hn (Nat.zero_le _) (hO.swap (by omega) (by omega))
      rw [← ep] at c2
      refine L.call rfl en_107 rfl (c2) ?_
      rintro e w6 ⟨rfl, m', M', hH'⟩
      refine ⟨_, rfl, ?_⟩
      refine L.nil ?_
      refine J.region ?_
      refine L.va rfl (X.move (by conv => lhs; whnf)) ?_
      refine L.va rfl (X.sub rfl rfl (by omega)) ?_
      refine L.va rfl (X.assign (by conv => lhs; whnf)) ?_
      refine L.nil ?_
      refine ⟨(p, m'), At1 (by first | rfl | exact at_int rfl (by omega) | exact at_slice rfl (by omega) | exact at_int rfl (by simp)), (by (iterate 28 refine Agr.lk rfl ?_); exact Agr.lk rfl (Agr.hav rfl Agr.rfl')), ?_⟩
      exact ⟨⟨by omega, ⟨M'.o, grb_trans (grb_trans M.g hG) M'.g, (M.p.trans hsw).trans (M'.p.wide (Nat.le_refl _) (by omega) (by rw [swp_length]; omega))⟩, hO.next (by omega) (by omega) M'.p hH'⟩, by show p < p + 1; omega⟩
    ·obtain rfl : p = 0 := by omega
     refine J.exit ?_
     refine thn_exit <| thn_exit <| inB_eq ?_
     refine fin0 (.inr rfl) ?_
     exact ⟨rfl, m, M, hO.all⟩
end Go.Proofs.YtpomklkfedpkfaaGreat
namespace Go.Proofs.YtpomklkfedpkfaaGreat
set_option maxRecDepth 100000
open Go.RowKit H
set_option linter.unusedVariables false
theorem wrapU (m : Int) (h : 0 ≤ m ∧ m ≤ 18446744073709551615) : IntKind.u64.wrap m = m := by simp [IntKind.wrap, IntKind.bits, IntKind.signed]; omega
theorem wrapU_in (m : Int) : 0 ≤ IntKind.u64.wrap m ∧ IntKind.u64.wrap m ≤ 18446744073709551615 := by simp [IntKind.wrap, IntKind.bits, IntKind.signed]; omega
theorem xorU {x : Nat} {m : Int} (hx : x < 18446744073709551616) (hm : 0 ≤ m ∧ m ≤ 18446744073709551615) : ∃ y : Nat, bits .xor .u64 (x : Int) m = (y : Int) ∧ y < 18446744073709551616 := by
  obtain ⟨k, rfl⟩ := Int.eq_ofNat_of_zero_le hm.1
  exact ⟨x ^^^ k, u64_xor_nat x k hx (by omega), Nat.xor_lt_two_pow (n := 64) hx (by omega)⟩
def Dig (x n : Nat) : Prop := x < 2 ^ n ∧ (x = 0 ∨ 2 ^ n ≤ 2 * x)
theorem Dig.up {x k n : Nat} (h : Dig (x / 2 ^ k) n) (h0 : k = 0 ∨ 0 < x / 2 ^ k) : Dig x (n + k) := by
  have hp : 0 < 2 ^ k := Nat.pow_pos (by decide)
  refine ⟨?_, ?_⟩
  · have := (Nat.div_lt_iff_lt_mul hp).1 h.1
    rwa [← Nat.pow_add] at this
  · rcases h0 with rfl | h0
    · have := h.2
      simpa using this
    · rcases h.2 with h2 | h2
      · omega
      · refine .inr ?_
        have h3 : x / 2 ^ k * 2 ^ k ≤ x := Nat.div_mul_le_self x (2 ^ k)
        have h4 := Nat.mul_le_mul_right (2 ^ k) h2
        rw [← Nat.pow_add, Nat.mul_assoc] at h4
        omega
def tab8 : List Nat := [0, 1, 2, 2, 3, 3, 3, 3, 4, 4, 4, 4, 4, 4, 4, 4, 5, 5, 5, 5, 5, 5, 5, 5, 5, 5, 5, 5, 5, 5, 5, 5] ++ List.replicate 32 6 ++ List.replicate 64 7 ++ List.replicate 128 8
theorem X.tab {P : Program} {w : World} {f : Operand → Value} {x y : Operand} {d : Option Tmp} {t ty : TypeId} {pos : String} {aft : Array Edge} {g : Option (Nat × Bool)} {k : IntKind} {s : ByteArray} {m : Nat} (hx : f x = .string s) (hy : f y = .int k (m : Int)) (ht : P.underlying t = some .string) (hs : s.data.toList.map (fun b => b.toNat) = tab8) (hm : m < 256) : (execOp f ⟨d, .index t x y, ty, pos, aft, g⟩).run P w = .ok (.value (.int .u8 ((tab8.getD m 0 : Nat) : Int))) w := by
  have hl : s.data.toList.length = 256 := by
    have := congrArg List.length hs
    rw [List.length_map] at this
    rw [this]
    rfl
  have hz : s.size = 256 := by rw [← hl]; simp
  have e : (s.data.toList.getD m 0).toNat = tab8.getD m 0 := by
    rw [← hs, List.getD, List.getD, List.getElem?_map, List.getElem?_eq_getElem (by omega)]
    rfl
  have := X.indexStr (P := P) (w := w) (d := d) (ty := ty) (pos := pos) (aft := aft) (g := g) hx hy ht (by omega)
  rw [Int.toNat_natCast, e] at this
  exact this
theorem tab_dig : ∀ x, x < 256 → Dig x (tab8.getD x 0) := by
  unfold Dig
  decide
theorem len64 (x : Nat) (w : World) (hx : x < 18446744073709551616) : Calls Tryz.prog 97 #[.int .u64 (x : Int)] w fun e w' => ∃ n : Nat, e = .returned (.int .i64 (n : Int)) ∧ n ≤ 70 ∧ Dig x n ∧ w = w' := by
 have e32 : ((x : Int) / 2 ^ min (32 : Int).toNat IntKind.u64.bits) = ((x / 2 ^ 32 : Nat) : Int) := by
  rw [show min (32 : Int).toNat IntKind.u64.bits = 32 from rfl]
  omega
 refine enter Tryz.func97 rfl (by kernel_rfl) ?_
 refine J.seq ?_
 refine J.region ?_
 refine L.va rfl (X.assign (by conv => lhs; whnf)) ?_
 refine L.nil ?_
 refine J.cut (X := Nat × Nat) [0, 2, 3, 4, 5, 6] (fun (y, k) => [(0, .int .u64 (y : Int)), (2, .int .i64 (k : Int))]) (fun (y, k) w' => w = w' ∧ y = x / 2 ^ k ∧ y < 4294967296 ∧ (k = 0 ∨ 0 < y) ∧ k ≤ 32) ?_ ?_
 ·refine J.seq ?_
  refine J.region ?_
  refine L.va rfl (X.move (by conv => lhs; whnf)) ?_
  refine L.va rfl (X.geq rfl rfl) ?_
  refine L.nil ?_
  refine J.dec rfl (fun h => ?_) (fun h => ?_)
  ·refine J.seq ?_
   refine J.region ?_
   refine L.va rfl (X.move (by conv => lhs; whnf)) ?_
   refine L.va rfl (X.shr rfl rfl (by omega)) ?_
   refine L.va rfl (X.assign (by conv => lhs; whnf)) ?_
   refine L.nil ?_
   refine J.region ?_
   refine L.va rfl (X.assign (by conv => lhs; whnf)) ?_
   refine L.nil ?_
   refine ⟨(x / 2 ^ 32, 32), At2 (at_int rfl e32) (rfl), (by (iterate 6 refine Agr.lk rfl ?_); exact Agr.rfl'), ?_⟩
   have h2 : (2 : Nat) ^ 32 = 4294967296 := by decide
   rw [h2]
   exact ⟨rfl, rfl, by omega, .inr (by omega), by omega⟩
  ·refine J.skip ?_
   refine ⟨(x, 0), At2 (by first | rfl | exact at_int rfl (by omega) | exact at_slice rfl (by omega) | exact at_int rfl (by simp)) (by first | rfl | exact at_int rfl (by omega) | exact at_slice rfl (by omega) | exact at_int rfl (by simp)), (by (iterate 2 refine Agr.lk rfl ?_); exact Agr.rfl'), ?_⟩
   exact ⟨rfl, by simp, by omega, .inl rfl, by omega⟩
 ·rintro ⟨y, k⟩ g w1 ⟨rfl, hy, hlt, h0, hk⟩
  have e16 : ((y : Int) / 2 ^ min (16 : Int).toNat IntKind.u64.bits) = ((y / 2 ^ 16 : Nat) : Int) := by
   rw [show min (16 : Int).toNat IntKind.u64.bits = 16 from rfl]
   omega
  refine J.cut (X := Nat × Nat) [0, 2, 7, 8, 9, 10, 11, 12] (fun (y, k) => [(0, .int .u64 (y : Int)), (2, .int .i64 (k : Int))]) (fun (y, k) w' => w = w' ∧ y = x / 2 ^ k ∧ y < 65536 ∧ (k = 0 ∨ 0 < y) ∧ k ≤ 48) ?_ ?_
  ·refine J.seq ?_
   refine J.region ?_
   refine L.va rfl (X.move (by conv => lhs; whnf)) ?_
   refine L.va rfl (X.geq rfl rfl) ?_
   refine L.nil ?_
   refine J.dec rfl (fun h => ?_) (fun h => ?_)
   ·refine J.seq ?_
    refine J.region ?_
    refine L.va rfl (X.move (by conv => lhs; whnf)) ?_
    refine L.va rfl (X.shr rfl rfl (by omega)) ?_
    refine L.va rfl (X.assign (by conv => lhs; whnf)) ?_
    refine L.nil ?_
    refine J.region ?_
    refine L.va rfl (X.move (by conv => lhs; whnf)) ?_
    refine L.va rfl (X.add rfl rfl (by omega)) ?_
    refine L.va rfl (X.assign (by conv => lhs; whnf)) ?_
    refine L.nil ?_
    refine ⟨(y / 2 ^ 16, k + 16), At2 (at_int rfl e16) (rfl), (by (iterate 8 refine Agr.lk rfl ?_); exact Agr.rfl'), ?_⟩
    have h2 : (2 : Nat) ^ 16 = 65536 := by decide
    refine ⟨rfl, by rw [hy, Nat.div_div_eq_div_mul, ← Nat.pow_add], ?_, .inr ?_, by omega⟩ <;> rw [h2] <;> omega
   ·refine J.skip ?_
    refine ⟨(y, k), At2 (by first | rfl | exact at_int rfl (by omega) | exact at_slice rfl (by omega) | exact at_int rfl (by simp)) (by first | rfl | exact at_int rfl (by omega) | exact at_slice rfl (by omega) | exact at_int rfl (by simp)), (by (iterate 2 refine Agr.lk rfl ?_); exact Agr.rfl'), ?_⟩
    exact ⟨rfl, hy, by omega, h0, by omega⟩
  ·rintro ⟨y, k⟩ g w1 ⟨rfl, hy, hlt, h0, hk⟩
   have e8 : ((y : Int) / 2 ^ min (8 : Int).toNat IntKind.u64.bits) = ((y / 2 ^ 8 : Nat) : Int) := by
    rw [show min (8 : Int).toNat IntKind.u64.bits = 8 from rfl]
    omega
   refine J.cut (X := Nat × Nat) [0, 2, 13, 14, 15, 16, 17, 18] (fun (y, k) => [(0, .int .u64 (y : Int)), (2, .int .i64 (k : Int))]) (fun (y, k) w' => w = w' ∧ y = x / 2 ^ k ∧ y < 256 ∧ (k = 0 ∨ 0 < y) ∧ k ≤ 56) ?_ ?_
   ·refine J.seq ?_
    refine J.region ?_
    refine L.va rfl (X.move (by conv => lhs; whnf)) ?_
    refine L.va rfl (X.geq rfl rfl) ?_
    refine L.nil ?_
    refine J.dec rfl (fun h => ?_) (fun h => ?_)
    ·refine J.seq ?_
     refine J.region ?_
     refine L.va rfl (X.move (by conv => lhs; whnf)) ?_
     refine L.va rfl (X.shr rfl rfl (by omega)) ?_
     refine L.va rfl (X.assign (by conv => lhs; whnf)) ?_
     refine L.nil ?_
     refine J.region ?_
     refine L.va rfl (X.move (by conv => lhs; whnf)) ?_
     refine L.va rfl (X.add rfl rfl (by omega)) ?_
     refine L.va rfl (X.assign (by conv => lhs; whnf)) ?_
     refine L.nil ?_
     refine ⟨(y / 2 ^ 8, k + 8), At2 (at_int rfl e8) (rfl), (by (iterate 8 refine Agr.lk rfl ?_); exact Agr.rfl'), ?_⟩
     have h2 : (2 : Nat) ^ 8 = 256 := by decide
     refine ⟨rfl, by rw [hy, Nat.div_div_eq_div_mul, ← Nat.pow_add], ?_, .inr ?_, by omega⟩ <;> rw [h2] <;> omega
    ·refine J.skip ?_
     refine ⟨(y, k), At2 (by first | rfl | exact at_int rfl (by omega) | exact at_slice rfl (by omega) | exact at_int rfl (by simp)) (by first | rfl | exact at_int rfl (by omega) | exact at_slice rfl (by omega) | exact at_int rfl (by simp)), (by (iterate 2 refine Agr.lk rfl ?_); exact Agr.rfl'), ?_⟩
     exact ⟨rfl, hy, by omega, h0, by omega⟩
   ·rintro ⟨y, k⟩ g w1 ⟨rfl, hy, hlt, h0, hk⟩
    have ht := tab_dig y hlt
    have ht8 : tab8.getD y 0 ≤ 8 := by
     rcases Nat.lt_or_ge 8 (tab8.getD y 0) with h | h
     ·have := Nat.pow_le_pow_right (n := 2) (by decide) h
      rcases ht.2 with h2 | h2
      ·subst h2; exact absurd h (by decide)
      ·have h3 : (2 : Nat) ^ (8 + 1) = 512 := by decide
       omega
     ·exact h
    refine J.seq ?_
    refine J.region ?_
    iterate 2 refine L.va rfl (X.move (by conv => lhs; whnf)) ?_
    refine L.va rfl ((by first | exact X.conv8 rfl is_48 Tryz.underlying5 (by omega) | exact X.convw rfl is_48 Tryz.underlying5)) ?_
    refine L.va rfl (X.tab rfl rfl Tryz.underlying9 rfl hlt) ?_
    refine L.va rfl ((by first | exact X.convI rfl is_5 Tryz.underlying3 (by omega) | exact X.convw rfl is_5 Tryz.underlying3)) ?_
    refine L.va rfl (X.add rfl rfl (by omega)) ?_
    refine L.va rfl (X.assign (by conv => lhs; whnf)) ?_
    refine L.nil ?_
    refine J.ret ?_
    refine fin1 ?_
    refine ⟨k + tab8.getD y 0, congrArg (fun z => Ending.returned (.int .i64 z)) (by omega), by omega, ?_, rfl⟩
    rw [Nat.add_comm]
    exact Dig.up (by rw [← hy]; exact ht) (by rw [← hy]; exact h0)
theorem len_ (x : Nat) (w : World) (hx : x < 18446744073709551616) : Calls Tryz.prog 73 #[.int .u64 (x : Int)] w fun e w' => ∃ n : Nat, e = .returned (.int .i64 (n : Int)) ∧ n ≤ 70 ∧ Dig x n ∧ w = w' := by
 refine enter Tryz.func73 rfl (by kernel_rfl) ?_
 refine J.seq ?_
 refine J.region ?_
 refine L.va rfl (X.assign (by conv => lhs; whnf)) ?_
 refine L.nil ?_
 refine J.seq ?_
 refine J.iteF rfl ?_
 refine J.skip ?_
 refine J.seq ?_
 refine J.region ?_
 refine L.va rfl (X.move (by conv => lhs; whnf)) ?_
 refine L.call rfl en_97 rfl (len64 x w hx) ?_
 rintro e _ ⟨n, rfl, hn, hd, rfl⟩
 refine ⟨_, rfl, ?_⟩
 refine L.va rfl (X.assign (by conv => lhs; whnf)) ?_
 refine L.nil ?_
 refine J.ret ?_
 refine fin1 ?_
 exact ⟨n, rfl, hn, hd, rfl⟩
theorem nextp (x : Nat) (w : World) (hx : x < 1000000) (h0 : 0 < x) : Calls Tryz.prog 108 #[.int .i64 (x : Int)] w fun e w' => ∃ m : Nat, e = .returned (.int .u64 (m : Int)) ∧ 0 < m ∧ m ≤ 2 * x ∧ w = w' := by
 refine enter Tryz.func108 rfl (by kernel_rfl) ?_
 refine J.seq ?_
 refine J.region ?_
 refine L.va rfl (X.assign (by conv => lhs; whnf)) ?_
 refine L.nil ?_
 refine J.seq ?_
 refine J.region ?_
 refine L.va rfl (X.move (by conv => lhs; whnf)) ?_
 refine L.va rfl ((by first | exact X.convU rfl is_3 Tryz.underlying120 (by omega) | exact X.convw rfl is_3 Tryz.underlying120)) ?_
 refine L.call rfl en_73 rfl (len_ x w (by omega)) ?_
 rintro e _ ⟨n, rfl, hn, hd, rfl⟩
 refine ⟨_, rfl, ?_⟩
 have hn21 : n ≤ 21 := by
  rcases Nat.lt_or_ge 21 n with h | h
  ·have := Nat.pow_le_pow_right (n := 2) (by decide) h
   rcases hd.2 with h2 | h2
   ·omega
   ·have h3 : (2 : Nat) ^ (21 + 1) = 4194304 := by decide
    omega
  ·exact h
 have hp : (2 : Nat) ^ n ≤ 2097152 := by
  have := Nat.pow_le_pow_right (n := 2) (by decide) hn21
  have h3 : (2 : Nat) ^ 21 = 2097152 := by decide
  omega
 have e : IntKind.u64.wrap (1 * 2 ^ min (n : Int).toNat IntKind.u64.bits) = ((2 ^ n : Nat) : Int) := by
  rw [show min (n : Int).toNat IntKind.u64.bits = n by rw [Int.toNat_natCast]; show min n 64 = n; omega]
  have : (1 : Int) * 2 ^ n = ((2 ^ n : Nat) : Int) := by rw [Int.one_mul]; push_cast; rfl
  rw [this]
  exact wrapU _ ⟨Int.natCast_nonneg _, Int.ofNat_le.2 (show 2 ^ n ≤ 18446744073709551615 by omega)⟩
 refine L.va rfl (X.shl rfl rfl (by omega)) ?_
 refine L.va rfl (X.assign (by conv => lhs; whnf)) ?_
 refine L.nil ?_
 refine J.ret ?_
 refine fin1 ?_
 exact ⟨2 ^ n, congrArg (fun z => Ending.returned (.int .u64 z)) e, Nat.pow_pos (by decide), by
  rcases hd.2 with h | h
  ·omega
  ·exact h, rfl⟩
theorem xnext (rb x : Nat) (w : World) (hb : Blk w rb 150 #[.int .u64 (x : Int)]) (hx : x < 18446744073709551616) : Calls Tryz.prog 109 #[.pointer (some ⟨rb, 0, none⟩)] w fun e w' => ∃ y : Nat, e = .returned (.int .u64 (y : Int)) ∧ y < 18446744073709551616 ∧ Blk w' rb 150 #[.int .u64 (y : Int)] ∧ w.grownBy w' (some rb) := by
 obtain ⟨x1, e1, h1⟩ := xorU hx (wrapU_in ((x : Int) * 2 ^ min (13 : Int).toNat IntKind.u64.bits))
 obtain ⟨x2, e2, h2⟩ := xorU (x := x1) (m := (x1 : Int) / 2 ^ min (7 : Int).toNat IntKind.u64.bits) h1 (by rw [show min (7 : Int).toNat IntKind.u64.bits = 7 from rfl]; omega)
 obtain ⟨x3, e3, h3⟩ := xorU h2 (wrapU_in ((x2 : Int) * 2 ^ min (17 : Int).toNat IntKind.u64.bits))
 refine enter Tryz.func109 rfl (by kernel_rfl) ?_
 refine J.seq ?_
 refine J.region ?_
 refine L.va rfl (X.assign (by conv => lhs; whnf)) ?_
 refine L.nil ?_
 refine J.seq ?_
 refine J.draw (ℓ := 9) (S := (fun w' => Blk w' rb 150 #[.int .u64 (x : Int)])) mixed (fun w1 hSE hS_h => ?_)
 have hS : ((fun w' => Blk w' rb 150 #[.int .u64 (x : Int)])) w1 := hb.ext hSE
 have g1 : w.grownBy w1 (some rb) := grown_ext hSE
 refine D.va 0 rfl (by kernel_rfl) (fun _ _ _ h => h) rfl (fun w' hw => X.move (by conv => lhs; whnf)) hS ?_
 refine D.va 1 rfl (by kernel_rfl) (fun _ _ _ h => h) rfl (fun w' hw => X.nilCheck rfl) hS ?_
 refine D.va 2 rfl (by kernel_rfl) (fun _ _ _ h => h) rfl (fun w' hw => X.load rfl sc_150 (by first | exact Ld.blk hw rfl)) hS ?_
 refine D.va 3 rfl (by kernel_rfl) (fun _ _ _ h => h) rfl (fun w' hw => X.move (by conv => lhs; whnf)) hS ?_
 refine D.va 4 rfl (by kernel_rfl) (fun _ _ _ h => h) rfl (fun w' hw => X.nilCheck rfl) hS ?_
 refine D.va 5 rfl (by kernel_rfl) (fun _ _ _ h => h) rfl (fun w' hw => X.load rfl sc_150 (by first | exact Ld.blk hw rfl)) hS ?_
 refine D.va 6 rfl (by kernel_rfl) (fun _ _ _ h => h) rfl (fun w' hw => X.shl rfl rfl (by omega)) hS ?_
 refine D.va 7 rfl (by kernel_rfl) (fun _ _ _ h => h) rfl (fun w' hw => X.xor rfl rfl) hS ?_
 refine D.va 8 rfl (by kernel_rfl) (fun _ _ _ h => h) rfl (fun w' hw => X.nilCheck rfl) hS ?_
 rw [e1]
 refine D.one 9 (by kernel_rfl) rfl ?_
 refine L.store rfl rfl (by conv => lhs; whnf) rfl sz_150 (hS) (by first | decide | exact Nat.le_of_ble_eq_true rfl) ?_
 intro w2 hk2 hg2 hs2
 refine L.nil ?_
 refine ⟨fun h => absurd rfl h, ?_⟩
 have hk2 : Blk w2 rb 150 #[.int .u64 (x1 : Int)] := hk2
 refine D.done (by kernel_rfl) ?_
 refine J.seq ?_
 refine J.draw (ℓ := 9) (S := (fun w' => Blk w' rb 150 #[.int .u64 (x1 : Int)])) mixed (fun w3 hTE hT_h => ?_)
 have hT : ((fun w' => Blk w' rb 150 #[.int .u64 (x1 : Int)])) w3 := hk2.ext hTE
 have g3 : w.grownBy w3 (some rb) := grb_trans (grb_trans g1 hg2) (grown_ext hTE)
 refine D.va 0 rfl (by kernel_rfl) (fun _ _ _ h => h) rfl (fun w' hw => X.move (by conv => lhs; whnf)) hT ?_
 refine D.va 1 rfl (by kernel_rfl) (fun _ _ _ h => h) rfl (fun w' hw => X.nilCheck rfl) hT ?_
 refine D.va 2 rfl (by kernel_rfl) (fun _ _ _ h => h) rfl (fun w' hw => X.load rfl sc_150 (by first | exact Ld.blk hw rfl)) hT ?_
 refine D.va 3 rfl (by kernel_rfl) (fun _ _ _ h => h) rfl (fun w' hw => X.move (by conv => lhs; whnf)) hT ?_
 refine D.va 4 rfl (by kernel_rfl) (fun _ _ _ h => h) rfl (fun w' hw => X.nilCheck rfl) hT ?_
 refine D.va 5 rfl (by kernel_rfl) (fun _ _ _ h => h) rfl (fun w' hw => X.load rfl sc_150 (by first | exact Ld.blk hw rfl)) hT ?_
 refine D.va 6 rfl (by kernel_rfl) (fun _ _ _ h => h) rfl (fun w' hw => X.shr rfl rfl (by omega)) hT ?_
 refine D.va 7 rfl (by kernel_rfl) (fun _ _ _ h => h) rfl (fun w' hw => X.xor rfl rfl) hT ?_
 refine D.va 8 rfl (by kernel_rfl) (fun _ _ _ h => h) rfl (fun w' hw => X.nilCheck rfl) hT ?_
 rw [e2]
 refine D.one 9 (by kernel_rfl) rfl ?_
 refine L.store rfl rfl (by conv => lhs; whnf) rfl sz_150 (hT) (by first | decide | exact Nat.le_of_ble_eq_true rfl) ?_
 intro w4 hk4 hg4 hs4
 refine L.nil ?_
 refine ⟨fun h => absurd rfl h, ?_⟩
 have hk4 : Blk w4 rb 150 #[.int .u64 (x2 : Int)] := hk4
 refine D.done (by kernel_rfl) ?_
 refine J.seq ?_
 refine J.draw (ℓ := 9) (S := (fun w' => Blk w' rb 150 #[.int .u64 (x2 : Int)])) mixed (fun w5 hUE hU_h => ?_)
 have hU : ((fun w' => Blk w' rb 150 #[.int .u64 (x2 : Int)])) w5 := hk4.ext hUE
 have g5 : w.grownBy w5 (some rb) := grb_trans (grb_trans g3 hg4) (grown_ext hUE)
 refine D.va 0 rfl (by kernel_rfl) (fun _ _ _ h => h) rfl (fun w' hw => X.move (by conv => lhs; whnf)) hU ?_
 refine D.va 1 rfl (by kernel_rfl) (fun _ _ _ h => h) rfl (fun w' hw => X.nilCheck rfl) hU ?_
 refine D.va 2 rfl (by kernel_rfl) (fun _ _ _ h => h) rfl (fun w' hw => X.load rfl sc_150 (by first | exact Ld.blk hw rfl)) hU ?_
 refine D.va 3 rfl (by kernel_rfl) (fun _ _ _ h => h) rfl (fun w' hw => X.move (by conv => lhs; whnf)) hU ?_
 refine D.va 4 rfl (by kernel_rfl) (fun _ _ _ h => h) rfl (fun w' hw => X.nilCheck rfl) hU ?_
 refine D.va 5 rfl (by kernel_rfl) (fun _ _ _ h => h) rfl (fun w' hw => X.load rfl sc_150 (by first | exact Ld.blk hw rfl)) hU ?_
 refine D.va 6 rfl (by kernel_rfl) (fun _ _ _ h => h) rfl (fun w' hw => X.shl rfl rfl (by omega)) hU ?_
 refine D.va 7 rfl (by kernel_rfl) (fun _ _ _ h => h) rfl (fun w' hw => X.xor rfl rfl) hU ?_
 refine D.va 8 rfl (by kernel_rfl) (fun _ _ _ h => h) rfl (fun w' hw => X.nilCheck rfl) hU ?_
 rw [e3]
 refine D.one 9 (by kernel_rfl) rfl ?_
 refine L.store rfl rfl (by conv => lhs; whnf) rfl sz_150 (hU) (by first | decide | exact Nat.le_of_ble_eq_true rfl) ?_
 intro w6 hk6 hg6 hs6
 refine L.nil ?_
 refine ⟨fun h => absurd rfl h, ?_⟩
 have hk6 : Blk w6 rb 150 #[.int .u64 (x3 : Int)] := hk6
 refine D.done (by kernel_rfl) ?_
 refine J.seq ?_
 refine J.region ?_
 refine L.va rfl (X.move (by conv => lhs; whnf)) ?_
 refine L.va rfl (X.nilCheck rfl) ?_
 refine L.va rfl (X.load rfl sc_150 (by first | exact Ld.blk hk6 rfl)) ?_
 refine L.va rfl (X.assign (by conv => lhs; whnf)) ?_
 refine L.nil ?_
 refine J.ret ?_
 refine fin1 ?_
 exact ⟨x3, rfl, h3, hk6, grb_trans g5 hg6⟩
end Go.Proofs.YtpomklkfedpkfaaGreat
namespace Go.Proofs.YtpomklkfedpkfaaGreat
set_option maxRecDepth 100000
open Go.RowKit H
open Srt
set_option linter.unusedVariables false
theorem grb_newI {a b c : World} {r : Option Nat} {g : Nat} (h : a.grownBy b r) (k : b.grownBy c (some g)) (hg : a.heap.size ≤ g) : a.grownBy c r :=
  ⟨k.os.trans h.os, k.tape.trans h.tape, k.output.trans h.output, Nat.le_trans h.size k.size, fun i hi hne => (k.block i (Nat.lt_of_lt_of_le hi h.size) (fun e => by injection e with e; omega)).trans (h.block i hi hne)⟩
theorem X.andEI {P : Program} {w : World} {f : Operand → Value} {x y : Operand} {d : Option Tmp} {tx tz ty : TypeId} {pos : String} {aft : Array Edge} {g : Option (Nat × Bool)} {k : IntKind} {m n z : Int} (hx : f x = .int k m) (hy : f y = .int k n) (h : bits .and k m n = z) : (execOp f ⟨d, .binOp .and tx x y tz, ty, pos, aft, g⟩).run P w = .ok (.value (.int k z)) w := by
  have := X.and (P := P) (w := w) (d := d) (tx := tx) (tz := tz) (ty := ty) (pos := pos) (aft := aft) (g := g) hx hy
  rw [h] at this
  exact this
theorem breakpI (A : Option Addr) (n c N a h : Nat) (l : List Int) (w : World) (ho : w.ownsRow N 3 1 (.slice A n c) n (nums .i64 l)) (hf : a + h ≤ n) (hn : n ≤ 900000) (h0 : 12 < h) :
  Calls Tryz.prog 89 #[.slice A n c, .int .i64 (a : Int), .int .i64 ((a + h : Nat) : Int)] w fun e w' => e = .returned (.tuple #[]) ∧ ∃ l', SwI w w' A n c N a (a + h) l l' := by
 have hl : l.length = n := by have := ho.1; simpa [nums] using this
 have eh : ((a + h : Nat) : Int) - (a : Int) = (h : Int) := by omega
 refine enter Tryz.func89 rfl (by kernel_rfl) ?_
 refine J.seq ?_
 refine J.region ?_
 iterate 2 refine L.va rfl (X.move (by conv => lhs; whnf)) ?_
 refine L.va rfl (X.sub rfl rfl (by omega)) ?_
 refine L.va rfl (X.assign (by conv => lhs; whnf)) ?_
 refine L.nil ?_
 rw [eh]
 refine J.seq ?_
 refine J.region ?_
 refine L.va rfl (X.move (by conv => lhs; whnf)) ?_
 refine L.va rfl (X.geq rfl rfl) ?_
 refine L.nil ?_
 refine J.decT rfl (by omega) ?_
 refine J.seq ?_
 refine J.region ?_
 refine L.va rfl (X.move (by conv => lhs; whnf)) ?_
 refine L.va rfl ((by first | exact X.convU rfl is_3 Tryz.underlying150 (by omega) | exact X.convw rfl is_3 Tryz.underlying150)) ?_
 refine L.alloc rfl zr_150 ?_
 intro b7 w1 hb7 hs7 hk7 he1
 have ho1 := ho.ext he1
 have hne1 : Value.ownBlock (.slice A n c) ≠ some b7 := fun e => by have := (ho.lt b7 e).2; omega
 refine L.store rfl rfl (by conv => lhs; whnf) rfl sz_150 (hk7) (by first | decide | exact Nat.le_of_ble_eq_true rfl) ?_
 intro w2 hk2 hg2 hs2
 have hk2 : Blk w2 b7 150 #[.int .u64 (h : Int)] := hk2
 have ho2 := ho1.kept hg2 (.inr hne1)
 have g2 : w.grownBy w2 (Value.ownBlock (.slice A n c)) := grb_newI (grown_ext he1) hg2 (by omega)
 refine L.nil ?_
 refine J.seq ?_
 refine J.region ?_
 refine L.va rfl (X.move (by conv => lhs; whnf)) ?_
 refine L.call rfl en_108 rfl (nextp h w2 (by omega) (by omega)) ?_
 rintro e _ ⟨m, rfl, hm0, hm, rfl⟩
 refine ⟨_, rfl, ?_⟩
 have hwb : w.heap.size ≤ b7 := by omega
 refine L.va rfl (X.assign (by conv => lhs; whnf)) ?_
 refine L.nil ?_
 refine J.seq ?_
 refine J.region ?_
 iterate 2 refine L.va rfl (X.move (by conv => lhs; whnf)) ?_
 refine L.va rfl (X.quo rfl rfl (by omega)) ?_
 refine L.va rfl (X.mul rfl rfl (by omega)) ?_
 refine L.va rfl (X.add rfl rfl (by omega)) ?_
 refine L.va rfl (X.sub rfl rfl (by omega)) ?_
 refine L.va rfl (X.assign (by conv => lhs; whnf)) ?_
 refine L.nil ?_
 refine J.block ?_
 refine J.loop (X := Int × Nat × List Int) [9, 10, 26, 27, 28, 29, 30, 31, 32, 33, 34, 35, 36, 37, 38, 39, 40, 41, 42, 43, 44, 45, 46, 47, 48, 49, 50, 51, 52, 53, 54, 55, 56, 57, 58, 59, 60, 61, 62, 63, 64] (fun (i, x, m) => [(9, .int .i64 i)]) (fun (i, x, m) w' => (a : Int) ≤ i ∧ i ≤ a + h / 4 * 2 + 2 ∧ x < 18446744073709551616 ∧ Blk w' b7 150 #[.int .u64 (x : Int)] ∧ SwI w w' A n c N a (a + h) l m) (fun (i, _) => ((a : Int) + h / 4 * 2 + 2 - i).toNat) (((a : Int) + h / 4 * 2 - 1, h, l)) (At1 (by first | rfl | exact at_int rfl (by omega) | exact at_slice rfl (by omega) | exact at_int rfl (by simp))) ?_ ?_
 ·exact ⟨by omega, by omega, by omega, hk2, ⟨ho2, g2, .refl _⟩⟩
 ·rintro ⟨i, x, q⟩ g w3 ⟨h1, h2, hx, hk, M⟩
  have hml : q.length = n := by rw [M.p.len, hl]
  iterate 2 refine J.seq ?_
  refine J.region ?_
  iterate 3 refine L.va rfl (X.move (by conv => lhs; whnf)) ?_
  refine L.va rfl (X.quo rfl rfl (by omega)) ?_
  refine L.va rfl (X.mul rfl rfl (by omega)) ?_
  iterate 2 refine L.va rfl (X.add rfl rfl (by omega)) ?_
  refine L.va rfl (X.leq rfl rfl) ?_
  refine L.nil ?_
  refine J.dec rfl (fun hle => ?_) (fun hle => ?_)
  ·refine J.skip ?_
   refine J.seq ?_
   refine J.block ?_
   refine J.seq ?_
   refine J.region ?_
   refine L.call rfl en_109 rfl (xnext b7 x w3 hk hx) ?_
   rintro e w4 ⟨y, rfl, hy, hk4, hg4⟩
   refine ⟨_, rfl, ?_⟩
   have ho4 := M.o.kept hg4 (.inr hne1)
   have g4 := grb_newI M.g hg4 hwb
   have hand : y &&& (m - 1) ≤ m - 1 := Nat.and_le_right
   obtain ⟨i', rfl⟩ : ∃ i' : Nat, i = (i' : Int) := ⟨i.toNat, by omega⟩
   have hA := (Reads.of_own ho4).some_ (by omega)
   refine L.va rfl (X.move (by conv => lhs; whnf)) ?_
   refine L.va rfl (X.subU rfl rfl (by omega)) ?_
   refine L.va rfl (X.andEI (z := ((y &&& (m - 1) : Nat) : Int)) rfl rfl (by rw [show ((m : Int) - 1) = ((m - 1 : Nat) : Int) by omega]; exact u64_and_nat y (m - 1) hy (by omega))) ?_
   refine L.va rfl ((by first | exact X.convI rfl is_120 Tryz.underlying3 (by omega) | exact X.convw rfl is_120 Tryz.underlying3)) ?_
   refine L.va rfl (X.assign (by conv => lhs; whnf)) ?_
   refine L.nil ?_
   refine J.cut (X := Nat) [10, 41, 42, 43, 44, 45, 46] (fun o => [(10, .int .i64 (o : Int))]) (fun o w' => w' = w4 ∧ o < h) ?_ ?_
   ·refine J.seq ?_
    refine J.region ?_
    iterate 2 refine L.va rfl (X.move (by conv => lhs; whnf)) ?_
    refine L.va rfl (X.geq rfl rfl) ?_
    refine L.nil ?_
    refine J.dec rfl (fun hge => ?_) (fun hge => ?_)
    ·refine J.region ?_
     iterate 2 refine L.va rfl (X.move (by conv => lhs; whnf)) ?_
     refine L.va rfl (X.sub rfl rfl (by omega)) ?_
     refine L.va rfl (X.assign (by conv => lhs; whnf)) ?_
     refine L.nil ?_
     refine ⟨(y &&& (m - 1)) - h, At1 (by first | rfl | exact at_int rfl (by omega) | exact at_slice rfl (by omega) | exact at_int rfl (by simp)), (by (iterate 7 refine Agr.lk rfl ?_); exact Agr.rfl'), ?_⟩
     exact ⟨rfl, by omega⟩
    ·refine J.skip ?_
     refine ⟨y &&& (m - 1), At1 (by first | rfl | exact at_int rfl (by omega) | exact at_slice rfl (by omega) | exact at_int rfl (by simp)), (by (iterate 3 refine Agr.lk rfl ?_); exact Agr.rfl'), ?_⟩
     exact ⟨rfl, by omega⟩
   ·rintro o g w4' ⟨rfl, ho'⟩
    refine J.draw (ℓ := 1000000) (S := (fun _ => True)) mixed (fun w5d hSE hS_h => ?_)
    have hS : ((fun _ => True)) w5d := trivial
    have hrw5 := (Reads.of_own ho4).ext hSE
    have hoX := ho4.ext hSE
    have hG : w4'.grownBy w5d (Value.ownBlock (.slice A n c)) := grown_ext hSE
    refine D.va 0 rfl (by kernel_rfl) (fun _ _ _ h => h) rfl (fun w' hw => X.move (by conv => lhs; whnf)) hS ?_
    refine D.va 1 rfl (by kernel_rfl) (fun _ _ _ h => h) rfl (fun w' hw => X.move (by conv => lhs; whnf)) hS ?_
    refine D.va 2 rfl (by kernel_rfl) (fun _ _ _ h => h) rfl (fun w' hw => X.move (by conv => lhs; whnf)) hS ?_
    refine D.va 3 rfl (by kernel_rfl) (fun _ _ _ h => h) rfl (fun w' hw => X.move (by conv => lhs; whnf)) hS ?_
    refine D.va 4 rfl (by kernel_rfl) (fun _ _ _ h => h) rfl (fun w' hw => X.move (by conv => lhs; whnf)) hS ?_
    refine D.va 5 rfl (by kernel_rfl) (fun _ _ _ h => h) rfl (fun w' hw => X.add rfl rfl (by omega)) hS ?_
    refine D.va 6 rfl (by kernel_rfl) (fun _ _ _ h => h) rfl (fun w' hw => X.move (by conv => lhs; whnf)) hS ?_
    refine D.va 7 rfl (by kernel_rfl) (fun _ _ _ h => h) rfl (fun w' hw => X.move (by conv => lhs; whnf)) hS ?_
    refine D.va 8 rfl (by kernel_rfl) (fun _ _ _ h => h) rfl (fun w' hw => X.move (by conv => lhs; whnf)) hS ?_
    refine D.va 9 rfl (by kernel_rfl) (fun _ _ _ h => h) rfl (fun w' hw => X.add rfl rfl (by omega)) hS ?_
    refine D.va 10 rfl (by kernel_rfl) (fun _ _ _ h => h) rfl (fun w' hw => (by first | exact X.index1n rfl rfl Tryz.underlying44 sz_3 (by first | exact Option.some_ne_none _ | exact hA) (by omega) | exact X.index1 rfl rfl Tryz.underlying44 sz_3 (by first | exact Option.some_ne_none _ | exact hA) (by omega))) hS ?_
    refine D.va 12 rfl (by kernel_rfl) (fun _ _ _ h => h) rfl (fun w' hw => X.move (by conv => lhs; whnf)) hS ?_
    refine D.va 13 rfl (by kernel_rfl) (fun _ _ _ h => h) rfl (fun w' hw => X.move (by conv => lhs; whnf)) hS ?_
    refine D.va 14 rfl (by kernel_rfl) (fun _ _ _ h => h) rfl (fun w' hw => (by first | exact X.index1n rfl rfl Tryz.underlying44 sz_3 (by first | exact Option.some_ne_none _ | exact hA) (by omega) | exact X.index1 rfl rfl Tryz.underlying44 sz_3 (by first | exact Option.some_ne_none _ | exact hA) (by omega))) hS ?_
    refine D.two 11 15 (by kernel_rfl) rfl rfl ?_ ?_
    ·refine L.va rfl (X.load rfl sc_3 (Ld.num hrw5 (j := a + o) (by omega))) ?_
     refine L.nil ?_
     refine ⟨fun _ => hS, ?_⟩
     refine D.one 15 (by kernel_rfl) rfl ?_
     refine L.va rfl (X.load rfl sc_3 (Ld.num hrw5 (j := i') (by omega))) ?_
     refine L.nil ?_
     refine ⟨fun _ => hS, ?_⟩
     refine D.va 16 rfl (by kernel_rfl) (fun _ _ _ h => h) rfl (fun w' hw => (by first | exact X.index1n rfl rfl Tryz.underlying44 sz_3 (by first | exact Option.some_ne_none _ | exact hA) (by omega) | exact X.index1 rfl rfl Tryz.underlying44 sz_3 (by first | exact Option.some_ne_none _ | exact hA) (by omega))) hS ?_
     refine D.one 17 (by kernel_rfl) rfl ?_
     refine L.storeON rfl rfl (by conv => lhs; whnf) sz_3 (hoX) (by omega) ?_
     intro w5 hoX hg2 hb2 hs2
     have hS1 := trivial
     refine L.nil ?_
     refine ⟨fun _ => hS1, ?_⟩
     replace hG := grb_trans hG hg2
     refine D.va 18 rfl (by kernel_rfl) (fun _ _ _ h => h) rfl (fun w' hw => (by first | exact X.index1n rfl rfl Tryz.underlying44 sz_3 (by first | exact Option.some_ne_none _ | exact hA) (by omega) | exact X.index1 rfl rfl Tryz.underlying44 sz_3 (by first | exact Option.some_ne_none _ | exact hA) (by omega))) hS1 ?_
     refine D.one 19 (by kernel_rfl) rfl ?_
     refine L.storeON rfl rfl (by conv => lhs; whnf) sz_3 (hoX) (by omega) ?_
     intro w5 hoX hg2 hb2 hs2
     have hS2 := trivial
     refine L.nil ?_
     refine ⟨fun _ => hS2, ?_⟩
     replace hG := grb_trans hG hg2
     refine D.done (by kernel_rfl) ?_
     refine J.region ?_
     refine L.va rfl (X.move (by conv => lhs; whnf)) ?_
     refine L.va rfl (X.add rfl rfl (by omega)) ?_
     refine L.va rfl (X.assign (by conv => lhs; whnf)) ?_
     refine L.nil ?_
     have hk5 : Blk w5 b7 150 #[.int .u64 (y : Int)] := hk4.grown hG hne1.symm
     refine ⟨((i' : Int) + 1, y, swp q i' (a + o)), At1 (by first | rfl | exact at_int rfl (by omega) | exact at_slice rfl (by omega) | exact at_int rfl (by simp)), (by (iterate 21 refine Agr.lk rfl ?_); refine Agr.lk rfl ?_; refine Agr.hav rfl ?_; (iterate 14 refine Agr.lk rfl ?_); exact Agr.lk rfl (Agr.hav rfl Agr.rfl')), ?_⟩
     exact ⟨⟨by omega, by omega, hy, hk5, ⟨hoX, grb_trans g4 hG, .step M.p ⟨by omega, by omega⟩ ⟨by omega, by omega⟩ (by omega)⟩⟩, by show ((a : Int) + h / 4 * 2 + 2 - ((i' : Int) + 1)).toNat < ((a : Int) + h / 4 * 2 + 2 - (i' : Int)).toNat; omega⟩
    ·refine L.va rfl (X.load rfl sc_3 (Ld.num hrw5 (j := i') (by omega))) ?_
     refine L.nil ?_
     refine ⟨fun _ => hS, ?_⟩
     refine D.one 11 (by kernel_rfl) rfl ?_
     refine L.va rfl (X.load rfl sc_3 (Ld.num hrw5 (j := a + o) (by omega))) ?_
     refine L.nil ?_
     refine ⟨fun _ => hS, ?_⟩
     refine D.va 16 rfl (by kernel_rfl) (fun _ _ _ h => h) rfl (fun w' hw => (by first | exact X.index1n rfl rfl Tryz.underlying44 sz_3 (by first | exact Option.some_ne_none _ | exact hA) (by omega) | exact X.index1 rfl rfl Tryz.underlying44 sz_3 (by first | exact Option.some_ne_none _ | exact hA) (by omega))) hS ?_
     refine D.one 17 (by kernel_rfl) rfl ?_
     refine L.storeON rfl rfl (by conv => lhs; whnf) sz_3 (hoX) (by omega) ?_
     intro w5 hoX hg2 hb2 hs2
     have hS1 := trivial
     refine L.nil ?_
     refine ⟨fun _ => hS1, ?_⟩
     replace hG := grb_trans hG hg2
     refine D.va 18 rfl (by kernel_rfl) (fun _ _ _ h => h) rfl (fun w' hw => (by first | exact X.index1n rfl rfl Tryz.underlying44 sz_3 (by first | exact Option.some_ne_none _ | exact hA) (by omega) | exact X.index1 rfl rfl Tryz.underlying44 sz_3 (by first | exact Option.some_ne_none _ | exact hA) (by omega))) hS1 ?_
     refine D.one 19 (by kernel_rfl) rfl ?_
     refine L.storeON rfl rfl (by conv => lhs; whnf) sz_3 (hoX) (by omega) ?_
     intro w5 hoX hg2 hb2 hs2
     have hS2 := trivial
     refine L.nil ?_
     refine ⟨fun _ => hS2, ?_⟩
     replace hG := grb_trans hG hg2
     refine D.done (by kernel_rfl) ?_
     refine J.region ?_
     refine L.va rfl (X.move (by conv => lhs; whnf)) ?_
     refine L.va rfl (X.add rfl rfl (by omega)) ?_
     refine L.va rfl (X.assign (by conv => lhs; whnf)) ?_
     refine L.nil ?_
     have hk5 : Blk w5 b7 150 #[.int .u64 (y : Int)] := hk4.grown hG hne1.symm
     refine ⟨((i' : Int) + 1, y, swp q i' (a + o)), At1 (by first | rfl | exact at_int rfl (by omega) | exact at_slice rfl (by omega) | exact at_int rfl (by simp)), (by (iterate 21 refine Agr.lk rfl ?_); refine Agr.lk rfl ?_; refine Agr.hav rfl ?_; (iterate 14 refine Agr.lk rfl ?_); exact Agr.lk rfl (Agr.hav rfl Agr.rfl')), ?_⟩
     exact ⟨⟨by omega, by omega, hy, hk5, ⟨hoX, grb_trans g4 hG, .step M.p ⟨by omega, by omega⟩ ⟨by omega, by omega⟩ (by omega)⟩⟩, by show ((a : Int) + h / 4 * 2 + 2 - ((i' : Int) + 1)).toNat < ((a : Int) + h / 4 * 2 + 2 - (i' : Int)).toNat; omega⟩
  ·refine J.exit ?_
   refine thn_exit <| thn_exit <| inB_eq ?_
   refine fin0 (.inr rfl) ?_
   exact ⟨rfl, q, M⟩
theorem reverseI (A : Option Addr) (n c N a h : Nat) (l : List Int) (w : World) (ho : w.ownsRow N 3 1 (.slice A n c) n (nums .i64 l)) (hf : a + h ≤ n) (hn : n ≤ 900000) (h0 : 0 < h) :
  Calls Tryz.prog 91 #[.slice A n c, .int .i64 (a : Int), .int .i64 ((a + h : Nat) : Int)] w fun e w' => e = .returned (.tuple #[]) ∧ ∃ l', SwI w w' A n c N a (a + h) l l' := by
 have hl : l.length = n := by have := ho.1; simpa [nums] using this
 refine enter Tryz.func91 rfl (by kernel_rfl) ?_
 refine J.seq ?_
 refine J.region ?_
 refine L.va rfl (X.move (by conv => lhs; whnf)) ?_
 refine L.va rfl (X.assign (by conv => lhs; whnf)) ?_
 refine L.nil ?_
 refine J.seq ?_
 refine J.region ?_
 refine L.va rfl (X.move (by conv => lhs; whnf)) ?_
 refine L.va rfl (X.sub rfl rfl (by omega)) ?_
 refine L.va rfl (X.assign (by conv => lhs; whnf)) ?_
 refine L.nil ?_
 refine J.block ?_
 refine J.loop (X := Nat × Int × List Int) [6, 7, 11, 12, 13, 14, 15, 16, 17, 18, 19, 20, 21, 22, 23, 24, 25, 26, 27, 28, 29, 30, 31] (fun (i, j, m) => [(6, .int .i64 (i : Int)), (7, .int .i64 j)]) (fun (i, j, m) w' => a ≤ i ∧ i ≤ a + h ∧ j < a + h ∧ (a : Int) - 1 ≤ j ∧ SwI w w' A n c N a (a + h) l m) (fun (i, _) => a + h - i) ((a, ((a + h : Nat) : Int) - 1, l)) (At2 (by first | rfl | exact at_int rfl (by omega) | exact at_slice rfl (by omega) | exact at_int rfl (by simp)) (by first | rfl | exact at_int rfl (by omega) | exact at_slice rfl (by omega) | exact at_int rfl (by simp))) ?_ ?_
 ·exact ⟨Nat.le_refl _, by omega, by omega, by omega, ⟨ho, grown_ext (Ext.refl _), .refl _⟩⟩
 ·rintro ⟨i, j, m⟩ g w2 ⟨h1, h2, h3, h4, M⟩
  have hml : m.length = n := by rw [M.p.len, hl]
  iterate 2 refine J.seq ?_
  refine J.region ?_
  iterate 2 refine L.va rfl (X.move (by conv => lhs; whnf)) ?_
  refine L.va rfl (X.lss rfl rfl) ?_
  refine L.nil ?_
  refine J.dec rfl (fun hlt => ?_) (fun hlt => ?_)
  ·obtain ⟨k, rfl⟩ : ∃ k : Nat, j = (k : Int) := ⟨j.toNat, by omega⟩
   have ho2 := M.o
   have hA := (Reads.of_own ho2).some_ (by omega)
   refine J.skip ?_
   refine J.block ?_
   refine J.seq ?_
   refine J.draw (ℓ := 1000000) (S := (fun _ => True)) mixed (fun w5d hSE hS_h => ?_)
   have hS : ((fun _ => True)) w5d := trivial
   have hrw5 := (Reads.of_own ho2).ext hSE
   have hoX := ho2.ext hSE
   have hG : w2.grownBy w5d (Value.ownBlock (.slice A n c)) := grown_ext hSE
   refine D.va 0 rfl (by kernel_rfl) (fun _ _ _ h => h) rfl (fun w' hw => X.move (by conv => lhs; whnf)) hS ?_
   refine D.va 1 rfl (by kernel_rfl) (fun _ _ _ h => h) rfl (fun w' hw => X.move (by conv => lhs; whnf)) hS ?_
   refine D.va 2 rfl (by kernel_rfl) (fun _ _ _ h => h) rfl (fun w' hw => X.move (by conv => lhs; whnf)) hS ?_
   refine D.va 3 rfl (by kernel_rfl) (fun _ _ _ h => h) rfl (fun w' hw => X.move (by conv => lhs; whnf)) hS ?_
   refine D.va 4 rfl (by kernel_rfl) (fun _ _ _ h => h) rfl (fun w' hw => X.move (by conv => lhs; whnf)) hS ?_
   refine D.va 5 rfl (by kernel_rfl) (fun _ _ _ h => h) rfl (fun w' hw => X.move (by conv => lhs; whnf)) hS ?_
   refine D.va 6 rfl (by kernel_rfl) (fun _ _ _ h => h) rfl (fun w' hw => (by first | exact X.index1n rfl rfl Tryz.underlying44 sz_3 (by first | exact Option.some_ne_none _ | exact hA) (by omega) | exact X.index1 rfl rfl Tryz.underlying44 sz_3 (by first | exact Option.some_ne_none _ | exact hA) (by omega))) hS ?_
   refine D.va 8 rfl (by kernel_rfl) (fun _ _ _ h => h) rfl (fun w' hw => X.move (by conv => lhs; whnf)) hS ?_
   refine D.va 9 rfl (by kernel_rfl) (fun _ _ _ h => h) rfl (fun w' hw => X.move (by conv => lhs; whnf)) hS ?_
   refine D.va 10 rfl (by kernel_rfl) (fun _ _ _ h => h) rfl (fun w' hw => (by first | exact X.index1n rfl rfl Tryz.underlying44 sz_3 (by first | exact Option.some_ne_none _ | exact hA) (by omega) | exact X.index1 rfl rfl Tryz.underlying44 sz_3 (by first | exact Option.some_ne_none _ | exact hA) (by omega))) hS ?_
   refine D.two 7 11 (by kernel_rfl) rfl rfl ?_ ?_
   ·refine L.va rfl (X.load rfl sc_3 (Ld.num hrw5 (j := k) (by omega))) ?_
    refine L.nil ?_
    refine ⟨fun _ => hS, ?_⟩
    refine D.one 11 (by kernel_rfl) rfl ?_
    refine L.va rfl (X.load rfl sc_3 (Ld.num hrw5 (j := i) (by omega))) ?_
    refine L.nil ?_
    refine ⟨fun _ => hS, ?_⟩
    refine D.va 12 rfl (by kernel_rfl) (fun _ _ _ h => h) rfl (fun w' hw => (by first | exact X.index1n rfl rfl Tryz.underlying44 sz_3 (by first | exact Option.some_ne_none _ | exact hA) (by omega) | exact X.index1 rfl rfl Tryz.underlying44 sz_3 (by first | exact Option.some_ne_none _ | exact hA) (by omega))) hS ?_
    refine D.one 13 (by kernel_rfl) rfl ?_
    refine L.storeON rfl rfl (by conv => lhs; whnf) sz_3 (hoX) (by omega) ?_
    intro w5 hoX hg2 hb2 hs2
    have hS1 := trivial
    refine L.nil ?_
    refine ⟨fun _ => hS1, ?_⟩
    replace hG := grb_trans hG hg2
    refine D.va 14 rfl (by kernel_rfl) (fun _ _ _ h => h) rfl (fun w' hw => (by first | exact X.index1n rfl rfl Tryz.underlying44 sz_3 (by first | exact Option.some_ne_none _ | exact hA) (by omega) | exact X.index1 rfl rfl Tryz.underlying44 sz_3 (by first | exact Option.some_ne_none _ | exact hA) (by omega))) hS1 ?_
    refine D.one 15 (by kernel_rfl) rfl ?_
    refine L.storeON rfl rfl (by conv => lhs; whnf) sz_3 (hoX) (by omega) ?_
    intro w5 hoX hg2 hb2 hs2
    have hS2 := trivial
    refine L.nil ?_
    refine ⟨fun _ => hS2, ?_⟩
    replace hG := grb_trans hG hg2
    refine D.done (by kernel_rfl) ?_
    refine J.seq ?_
    refine J.region ?_
    refine L.va rfl (X.move (by conv => lhs; whnf)) ?_
    refine L.va rfl (X.add rfl rfl (by omega)) ?_
    refine L.va rfl (X.assign (by conv => lhs; whnf)) ?_
    refine L.nil ?_
    refine J.region ?_
    refine L.va rfl (X.move (by conv => lhs; whnf)) ?_
    refine L.va rfl (X.sub rfl rfl (by omega)) ?_
    refine L.va rfl (X.assign (by conv => lhs; whnf)) ?_
    refine L.nil ?_
    refine ⟨(i + 1, (k : Int) - 1, swp m i k), At2 (by first | rfl | exact at_int rfl (by omega) | exact at_slice rfl (by omega) | exact at_int rfl (by simp)) (by first | rfl | exact at_int rfl (by omega) | exact at_slice rfl (by omega) | exact at_int rfl (by simp)), (by (iterate 23 refine Agr.lk rfl ?_); exact Agr.lk rfl (Agr.hav rfl Agr.rfl')), ?_⟩
    exact ⟨⟨by omega, by omega, by omega, by omega, ⟨hoX, grb_trans M.g hG, .step M.p ⟨by omega, by omega⟩ ⟨by omega, by omega⟩ (by omega)⟩⟩, by show a + h - (i + 1) < a + h - i; omega⟩
   ·refine L.va rfl (X.load rfl sc_3 (Ld.num hrw5 (j := i) (by omega))) ?_
    refine L.nil ?_
    refine ⟨fun _ => hS, ?_⟩
    refine D.one 7 (by kernel_rfl) rfl ?_
    refine L.va rfl (X.load rfl sc_3 (Ld.num hrw5 (j := k) (by omega))) ?_
    refine L.nil ?_
    refine ⟨fun _ => hS, ?_⟩
    refine D.va 12 rfl (by kernel_rfl) (fun _ _ _ h => h) rfl (fun w' hw => (by first | exact X.index1n rfl rfl Tryz.underlying44 sz_3 (by first | exact Option.some_ne_none _ | exact hA) (by omega) | exact X.index1 rfl rfl Tryz.underlying44 sz_3 (by first | exact Option.some_ne_none _ | exact hA) (by omega))) hS ?_
    refine D.one 13 (by kernel_rfl) rfl ?_
    refine L.storeON rfl rfl (by conv => lhs; whnf) sz_3 (hoX) (by omega) ?_
    intro w5 hoX hg2 hb2 hs2
    have hS1 := trivial
    refine L.nil ?_
    refine ⟨fun _ => hS1, ?_⟩
    replace hG := grb_trans hG hg2
    refine D.va 14 rfl (by kernel_rfl) (fun _ _ _ h => h) rfl (fun w' hw => (by first | exact X.index1n rfl rfl Tryz.underlying44 sz_3 (by first | exact Option.some_ne_none _ | exact hA) (by omega) | exact X.index1 rfl rfl Tryz.underlying44 sz_3 (by first | exact Option.some_ne_none _ | exact hA) (by omega))) hS1 ?_
    refine D.one 15 (by kernel_rfl) rfl ?_
    refine L.storeON rfl rfl (by conv => lhs; whnf) sz_3 (hoX) (by omega) ?_
    intro w5 hoX hg2 hb2 hs2
    have hS2 := trivial
    refine L.nil ?_
    refine ⟨fun _ => hS2, ?_⟩
    replace hG := grb_trans hG hg2
    refine D.done (by kernel_rfl) ?_
    refine J.seq ?_
    refine J.region ?_
    refine L.va rfl (X.move (by conv => lhs; whnf)) ?_
    refine L.va rfl (X.add rfl rfl (by omega)) ?_
    refine L.va rfl (X.assign (by conv => lhs; whnf)) ?_
    refine L.nil ?_
    refine J.region ?_
    refine L.va rfl (X.move (by conv => lhs; whnf)) ?_
    refine L.va rfl (X.sub rfl rfl (by omega)) ?_
    refine L.va rfl (X.assign (by conv => lhs; whnf)) ?_
    refine L.nil ?_
    refine ⟨(i + 1, (k : Int) - 1, swp m i k), At2 (by first | rfl | exact at_int rfl (by omega) | exact at_slice rfl (by omega) | exact at_int rfl (by simp)) (by first | rfl | exact at_int rfl (by omega) | exact at_slice rfl (by omega) | exact at_int rfl (by simp)), (by (iterate 23 refine Agr.lk rfl ?_); exact Agr.lk rfl (Agr.hav rfl Agr.rfl')), ?_⟩
    exact ⟨⟨by omega, by omega, by omega, by omega, ⟨hoX, grb_trans M.g hG, .step M.p ⟨by omega, by omega⟩ ⟨by omega, by omega⟩ (by omega)⟩⟩, by show a + h - (i + 1) < a + h - i; omega⟩
  ·refine J.exit ?_
   refine thn_exit <| thn_exit <| inB_eq ?_
   refine fin0 (.inr rfl) ?_
   exact ⟨rfl, m, M⟩
theorem order2I (A : Option Addr) (n c a b sb s : Nat) (l : List Int) (w : World) (hr : Reads w sb 1 A n (nums .i64 l)) (hk : Blk w sb 3 #[.int .i64 (s : Int)]) (hs : s ≤ 1000) (ha : a < n) (hb : b < n) (hn : n ≤ 900000) :
  Calls Tryz.prog 118 #[.slice A n c, .int .i64 (a : Int), .int .i64 (b : Int), .pointer (some ⟨sb, 0, none⟩)] w fun e w' => ∃ x y s' : Nat, e = .returned (.tuple #[.int .i64 (x : Int), .int .i64 (y : Int)]) ∧ (x = a ∨ x = b) ∧ (y = a ∨ y = b) ∧ s' ≤ s + 1 ∧ Blk w' sb 3 #[.int .i64 (s' : Int)] ∧ Reads w' sb 1 A n (nums .i64 l) ∧ w.grownBy w' (some sb) := by
 have hA := hr.some_ (by omega)
 refine enter Tryz.func118 rfl (by kernel_rfl) ?_
 refine J.seq ?_
 refine J.region ?_
 iterate 2 refine L.va rfl (X.assign (by conv => lhs; whnf)) ?_
 refine L.nil ?_
 iterate 2 refine J.seq ?_
 refine J.quiet mixed (by kernel_rfl) ?_
 iterate 2 refine Qt.va rfl (fun w' hw => X.move (by conv => lhs; whnf)) ?_
 refine Qt.va rfl (fun w' hw => (by first | exact X.index1n rfl rfl Tryz.underlying44 sz_3 (by first | exact Option.some_ne_none _ | exact hr.some_ (by omega) | exact hA) (by omega) | exact X.index1 rfl rfl Tryz.underlying44 sz_3 (by first | exact Option.some_ne_none _ | exact hr.some_ (by omega) | exact hA) (by omega))) ?_
 refine Qt.va rfl (fun w' hw => X.load rfl sc_3 (by first | exact Ld.num (hr.ext hw) (by omega) | exact hA)) ?_
 iterate 2 refine Qt.va rfl (fun w' hw => X.move (by conv => lhs; whnf)) ?_
 refine Qt.va rfl (fun w' hw => (by first | exact X.index1n rfl rfl Tryz.underlying44 sz_3 (by first | exact Option.some_ne_none _ | exact hr.some_ (by omega) | exact hA) (by omega) | exact X.index1 rfl rfl Tryz.underlying44 sz_3 (by first | exact Option.some_ne_none _ | exact hr.some_ (by omega) | exact hA) (by omega))) ?_
 refine Qt.va rfl (fun w' hw => X.load rfl sc_3 (by first | exact Ld.num (hr.ext hw) (by omega) | exact hA)) ?_
 refine Qt.call rfl en_93 rfl (fun w' hw => calls_same hw (clessI (l.getD b 0) (l.getD a 0) w')) ?_
 refine Qt.nil (fun w1 hq => ?_)
 have hk1 := hk.ext hq
 have hr1 := hr.ext hq
 refine J.ite rfl (fun hd => ?_) (fun hd => ?_)
 ·skip
  refine J.seq ?_
  refine J.region ?_
  refine L.va rfl (X.move (by conv => lhs; whnf)) ?_
  refine L.va rfl (X.nilCheck rfl) ?_
  refine L.va rfl (X.load rfl sc_3 (by first | exact Ld.blk hk1 rfl | exact hA)) ?_
  refine L.va rfl (X.add rfl rfl (by omega)) ?_
  refine L.va rfl (X.nilCheck rfl) ?_
  refine L.store rfl rfl (by conv => lhs; whnf) rfl sz_3 (hk1) (by first | decide | exact Nat.le_of_ble_eq_true rfl) ?_
  intro w2 hk2 hg2 hs2
  have hk2 : Blk w2 sb 3 #[.int .i64 ((s : Int) + 1)] := hk2
  refine L.nil ?_
  refine J.seq ?_
  refine J.region ?_
  iterate 2 refine L.va rfl (X.move (by conv => lhs; whnf)) ?_
  iterate 2 refine L.va rfl (X.assign (by conv => lhs; whnf)) ?_
  refine L.nil ?_
  refine J.ret ?_
  refine thn_ret <| ?_
  refine fin2 ?_
  exact ⟨b, a, s + 1, rfl, .inr rfl, .inl rfl, Nat.le_refl _, hk2, hr1.grown hg2 (Nat.le_of_lt hk1.lt) (fun g hg => by injection hg with hg; omega), grb_trans (grown_ext hq) hg2⟩
 ·refine J.skip ?_
  refine J.seq ?_
  refine J.region ?_
  iterate 2 refine L.va rfl (X.move (by conv => lhs; whnf)) ?_
  iterate 2 refine L.va rfl (X.assign (by conv => lhs; whnf)) ?_
  refine L.nil ?_
  refine J.ret ?_
  refine fin2 ?_
  exact ⟨a, b, s, rfl, .inl rfl, .inr rfl, by omega, hk1, hr1, grown_ext hq⟩
theorem medianI (A : Option Addr) (n c a b d sb s : Nat) (l : List Int) (w : World) (hr : Reads w sb 1 A n (nums .i64 l)) (hk : Blk w sb 3 #[.int .i64 (s : Int)]) (hs : s ≤ 900) (ha : a < n) (hb : b < n) (hd : d < n) (hn : n ≤ 900000) :
  Calls Tryz.prog 111 #[.slice A n c, .int .i64 (a : Int), .int .i64 (b : Int), .int .i64 (d : Int), .pointer (some ⟨sb, 0, none⟩)] w fun e w' => ∃ x s' : Nat, e = .returned (.int .i64 (x : Int)) ∧ (x = a ∨ x = b ∨ x = d) ∧ s' ≤ s + 3 ∧ Blk w' sb 3 #[.int .i64 (s' : Int)] ∧ Reads w' sb 1 A n (nums .i64 l) ∧ w.grownBy w' (some sb) := by
 refine enter Tryz.func111 rfl (by kernel_rfl) ?_
 refine J.seq ?_
 refine J.region ?_
 refine L.va rfl (X.assign (by conv => lhs; whnf)) ?_
 refine L.nil ?_
 refine J.seq ?_
 refine J.region ?_
 iterate 4 refine L.va rfl (X.move (by conv => lhs; whnf)) ?_
 refine L.call rfl en_118 rfl (order2I A n c a b sb s l w hr hk (by omega) ha hb hn) ?_
 rintro e w1 ⟨x1, y1, s1, rfl, hx1, hy1, hs1, hk1, hr1, hg1⟩
 refine ⟨_, rfl, ?_⟩
 refine L.va rfl (X.move (by conv => lhs; whnf)) ?_
 iterate 2 refine L.va rfl (X.extract rfl rfl) ?_
 iterate 2 refine L.va rfl (X.assign (by conv => lhs; whnf)) ?_
 refine L.nil ?_
 refine J.seq ?_
 refine J.region ?_
 iterate 4 refine L.va rfl (X.move (by conv => lhs; whnf)) ?_
 refine L.call rfl en_118 rfl (order2I A n c y1 d sb s1 l w1 hr1 hk1 (by omega) (by omega) hd hn) ?_
 rintro e w2 ⟨x2, y2, s2, rfl, hx2, hy2, hs2, hk2, hr2, hg2⟩
 refine ⟨_, rfl, ?_⟩
 refine L.va rfl (X.move (by conv => lhs; whnf)) ?_
 iterate 2 refine L.va rfl (X.extract rfl rfl) ?_
 iterate 2 refine L.va rfl (X.assign (by conv => lhs; whnf)) ?_
 refine L.nil ?_
 refine J.seq ?_
 refine J.region ?_
 iterate 4 refine L.va rfl (X.move (by conv => lhs; whnf)) ?_
 refine L.call rfl en_118 rfl (order2I A n c x1 x2 sb s2 l w2 hr2 hk2 (by omega) (by omega) (by omega) hn) ?_
 rintro e w3 ⟨x3, y3, s3, rfl, hx3, hy3, hs3, hk3, hr3, hg3⟩
 refine ⟨_, rfl, ?_⟩
 refine L.va rfl (X.move (by conv => lhs; whnf)) ?_
 iterate 2 refine L.va rfl (X.extract rfl rfl) ?_
 iterate 2 refine L.va rfl (X.assign (by conv => lhs; whnf)) ?_
 refine L.nil ?_
 refine J.seq ?_
 refine J.region ?_
 refine L.va rfl (X.move (by conv => lhs; whnf)) ?_
 refine L.va rfl (X.assign (by conv => lhs; whnf)) ?_
 refine L.nil ?_
 refine J.ret ?_
 refine fin1 ?_
 exact ⟨y3, s3, rfl, by omega, by omega, hk3, hr3, grb_trans (grb_trans hg1 hg2) hg3⟩
theorem medadjI (A : Option Addr) (n c a sb s : Nat) (l : List Int) (w : World) (hr : Reads w sb 1 A n (nums .i64 l)) (hk : Blk w sb 3 #[.int .i64 (s : Int)]) (hs : s ≤ 900) (ha : a + 2 < n) (hn : n ≤ 900000) :
  Calls Tryz.prog 110 #[.slice A n c, .int .i64 ((a + 1 : Nat) : Int), .pointer (some ⟨sb, 0, none⟩)] w fun e w' => ∃ x s' : Nat, e = .returned (.int .i64 (x : Int)) ∧ a ≤ x ∧ x ≤ a + 2 ∧ s' ≤ s + 3 ∧ Blk w' sb 3 #[.int .i64 (s' : Int)] ∧ Reads w' sb 1 A n (nums .i64 l) ∧ w.grownBy w' (some sb) := by
 have e1 : ((a + 1 : Nat) : Int) - 1 = (a : Int) := by omega
 have e2 : ((a + 1 : Nat) : Int) + 1 = ((a + 2 : Nat) : Int) := by omega
 have c1 := medianI A n c a (a + 1) (a + 2) sb s l w hr hk hs (by omega) (by omega) (by omega) hn
 rw [← e1, ← e2] at c1
 refine enter Tryz.func110 rfl (by kernel_rfl) ?_
 refine J.seq ?_
 refine J.region ?_
 refine L.va rfl (X.assign (by conv => lhs; whnf)) ?_
 refine L.nil ?_
 refine J.seq ?_
 refine J.region ?_
 iterate 2 refine L.va rfl (X.move (by conv => lhs; whnf)) ?_
 refine L.va rfl (X.sub rfl rfl (by omega)) ?_
 iterate 2 refine L.va rfl (X.move (by conv => lhs; whnf)) ?_
 refine L.va rfl (X.add rfl rfl (by omega)) ?_
 refine L.va rfl (X.move (by conv => lhs; whnf)) ?_
 refine L.call rfl en_111 rfl (c1) ?_
 rintro e w1 ⟨x, s', rfl, hx, hs', hk1, hr1, hg1⟩
 refine ⟨_, rfl, ?_⟩
 refine L.va rfl (X.assign (by conv => lhs; whnf)) ?_
 refine L.nil ?_
 refine J.ret ?_
 refine fin1 ?_
 exact ⟨x, s', rfl, by omega, by omega, hs', hk1, hr1, hg1⟩
theorem pivotI (A : Option Addr) (n c N a h : Nat) (l : List Int) (w : World) (ho : w.ownsRow N 3 1 (.slice A n c) n (nums .i64 l)) (hf : a + h ≤ n) (hn : n ≤ 900000) (h0 : 12 < h) :
  Calls Tryz.prog 90 #[.slice A n c, .int .i64 (a : Int), .int .i64 ((a + h : Nat) : Int)] w fun e w' => ∃ p k : Nat, e = .returned (.tuple #[.int .i64 (p : Int), .int .i64 (k : Int)]) ∧ a ≤ p ∧ p < a + h ∧ k ≤ 2 ∧ Ext w w' := by
 have eh : ((a + h : Nat) : Int) - (a : Int) = (h : Int) := by omega
 have e1 : (a : Int) + (h : Int) / 4 * 1 = ((a + h / 4 : Nat) : Int) := by omega
 have e2 : (a : Int) + (h : Int) / 4 * 2 = ((a + h / 4 * 2 : Nat) : Int) := by omega
 have e3 : (a : Int) + (h : Int) / 4 * 3 = ((a + h / 4 * 3 : Nat) : Int) := by omega
 refine enter Tryz.func90 rfl (by kernel_rfl) ?_
 refine J.seq ?_
 refine J.region ?_
 iterate 2 refine L.va rfl (X.assign (by conv => lhs; whnf)) ?_
 refine L.nil ?_
 refine J.seq ?_
 refine J.region ?_
 iterate 2 refine L.va rfl (X.move (by conv => lhs; whnf)) ?_
 refine L.va rfl (X.sub rfl rfl (by omega)) ?_
 refine L.va rfl (X.assign (by conv => lhs; whnf)) ?_
 refine L.nil ?_
 rw [eh]
 refine J.seq ?_
 refine J.region ?_
 refine L.alloc rfl zr_3 ?_
 intro sb w1 hsb hs1 hk1 he1
 have hr1 : Reads w1 sb 1 A n (nums .i64 l) := by
  have := (Reads.of_own ho).ext he1
  rwa [← hsb] at this
 have hwb : w.heap.size ≤ sb := by omega
 have hk1 : Blk w1 sb 3 #[.int .i64 ((0 : Nat) : Int)] := hk1
 refine L.nil ?_
 refine J.seq ?_
 refine J.region ?_
 iterate 2 refine L.va rfl (X.move (by conv => lhs; whnf)) ?_
 refine L.va rfl (X.quo rfl rfl (by omega)) ?_
 refine L.va rfl (X.mul rfl rfl (by omega)) ?_
 refine L.va rfl (X.add rfl rfl (by omega)) ?_
 refine L.va rfl (X.assign (by conv => lhs; whnf)) ?_
 refine L.nil ?_
 rw [e1]
 refine J.seq ?_
 refine J.region ?_
 iterate 2 refine L.va rfl (X.move (by conv => lhs; whnf)) ?_
 refine L.va rfl (X.quo rfl rfl (by omega)) ?_
 refine L.va rfl (X.mul rfl rfl (by omega)) ?_
 refine L.va rfl (X.add rfl rfl (by omega)) ?_
 refine L.va rfl (X.assign (by conv => lhs; whnf)) ?_
 refine L.nil ?_
 rw [e2]
 refine J.seq ?_
 refine J.region ?_
 iterate 2 refine L.va rfl (X.move (by conv => lhs; whnf)) ?_
 refine L.va rfl (X.quo rfl rfl (by omega)) ?_
 refine L.va rfl (X.mul rfl rfl (by omega)) ?_
 refine L.va rfl (X.add rfl rfl (by omega)) ?_
 refine L.va rfl (X.assign (by conv => lhs; whnf)) ?_
 refine L.nil ?_
 rw [e3]
 iterate 2 refine J.seq ?_
 refine J.region ?_
 refine L.va rfl (X.move (by conv => lhs; whnf)) ?_
 refine L.va rfl (X.geq rfl rfl) ?_
 refine L.nil ?_
 refine J.decT rfl (by omega) ?_
 refine J.cut (X := Nat × Nat × Nat × Nat) [10, 11, 12, 33, 34, 35, 36, 37, 38, 39, 40, 41, 42, 43] (fun (i, j, k, s) => [(10, .int .i64 (i : Int)), (11, .int .i64 (j : Int)), (12, .int .i64 (k : Int))]) (fun (i, j, k, s) w' => a ≤ i ∧ i < a + h ∧ a ≤ j ∧ j < a + h ∧ a ≤ k ∧ k < a + h ∧ s ≤ 9 ∧ Blk w' sb 3 #[.int .i64 (s : Int)] ∧ Reads w' sb 1 A n (nums .i64 l) ∧ w1.grownBy w' (some sb)) ?_ ?_
 ·refine J.seq ?_
  refine J.region ?_
  refine L.va rfl (X.move (by conv => lhs; whnf)) ?_
  refine L.va rfl (X.geq rfl rfl) ?_
  refine L.nil ?_
  refine J.dec rfl (fun h50 => ?_) (fun h50 => ?_)
  ·have q1 : a + h / 4 = (a + h / 4 - 1) + 1 := by omega
   have q2 : a + h / 4 * 2 = (a + h / 4 * 2 - 1) + 1 := by omega
   have q3 : a + h / 4 * 3 = (a + h / 4 * 3 - 1) + 1 := by omega
   have c1 := medadjI A n c (a + h / 4 - 1) sb 0 l w1 hr1 hk1 (by omega) (by omega) hn
   rw [← q1] at c1
   refine J.seq ?_
   refine J.region ?_
   iterate 2 refine L.va rfl (X.move (by conv => lhs; whnf)) ?_
   refine L.call rfl en_110 rfl (c1) ?_
   rintro e w2 ⟨x1, s1, rfl, hx1, hy1, hs1, hk2, hr2, hg2⟩
   refine ⟨_, rfl, ?_⟩
   have c2 := medadjI A n c (a + h / 4 * 2 - 1) sb s1 l w2 hr2 hk2 (by omega) (by omega) hn
   rw [← q2] at c2
   refine L.va rfl (X.assign (by conv => lhs; whnf)) ?_
   refine L.nil ?_
   refine J.seq ?_
   refine J.region ?_
   iterate 2 refine L.va rfl (X.move (by conv => lhs; whnf)) ?_
   refine L.call rfl en_110 rfl (c2) ?_
   rintro e w3 ⟨x2, s2, rfl, hx2, hy2, hs2, hk3, hr3, hg3⟩
   refine ⟨_, rfl, ?_⟩
   have c3 := medadjI A n c (a + h / 4 * 3 - 1) sb s2 l w3 hr3 hk3 (by omega) (by omega) hn
   rw [← q3] at c3
   refine L.va rfl (X.assign (by conv => lhs; whnf)) ?_
   refine L.nil ?_
   refine J.region ?_
   iterate 2 refine L.va rfl (X.move (by conv => lhs; whnf)) ?_
   refine L.call rfl en_110 rfl (c3) ?_
   rintro e w4 ⟨x3, s3, rfl, hx3, hy3, hs3, hk4, hr4, hg4⟩
   refine ⟨_, rfl, ?_⟩
   refine L.va rfl (X.assign (by conv => lhs; whnf)) ?_
   refine L.nil ?_
   refine ⟨(x1, x2, x3, s3), At3 (by first | rfl | exact at_int rfl (by omega) | exact at_slice rfl (by omega) | exact at_int rfl (by simp)) (by first | rfl | exact at_int rfl (by omega) | exact at_slice rfl (by omega) | exact at_int rfl (by simp)) (by first | rfl | exact at_int rfl (by omega) | exact at_slice rfl (by omega) | exact at_int rfl (by simp)), (by (iterate 14 refine Agr.lk rfl ?_); exact Agr.rfl'), ?_⟩
   exact ⟨by omega, by omega, by omega, by omega, by omega, by omega, by omega, hk4, hr4, grb_trans (grb_trans hg2 hg3) hg4⟩
  ·refine J.skip ?_
   refine ⟨(a + h / 4, a + h / 4 * 2, a + h / 4 * 3, 0), At3 (by first | rfl | exact at_int rfl (by omega) | exact at_slice rfl (by omega) | exact at_int rfl (by simp)) (by first | rfl | exact at_int rfl (by omega) | exact at_slice rfl (by omega) | exact at_int rfl (by simp)) (by first | rfl | exact at_int rfl (by omega) | exact at_slice rfl (by omega) | exact at_int rfl (by simp)), (by (iterate 2 refine Agr.lk rfl ?_); exact Agr.rfl'), ?_⟩
   exact ⟨by omega, by omega, by omega, by omega, by omega, by omega, by omega, hk1, hr1, grown_ext (Ext.refl _)⟩
 ·rintro ⟨i, j, k, s⟩ g w2 ⟨i1, i2, j1, j2, k1, k2, hs, hk2, hr2, hg2⟩
  refine J.region ?_
  iterate 4 refine L.va rfl (X.move (by conv => lhs; whnf)) ?_
  refine L.call rfl en_111 rfl (medianI A n c i j k sb s l w2 hr2 hk2 (by omega) (by omega) (by omega) (by omega) hn) ?_
  rintro e w3 ⟨x, s', rfl, hx, hs', hk3, hr3, hg3⟩
  refine ⟨_, rfl, ?_⟩
  have hE : Ext w w3 := he1.grw (grb_trans hg2 hg3) (by intro g hg; injection hg with hg; omega)
  refine L.va rfl (X.assign (by conv => lhs; whnf)) ?_
  refine L.nil ?_
  refine J.seq ?_
  refine J.region ?_
  refine L.va rfl (X.load rfl sc_3 (by first | exact Ld.blk hk3 rfl)) ?_
  refine L.nil ?_
  refine J.block ?_
  refine J.seq ?_
  refine J.region ?_
  refine L.va rfl (X.eql rfl rfl) ?_
  refine L.va rfl (X.assign (by conv => lhs; whnf)) ?_
  refine L.nil ?_
  refine J.dec rfl (fun hz => ?_) (fun hz => ?_)
  ·refine J.seq ?_
   refine J.region ?_
   refine L.va rfl (X.move (by conv => lhs; whnf)) ?_
   iterate 2 refine L.va rfl (X.assign (by conv => lhs; whnf)) ?_
   refine L.nil ?_
   refine J.ret ?_
   refine inB_ret <| ?_
   refine fin2 ?_
   exact ⟨x, 1, rfl, by omega, by omega, by omega, hE⟩
  ·refine J.seq ?_
   refine J.region ?_
   refine L.va rfl (X.eql rfl rfl) ?_
   refine L.va rfl (X.assign (by conv => lhs; whnf)) ?_
   refine L.nil ?_
   refine J.dec rfl (fun hz => ?_) (fun hz => ?_)
   ·refine J.seq ?_
    refine J.region ?_
    refine L.va rfl (X.move (by conv => lhs; whnf)) ?_
    iterate 2 refine L.va rfl (X.assign (by conv => lhs; whnf)) ?_
    refine L.nil ?_
    refine J.ret ?_
    refine inB_ret <| ?_
    refine fin2 ?_
    exact ⟨x, 2, rfl, by omega, by omega, by omega, hE⟩
   ·refine J.seq ?_
    refine J.region ?_
    refine L.va rfl (X.move (by conv => lhs; whnf)) ?_
    iterate 2 refine L.va rfl (X.assign (by conv => lhs; whnf)) ?_
    refine L.nil ?_
    refine J.ret ?_
    refine inB_ret <| ?_
    refine fin2 ?_
    exact ⟨x, 0, rfl, by omega, by omega, by omega, hE⟩
end Go.Proofs.YtpomklkfedpkfaaGreat
