/-
  Package plan: Pick and Gain; the reference's Serve and Pick.
-/
import Derived.Test.YtlohbkcedpkjaaaWPlanB
namespace Go.Proofs.Ytlohbkcedpkjaaa
set_option maxRecDepth 100000
open Go.RowKit H
open Mk
set_option linter.unusedVariables false
/-- sizes that lie in memory -/
structure Sz where
  (A : Option Addr) (n c : Nat) (z : List Int)
namespace Sz
abbrev val (s : Sz) : Value := .slice s.A s.n s.c
structure At (s : Sz) (N : Nat) (w : World) : Prop where
  r : Reads w N 1 s.A s.n (nums .i64 s.z)
theorem At.ext {s : Sz} {N : Nat} {w w' : World} (h : s.At N w) (he : Ext w w') : s.At N w' := ⟨h.r.ext he⟩
theorem At.more {s : Sz} {N N' : Nat} {w : World} (h : s.At N w) (hN : N ≤ N') : s.At N' w := ⟨h.r.more hN⟩
theorem At.len {s : Sz} {N : Nat} {w : World} (h : s.At N w) : s.z.length = s.n := by have := h.r.1; simpa [nums] using this
end Sz
theorem pick_no {s : Sch} {q : Qu} (z : Sz) {w : World} (H : s.Here w) (hq : q.At w.heap.size w) (h : qcode s q ≠ 0) : Calls Try.prog 19 #[s.val, z.val, q.val] w fun e w' => e = .returned (.tuple #[.int .i64 0, .int .i64 (qcode s q)]) ∧ Ext w w' := by
  refine enter Try.func19 rfl (by kernel_rfl) ?_
  refine J.seq ?_
  refine J.region ?_
  -- box
  refine L.boxA (l := [_, _, _, _]) rfl rfl ?_
  intro b1 w1 hb1 hs1 hk1 he1
  -- box
  refine L.boxA (l := [_, _, _, _, _]) rfl rfl ?_
  intro b2 w2 hb2 hs2 hk2 he2
  have hk12 := hk1.ext he2
  have he02 := he1.trans he2
  have hk2 : Blk w2 b2 40 q.vs.toArray := hk2
  refine L.va rfl (X.assign (by conv => lhs; whnf)) ?_
  refine L.va rfl (X.assign (by conv => lhs; whnf)) ?_
  refine L.nil ?_
  refine J.seq ?_
  refine J.seq ?_
  refine J.region ?_
  refine L.va rfl ((by first | exact X.loadAgg rfl (range_l hk2) Try.underlying34 rfl (by kernel_rfl) | exact X.loadAgg rfl (range_blk hk2) Try.underlying34 rfl (by kernel_rfl) | exact X.loadAgg rfl (range_l hk12) Try.underlying34 rfl (by kernel_rfl) | exact X.loadAgg rfl (range_blk hk12) Try.underlying34 rfl (by kernel_rfl))) ?_
  refine L.va rfl ((by first | exact X.loadAgg rfl (range_l hk2) Try.underlying40 rfl (by kernel_rfl) | exact X.loadAgg rfl (range_blk hk2) Try.underlying40 rfl (by kernel_rfl) | exact X.loadAgg rfl (range_l hk12) Try.underlying40 rfl (by kernel_rfl) | exact X.loadAgg rfl (range_blk hk12) Try.underlying40 rfl (by kernel_rfl))) ?_
  -- callfn bushel/query.Check
  refine L.call rfl en_46 rfl (qcheck (H.ext he02) ((hq.ext he02).more he02.le)) ?_
  rintro e w3 ⟨rfl, he3⟩
  refine ⟨_, rfl, ?_⟩
  refine L.va rfl (X.assign (by conv => lhs; whnf)) ?_
  refine L.nil ?_
  refine J.seq ?_
  refine J.region ?_
  refine L.va rfl (X.move (by conv => lhs; whnf)) ?_
  refine L.va rfl (X.neq rfl rfl) ?_
  refine L.nil ?_
  -- cond
  refine J.ndecT rfl (by exact h) ?_
  refine J.seq ?_
  refine J.region ?_
  refine L.va rfl (X.move (by conv => lhs; whnf)) ?_
  refine L.va rfl (X.assign (by conv => lhs; whnf)) ?_
  refine L.va rfl (X.assign (by conv => lhs; whnf)) ?_
  refine L.nil ?_
  -- ret
  refine J.ret ?_
  refine thn_ret <| ?_
  refine fin2 ?_
  exact ⟨rfl, he02.trans he3⟩
theorem pick_yes {s : Sch} {q : Qu} (z : Sz) {w : World} (H : s.Here w) (hq : q.At w.heap.size w) (hz : z.At w.heap.size w) (h : qcode s q = 0) : Calls Try.prog 19 #[s.val, z.val, q.val] w fun e w' => e = .returned (.tuple #[.int .i64 (cvA s.V (qneed q) z.z (1 + s.nv)), .int .i64 0]) ∧ Ext w w' := by
  obtain ⟨hc, _, _, _⟩ := qc_ok h
  have hN := qneed_lt hq.g
  have hV := H.sets hc
  have hnv := (Sch.good hc).1
  have hlz := H.zlen
  refine enter Try.func19 rfl (by kernel_rfl) ?_
  refine J.seq ?_
  refine J.region ?_
  -- box
  refine L.boxA (l := [_, _, _, _]) rfl rfl ?_
  intro b1 w1 hb1 hs1 hk1 he1
  -- box
  refine L.boxA (l := [_, _, _, _, _]) rfl rfl ?_
  intro b2 w2 hb2 hs2 hk2 he2
  have hk12 := hk1.ext he2
  have he02 := he1.trans he2
  have hk2 : Blk w2 b2 40 q.vs.toArray := hk2
  refine L.va rfl (X.assign (by conv => lhs; whnf)) ?_
  refine L.va rfl (X.assign (by conv => lhs; whnf)) ?_
  refine L.nil ?_
  refine J.seq ?_
  refine J.seq ?_
  refine J.region ?_
  refine L.va rfl ((by first | exact X.loadAgg rfl (range_l hk2) Try.underlying34 rfl (by kernel_rfl) | exact X.loadAgg rfl (range_blk hk2) Try.underlying34 rfl (by kernel_rfl) | exact X.loadAgg rfl (range_l hk12) Try.underlying34 rfl (by kernel_rfl) | exact X.loadAgg rfl (range_blk hk12) Try.underlying34 rfl (by kernel_rfl))) ?_
  refine L.va rfl ((by first | exact X.loadAgg rfl (range_l hk2) Try.underlying40 rfl (by kernel_rfl) | exact X.loadAgg rfl (range_blk hk2) Try.underlying40 rfl (by kernel_rfl) | exact X.loadAgg rfl (range_l hk12) Try.underlying40 rfl (by kernel_rfl) | exact X.loadAgg rfl (range_blk hk12) Try.underlying40 rfl (by kernel_rfl))) ?_
  -- callfn bushel/query.Check
  refine L.call rfl en_46 rfl (qcheck (H.ext he02) ((hq.ext he02).more he02.le)) ?_
  rintro e w3 ⟨rfl, he3⟩
  refine ⟨_, rfl, ?_⟩
  have he03 := he02.trans he3
  have H3 := H.ext he03
  have q3 := (hq.ext he03).more he03.le
  replace hk2 := hk2.ext he3
  replace hk12 := hk12.ext he3
  rw [h]
  refine L.va rfl (X.assign (by conv => lhs; whnf)) ?_
  refine L.nil ?_
  refine J.seq ?_
  refine J.region ?_
  refine L.va rfl (X.move (by conv => lhs; whnf)) ?_
  refine L.va rfl (X.neq rfl rfl) ?_
  refine L.nil ?_
  -- cond
  refine J.iteF rfl ?_
  refine J.skip ?_
  refine J.seq ?_
  -- draw
  refine J.draw (ℓ := 1000000) (S := Ext w3) mixed (fun w4 hS hS_h => ?_)
  refine D.va 0 rfl (by kernel_rfl) (fun _ _ _ h => h) rfl (fun w' hw => (by first | exact X.loadAgg rfl (range_l (hk2.ext hw)) Try.underlying34 rfl (by kernel_rfl) | exact X.loadAgg rfl (range_blk (hk2.ext hw)) Try.underlying34 rfl (by kernel_rfl) | exact X.loadAgg rfl (range_l (hk12.ext hw)) Try.underlying34 rfl (by kernel_rfl) | exact X.loadAgg rfl (range_blk (hk12.ext hw)) Try.underlying34 rfl (by kernel_rfl))) hS ?_
  refine D.va 2 rfl (by kernel_rfl) (fun _ _ _ h => h) rfl (fun w' hw => X.move (by conv => lhs; whnf)) hS ?_
  refine D.va 3 rfl (by kernel_rfl) (fun _ _ _ h => h) rfl (fun w' hw => (by first | exact X.loadAgg rfl (range_l (hk2.ext hw)) Try.underlying40 rfl (by kernel_rfl) | exact X.loadAgg rfl (range_blk (hk2.ext hw)) Try.underlying40 rfl (by kernel_rfl) | exact X.loadAgg rfl (range_l (hk12.ext hw)) Try.underlying40 rfl (by kernel_rfl) | exact X.loadAgg rfl (range_blk (hk12.ext hw)) Try.underlying40 rfl (by kernel_rfl))) hS ?_
  -- callfn bushel/schema.Views
  refine D.one 1 (by kernel_rfl) rfl ?_
  refine L.call rfl en_47 rfl ((H3.ext hS).views_ok hc) ?_
  rintro e w5 ⟨A5, c5, rfl, ho5, he5⟩
  refine ⟨_, rfl, ?_⟩
  have hS1 := hS.trans he5
  refine L.nil ?_
  refine ⟨fun _ => hS1, ?_⟩
  have r5 : Reads w5 w5.heap.size 1 A5 (1 + s.nv) (nums .u32 s.V) := Reads.of_own ho5
  -- callfn bushel/query.Need
  refine D.one 4 (by kernel_rfl) rfl ?_
  refine L.call rfl en_49 rfl (qneed_ q ((q3.ext hS1).more hS1.le)) ?_
  rintro e w6 ⟨rfl, he6⟩
  refine ⟨_, rfl, ?_⟩
  have hS2 := hS1.trans he6
  refine L.nil ?_
  refine ⟨fun _ => hS2, ?_⟩
  -- callfn bushel/lattice.Cover
  refine D.one 5 (by kernel_rfl) rfl ?_
  refine L.call rfl en_50 rfl (lcover A5 (1 + s.nv) c5 s.V z.A z.n z.c z.z (qneed q) (r5.ext he6) (hz.ext (he03.trans hS2)).r hV hN (by omega)) ?_
  rintro e _ ⟨rfl, rfl⟩
  refine ⟨_, rfl, ?_⟩
  have hS3 := hS2
  refine L.nil ?_
  refine ⟨fun _ => hS3, ?_⟩
  refine D.va 6 rfl (by kernel_rfl) (fun _ _ _ h => h) rfl (fun w' hw => X.assign (by conv => lhs; whnf)) hS3 ?_
  refine D.va 7 rfl (by kernel_rfl) (fun _ _ _ h => h) rfl (fun w' hw => X.assign (by conv => lhs; whnf)) hS3 ?_
  refine D.done (by kernel_rfl) ?_
  replace hk2 := hk2.ext hS3
  replace hk12 := hk12.ext hS3
  -- ret
  refine J.ret ?_
  refine fin2 ?_
  exact ⟨rfl, he03.trans hS2⟩
theorem gain1 (z : Sz) (i : Nat) {N : Nat} {w : World} {b : Nat} (hb : Blk w b 25 #[z.val]) (hz : z.At N w) : Calls Try.prog 51 #[.int .i64 (i : Int), .pointer (some ⟨b, 0, none⟩)] w fun e w' => e = .returned (.int .i64 (szA z.z (i : Int))) ∧ w = w' := by
  have hl := hz.len
  have hr := hz.r
  refine enter Try.func51 rfl (by kernel_rfl) ?_
  refine J.seq ?_
  refine J.region ?_
  refine L.va rfl (X.assign (by conv => lhs; whnf)) ?_
  refine L.nil ?_
  refine J.seq ?_
  refine J.seq ?_
  refine J.region ?_
  refine L.va rfl (X.move (by conv => lhs; whnf)) ?_
  refine L.va rfl (X.load rfl sc_25 (by first | exact Ld.blk hb rfl)) ?_
  refine L.va rfl (X.len rfl Try.underlying25) ?_
  refine L.va rfl (X.lss rfl rfl) ?_
  refine L.nil ?_
  -- cond
  refine J.dec rfl (fun h => ?_) (fun h => ?_)
  · have hA := hr.some_ (by omega)
    refine J.seq ?_
    refine J.region ?_
    refine L.va rfl (X.load rfl sc_25 (by first | exact Ld.blk hb rfl | exact Ld.num hr (by omega) | exact hA)) ?_
    refine L.va rfl (X.move (by conv => lhs; whnf)) ?_
    refine L.va rfl ((by first | exact X.index1n rfl rfl Try.underlying25 sz_3 (by first | exact Option.some_ne_none _ | exact hr.some_ (by omega) | exact hA) (by omega) | exact X.index1 rfl rfl Try.underlying25 sz_3 (by first | exact Option.some_ne_none _ | exact hr.some_ (by omega) | exact hA) (by omega))) ?_
    refine L.va rfl (X.load rfl sc_3 (by first | exact Ld.blk hb rfl | exact Ld.num hr (by omega) | exact hA)) ?_
    refine L.va rfl (X.assign (by conv => lhs; whnf)) ?_
    refine L.nil ?_
    -- ret
    refine J.ret ?_
    refine thn_ret <| ?_
    refine fin1 ?_
    exact ⟨rfl, rfl⟩
  · rw [szA_big (by omega)]
    refine J.skip ?_
    refine J.seq ?_
    refine J.region ?_
    refine L.va rfl (X.assign (by conv => lhs; whnf)) ?_
    refine L.nil ?_
    -- ret
    refine J.ret ?_
    refine fin1 ?_
    exact ⟨rfl, rfl⟩
theorem gain_no {s : Sch} {q : Qu} (z : Sz) {w : World} (H : s.Here w) (hq : q.At w.heap.size w) (h : qcode s q ≠ 0) : Calls Try.prog 21 #[s.val, z.val, q.val] w fun e w' => e = .returned (.tuple #[.int .i64 0, .int .i64 (qcode s q)]) ∧ Ext w w' := by
  refine enter Try.func21 rfl (by kernel_rfl) ?_
  refine J.seq ?_
  refine J.region ?_
  -- box
  refine L.boxA (l := [_, _, _, _]) rfl rfl ?_
  intro b1 w1 hb1 hs1 hk1 he1
  -- box
  refine L.box rfl (by conv => lhs; whnf) ?_
  intro b2 w2 hb2 hs2 hk2 he2
  have hk12 := hk1.ext he2
  have he02 := he1.trans he2
  -- box
  refine L.boxA (l := [_, _, _, _, _]) rfl rfl ?_
  intro b3 w3 hb3 hs3 hk3 he3
  have hk13 := hk12.ext he3
  have hk23 := hk2.ext he3
  have he03 := he02.trans he3
  have hk3 : Blk w3 b3 40 q.vs.toArray := hk3
  refine L.va rfl (X.assign (by conv => lhs; whnf)) ?_
  refine L.va rfl (X.assign (by conv => lhs; whnf)) ?_
  refine L.nil ?_
  refine J.seq ?_
  refine J.region ?_
  refine L.va rfl ((by first | exact X.loadAgg rfl (range_l hk3) Try.underlying34 rfl (by kernel_rfl) | exact X.loadAgg rfl (range_blk hk3) Try.underlying34 rfl (by kernel_rfl) | exact X.loadAgg rfl (range_l hk13) Try.underlying34 rfl (by kernel_rfl) | exact X.loadAgg rfl (range_blk hk13) Try.underlying34 rfl (by kernel_rfl) | exact X.loadAgg rfl (range_l hk23) Try.underlying34 rfl (by kernel_rfl) | exact X.loadAgg rfl (range_blk hk23) Try.underlying34 rfl (by kernel_rfl))) ?_
  refine L.va rfl (X.load rfl sc_25 (by first | exact Ld.blk hk3 rfl | exact Ld.blk hk13 rfl | exact Ld.blk hk23 rfl)) ?_
  refine L.va rfl ((by first | exact X.loadAgg rfl (range_l hk3) Try.underlying40 rfl (by kernel_rfl) | exact X.loadAgg rfl (range_blk hk3) Try.underlying40 rfl (by kernel_rfl) | exact X.loadAgg rfl (range_l hk13) Try.underlying40 rfl (by kernel_rfl) | exact X.loadAgg rfl (range_blk hk13) Try.underlying40 rfl (by kernel_rfl) | exact X.loadAgg rfl (range_l hk23) Try.underlying40 rfl (by kernel_rfl) | exact X.loadAgg rfl (range_blk hk23) Try.underlying40 rfl (by kernel_rfl))) ?_
  -- callfn bushel/plan.Pick
  refine L.call rfl en_19 rfl (pick_no z (H.ext he03) ((hq.ext he03).more he03.le) h) ?_
  rintro e w4 ⟨rfl, he4⟩
  refine ⟨_, rfl, ?_⟩
  refine L.va rfl (X.move (by conv => lhs; whnf)) ?_
  refine L.va rfl (X.extract rfl rfl) ?_
  refine L.va rfl (X.extract rfl rfl) ?_
  refine L.va rfl (X.assign (by conv => lhs; whnf)) ?_
  refine L.va rfl (X.assign (by conv => lhs; whnf)) ?_
  refine L.nil ?_
  refine J.seq ?_
  refine J.seq ?_
  refine J.region ?_
  refine L.va rfl (X.move (by conv => lhs; whnf)) ?_
  refine L.va rfl (X.neq rfl rfl) ?_
  refine L.nil ?_
  -- cond
  refine J.ndecT rfl (by exact h) ?_
  refine J.seq ?_
  refine J.region ?_
  refine L.va rfl (X.move (by conv => lhs; whnf)) ?_
  refine L.va rfl (X.assign (by conv => lhs; whnf)) ?_
  refine L.va rfl (X.assign (by conv => lhs; whnf)) ?_
  refine L.nil ?_
  -- ret
  refine J.ret ?_
  refine thn_ret <| ?_
  refine fin2 ?_
  exact ⟨rfl, he03.trans he4⟩
theorem gain_yes {s : Sch} {q : Qu} (z : Sz) {w : World} (H : s.Here w) (hq : q.At w.heap.size w) (hz : z.At w.heap.size w) (hn : z.n ≤ 1000000) (hzb : ∀ i, -9223372036854775808 ≤ z.z.getD i 0 ∧ z.z.getD i 0 ≤ 9223372036854775807) (h : qcode s q = 0) :
    Calls Try.prog 21 #[s.val, z.val, q.val] w fun e w' => (e = .returned (if (∃ i, i < z.n ∧ z.z.getD i 0 < 0) then .tuple #[.int .i64 0, .int .i64 2] else .tuple #[.int .i64 (max (szA z.z 0 - szA z.z (cvA s.V (qneed q) z.z (1 + s.nv))) 0), .int .i64 0])) ∧ Ext w w' := by
  obtain ⟨hc, _, _, _⟩ := qc_ok h
  have hlz := hz.len
  obtain ⟨t, ht⟩ := srv_first (base_sub H hq h) s.nv
  rw [Nat.add_comm] at ht
  obtain ⟨hm1, hm2⟩ := cv_min s.V (qneed q) z.z (1 + s.nv) (by rw [ht]; exact List.cons_ne_nil _ _)
  have hm3 := srv_bd s.V (qneed q) (1 + s.nv) _ hm1
  obtain ⟨m, hm⟩ : ∃ m : Nat, cvA s.V (qneed q) z.z (1 + s.nv) = (m : Int) := ⟨_, (Int.toNat_of_nonneg hm3.1).symm⟩
  refine enter Try.func21 rfl (by kernel_rfl) ?_
  refine J.seq ?_
  refine J.region ?_
  -- box
  refine L.boxA (l := [_, _, _, _]) rfl rfl ?_
  intro b1 w1 hb1 hs1 hk1 he1
  -- box
  refine L.box rfl (by conv => lhs; whnf) ?_
  intro b2 w2 hb2 hs2 hk2 he2
  have hk12 := hk1.ext he2
  have he02 := he1.trans he2
  -- box
  refine L.boxA (l := [_, _, _, _, _]) rfl rfl ?_
  intro b3 w3 hb3 hs3 hk3 he3
  have hk13 := hk12.ext he3
  have hk23 := hk2.ext he3
  have he03 := he02.trans he3
  have hk3 : Blk w3 b3 40 q.vs.toArray := hk3
  refine L.va rfl (X.assign (by conv => lhs; whnf)) ?_
  refine L.va rfl (X.assign (by conv => lhs; whnf)) ?_
  refine L.nil ?_
  refine J.seq ?_
  refine J.region ?_
  refine L.va rfl ((by first | exact X.loadAgg rfl (range_l hk3) Try.underlying34 rfl (by kernel_rfl) | exact X.loadAgg rfl (range_blk hk3) Try.underlying34 rfl (by kernel_rfl) | exact X.loadAgg rfl (range_l hk13) Try.underlying34 rfl (by kernel_rfl) | exact X.loadAgg rfl (range_blk hk13) Try.underlying34 rfl (by kernel_rfl) | exact X.loadAgg rfl (range_l hk23) Try.underlying34 rfl (by kernel_rfl) | exact X.loadAgg rfl (range_blk hk23) Try.underlying34 rfl (by kernel_rfl))) ?_
  refine L.va rfl (X.load rfl sc_25 (by first | exact Ld.blk hk3 rfl | exact Ld.blk hk13 rfl | exact Ld.blk hk23 rfl)) ?_
  refine L.va rfl ((by first | exact X.loadAgg rfl (range_l hk3) Try.underlying40 rfl (by kernel_rfl) | exact X.loadAgg rfl (range_blk hk3) Try.underlying40 rfl (by kernel_rfl) | exact X.loadAgg rfl (range_l hk13) Try.underlying40 rfl (by kernel_rfl) | exact X.loadAgg rfl (range_blk hk13) Try.underlying40 rfl (by kernel_rfl) | exact X.loadAgg rfl (range_l hk23) Try.underlying40 rfl (by kernel_rfl) | exact X.loadAgg rfl (range_blk hk23) Try.underlying40 rfl (by kernel_rfl))) ?_
  -- callfn bushel/plan.Pick
  refine L.call rfl en_19 rfl (pick_yes z (H.ext he03) ((hq.ext he03).more he03.le) ((hz.ext he03).more he03.le) h) ?_
  rintro e w4 ⟨rfl, he4⟩
  refine ⟨_, rfl, ?_⟩
  have he04 := he03.trans he4
  have hk24 := hk23.ext he4
  have z4 := (hz.ext he04)
  have r4 := z4.r
  rw [hm]
  refine L.va rfl (X.move (by conv => lhs; whnf)) ?_
  refine L.va rfl (X.extract rfl rfl) ?_
  refine L.va rfl (X.extract rfl rfl) ?_
  refine L.va rfl (X.assign (by conv => lhs; whnf)) ?_
  refine L.va rfl (X.assign (by conv => lhs; whnf)) ?_
  refine L.nil ?_
  refine J.seq ?_
  refine J.seq ?_
  refine J.region ?_
  refine L.va rfl (X.move (by conv => lhs; whnf)) ?_
  refine L.va rfl (X.neq rfl rfl) ?_
  refine L.nil ?_
  -- cond
  refine J.iteF rfl ?_
  refine J.skip ?_
  refine J.seq ?_
  refine J.seq ?_
  refine J.region ?_
  refine L.va rfl (X.load rfl sc_25 (by first | exact Ld.blk hk24 rfl)) ?_
  refine L.va rfl (X.len rfl Try.underlying25) ?_
  refine L.va rfl (X.move (by conv => lhs; whnf)) ?_
  refine L.nil ?_
  refine J.block ?_
  -- loop
  refine J.loop (X := Nat) [6, 7, 11, 25, 26, 27, 28, 29, 30, 31] (fun i => [(25, .int .i64 (i : Int))]) (fun i w' => w' = w4 ∧ i ≤ z.n ∧ ∀ j, j < i → ¬ z.z.getD j 0 < 0) (fun i => z.n - i) (0) (At1 (by first | rfl | exact at_int rfl (by omega) | exact at_slice rfl (by omega) | exact at_int rfl (by simp))) ?_ ?_
  · exact ⟨rfl, Nat.zero_le _, fun j hj => absurd hj (by omega)⟩
  · rintro i g w5 ⟨rfl, hi, hP⟩
    refine J.seq ?_
    refine J.region ?_
    refine L.va rfl (X.lss rfl rfl) ?_
    refine L.nil ?_
    refine J.seq ?_
    -- cond
    refine J.dec rfl (fun hlt => ?_) (fun hlt => ?_)
    · have hA := r4.some_ (by omega)
      refine J.skip ?_
      refine J.seq ?_
      refine J.block ?_
      refine J.seq ?_
      refine J.region ?_
      refine L.va rfl ((by first | exact X.index1n rfl rfl Try.underlying25 sz_3 (by first | exact Option.some_ne_none _ | exact r4.some_ (by omega) | exact hA) (by omega) | exact X.index1 rfl rfl Try.underlying25 sz_3 (by first | exact Option.some_ne_none _ | exact r4.some_ (by omega) | exact hA) (by omega))) ?_
      refine L.va rfl (X.load rfl sc_3 (by first | exact Ld.blk hk24 rfl | exact Ld.num r4 (by omega) | exact hA)) ?_
      refine L.va rfl (X.assign (by conv => lhs; whnf)) ?_
      refine L.nil ?_
      refine J.seq ?_
      refine J.region ?_
      refine L.va rfl (X.move (by conv => lhs; whnf)) ?_
      refine L.va rfl (X.lss rfl rfl) ?_
      refine L.nil ?_
      -- cond
      refine J.dec rfl (fun hneg => ?_) (fun hneg => ?_)
      · rw [if_pos ⟨i, by omega, hneg⟩]
        refine J.seq ?_
        refine J.region ?_
        refine L.va rfl (X.assign (by conv => lhs; whnf)) ?_
        refine L.va rfl (X.assign (by conv => lhs; whnf)) ?_
        refine L.nil ?_
        -- ret
        refine J.ret ?_
        refine inB_ret <|  thn_ret <|  thn_ret <|  inB_ret <|  thn_ret <| ?_
        refine fin2 ?_
        exact ⟨rfl, he04⟩
      · skip
        refine J.skip ?_
        refine J.region ?_
        refine L.va rfl (X.add rfl rfl (by omega)) ?_
        refine L.va rfl (X.move (by conv => lhs; whnf)) ?_
        refine L.nil ?_
        -- loopend
        refine ⟨i + 1, At1 (by first | rfl | exact at_int rfl (by omega) | exact at_slice rfl (by omega) | exact at_int rfl (by simp)), (by (iterate 8 refine Agr.lk rfl ?_); exact Agr.lk rfl (Agr.hav rfl Agr.rfl')), ?_⟩
        refine ⟨⟨rfl, by omega, fun j hj => ?_⟩, by omega⟩
        rcases Nat.lt_or_ge j i with h | h
        · exact hP j h
        · obtain rfl : j = i := by omega
          exact hneg
    · have hall : ∀ i, 0 ≤ z.z.getD i 0 := fun i => by
        rcases Nat.lt_or_ge i z.n with h | h
        · have := hP i (by omega); omega
        · rw [List.getD, List.getElem?_eq_none (by omega)]; exact Int.le_refl _
      rw [if_neg (fun ⟨j, hj, k⟩ => hP j (by omega) k)]
      have a0 : szA z.z ((0 : Nat) : Int) = szA z.z 0 := rfl
      have a1 : 0 ≤ szA z.z 0 ∧ szA z.z 0 ≤ 9223372036854775807 := ⟨hall _, (hzb _).2⟩
      have a2 : 0 ≤ szA z.z (m : Int) ∧ szA z.z (m : Int) ≤ 9223372036854775807 := ⟨hall _, (hzb _).2⟩
      refine J.exit ?_
      refine J.seq ?_
      refine J.region ?_
      refine L.va rfl (X.makeFn rfl) ?_
      refine L.va rfl (X.assign (by conv => lhs; whnf)) ?_
      refine L.nil ?_
      refine J.seq ?_
      refine J.region ?_
      refine L.va rfl (X.move (by conv => lhs; whnf)) ?_
      -- callval
      refine L.callC rfl en_51 rfl rfl (gain1 z 0 hk24 z4) ?_
      rintro e _ ⟨rfl, rfl⟩
      refine ⟨_, rfl, ?_⟩
      refine L.va rfl (X.move (by conv => lhs; whnf)) ?_
      refine L.va rfl (X.move (by conv => lhs; whnf)) ?_
      -- callval
      refine L.callC rfl en_51 rfl rfl (gain1 z m hk24 z4) ?_
      rintro e _ ⟨rfl, rfl⟩
      refine ⟨_, rfl, ?_⟩
      -- t39
      refine L.va rfl (X.sub rfl rfl (by omega)) ?_
      refine L.va rfl (X.max2 rfl rfl) ?_
      refine L.va rfl (X.assign (by conv => lhs; whnf)) ?_
      refine L.va rfl (X.assign (by conv => lhs; whnf)) ?_
      refine L.nil ?_
      -- ret
      refine J.ret ?_
      refine fin2 ?_
      exact ⟨rfl, he04⟩
theorem rserve {s : Sch} {q : Qu} {w : World} (H : s.Here w) (hq : q.At w.heap.size w) (h : qcode s q = 0) : Calls Try.prog 23 #[s.val, q.val] w fun e w' => ∃ A c, e = .returned (.slice A (srv s.V (qneed q) (1 + s.nv)).length c) ∧ w'.ownsRow w.heap.size 3 1 (.slice A (srv s.V (qneed q) (1 + s.nv)).length c) (srv s.V (qneed q) (1 + s.nv)).length (nums .i64 (srv s.V (qneed q) (1 + s.nv))) ∧ Ext w w' := by
  obtain ⟨hc, _, _, _⟩ := qc_ok h
  have hN := qneed_lt hq.g
  have hV := H.sets hc
  have hnv := (Sch.good hc).1
  have hlz := H.zlen
  refine enter Try.func23 rfl (by kernel_rfl) ?_
  refine J.seq ?_
  refine J.region ?_
  -- box
  refine L.boxA (l := [_, _, _, _]) rfl rfl ?_
  intro b1 w1 hb1 hs1 hk1 he1
  -- box
  refine L.boxA (l := [_, _, _, _, _]) rfl rfl ?_
  intro b2 w2 hb2 hs2 hk2 he2
  have hk12 := hk1.ext he2
  have he02 := he1.trans he2
  have hk2 : Blk w2 b2 40 q.vs.toArray := hk2
  refine L.va rfl (X.assign (by conv => lhs; whnf)) ?_
  refine L.nil ?_
  refine J.seq ?_
  refine J.region ?_
  refine L.va rfl (X.assign (by conv => lhs; whnf)) ?_
  refine L.nil ?_
  refine J.seq ?_
  refine J.region ?_
  refine L.va rfl ((by first | exact X.loadAgg rfl (range_l hk2) Try.underlying34 rfl (by kernel_rfl) | exact X.loadAgg rfl (range_blk hk2) Try.underlying34 rfl (by kernel_rfl) | exact X.loadAgg rfl (range_l hk12) Try.underlying34 rfl (by kernel_rfl) | exact X.loadAgg rfl (range_blk hk12) Try.underlying34 rfl (by kernel_rfl))) ?_
  -- callfn bushel/bushelref11.Views
  refine L.call rfl en_56 rfl ((H.ext he02).rviews hc) ?_
  rintro e w4 ⟨A4, c4, rfl, ho4, he4⟩
  refine ⟨_, rfl, ?_⟩
  have he04 := he02.trans he4
  have z4 := he04.le
  have r4 : Reads w4 w4.heap.size 1 A4 (1 + s.nv) (nums .u32 s.V) := Reads.of_own ho4
  replace hk2 := hk2.ext he4
  replace hk12 := hk12.ext he4
  refine L.va rfl (X.assign (by conv => lhs; whnf)) ?_
  refine L.nil ?_
  refine J.seq ?_
  refine J.seq ?_
  refine J.region ?_
  refine L.va rfl (X.assign (by conv => lhs; whnf)) ?_
  refine L.nil ?_
  refine J.block ?_
  -- loop
  refine J.loop (X := Nat × Option Addr × Nat × Nat) [5, 7, 10, 11, 12, 13, 14, 15, 16, 17, 18, 19, 20, 21, 22, 23, 24, 25, 26] (fun (i, A, n, c) => [(7, .int .i64 (i : Int)), (5, .slice A n c)]) (fun (i, A, n, c) w' => i ≤ 1 + s.nv ∧ n = (srv s.V (qneed q) i).length ∧ w'.ownsRow w4.heap.size 3 1 (.slice A n c) n (nums .i64 (srv s.V (qneed q) i)) ∧ Ext w4 w') (fun (i, _) => 1 + s.nv - i) ((0, none, 0, 0)) (At2 (by first | rfl | exact at_int rfl (by omega) | exact at_slice rfl (by omega) | exact at_int rfl (by simp)) (by first | rfl | exact at_int rfl (by omega) | exact at_slice rfl (by omega) | exact at_int rfl (by simp))) ?_ ?_
  · exact ⟨Nat.zero_le _, rfl, own_nil _ _ _ _, Ext.refl _⟩
  · rintro ⟨i, A5, n5, c5⟩ g w5 ⟨hi, hn, ho5, he5⟩
    have he05 := he04.trans he5
    have z5 := he5.le
    have hk25 := hk2.ext he5
    have r5 := r4.ext he5
    have hsl := srv_len s.V (qneed q) i
    refine J.seq ?_
    refine J.seq ?_
    refine J.region ?_
    refine L.va rfl (X.move (by conv => lhs; whnf)) ?_
    refine L.va rfl (X.move (by conv => lhs; whnf)) ?_
    refine L.va rfl (X.len rfl Try.underlying32) ?_
    refine L.va rfl (X.lss rfl rfl) ?_
    refine L.nil ?_
    -- cond
    refine J.dec rfl (fun hlt => ?_) (fun hlt => ?_)
    · have hin : i < 1 + s.nv := by omega
      have hA := r5.some_ (by omega)
      obtain ⟨e1, e2⟩ := vN_is hV i
      have hld : ∀ w', Ext w5 w' → Ld w' (pA A4 i) (.int .u32 ((vN s.V i : Nat) : Int)) := fun w' hw => by have := Ld.num (j := i) (r5.ext hw) (by omega); rwa [e1] at this
      have hst : srv s.V (qneed q) (i + 1) = if sb (qneed q) (vN s.V i) = true then srv s.V (qneed q) i ++ [(i : Int)] else srv s.V (qneed q) i := rfl
      -- t21
      refine J.skip ?_
      refine J.seq ?_
      refine J.block ?_
      refine J.seq ?_
      -- draw
      refine J.quiet mixed (by kernel_rfl) ?_
      refine Qt.va rfl (fun w' hw => (by first | exact X.loadAgg rfl (range_l (hk25.ext hw)) Try.underlying40 rfl (by kernel_rfl) | exact X.loadAgg rfl (range_blk (hk25.ext hw)) Try.underlying40 rfl (by kernel_rfl))) ?_
      -- callfn bushel/bushelref29.Need
      refine Qt.call rfl en_57 rfl (fun w' hw => calls_ext hw (rqneed_ q ((hq.ext (he05.trans hw)).more (he05.trans hw).le))) ?_
      refine Qt.va rfl (fun w' hw => X.move (by conv => lhs; whnf)) ?_
      refine Qt.va rfl (fun w' hw => X.move (by conv => lhs; whnf)) ?_
      refine Qt.va rfl (fun w' hw => (by first | exact X.index1n rfl rfl Try.underlying32 sz_35 (by first | exact Option.some_ne_none _ | exact hA) (by omega) | exact X.index1 rfl rfl Try.underlying32 sz_35 (by first | exact Option.some_ne_none _ | exact hA) (by omega))) ?_
      refine Qt.va rfl (fun w' hw => X.load rfl sc_35 (hld w' hw)) ?_
      -- callfn bushel/bushelref11.Sub
      refine Qt.call rfl en_52 rfl (fun w' hw => calls_same hw (rsub_any (qneed q) (vN s.V i) w' hN e2)) ?_
      refine Qt.nil (fun w6 he6 => ?_)
      -- cond
      by_cases hs : sb (qneed q) (vN s.V i) = true
      · rw [if_pos hs] at hst
        have el := congrArg List.length hst
        rw [List.length_append, List.length_singleton] at el
        rw [hs]
        refine J.iteT rfl ?_
        refine J.region ?_
        refine L.va rfl (X.move (by conv => lhs; whnf)) ?_
        refine L.va rfl (X.move (by conv => lhs; whnf)) ?_
        -- buildSlice
        refine L.bslice (vs := [_]) rfl (Evs.cons (by conv => lhs; whnf) Evs.nil) rfl rfl rfl rfl Try.underlying25 sz_3 zr_3 (by decide) ?_
        intro b7 w7 hb7 hs7 hk7 he7
        have z7 := he7.le
        have z6 := he6.le
        -- append
        refine L.appendQ (q := (srv s.V (qneed q) (i + 1)).length) (ys := _) rfl rfl rfl Try.underlying25 el_3 ((ho5.ext he6).ext he7) ((blk_reads (q := 1) (l := nums .i64 [(i : Int)]) hk7 hk7.lt rfl)) (by omega) rfl (by unfold maxLen; omega) (by omega) ?_
        intro A8 c8 w8 ho8 hg8 hb8 hor8
        have ho8 : w8.ownsRow w4.heap.size 3 1 (.slice A8 (srv s.V (qneed q) (i + 1)).length c8) (srv s.V (qneed q) (i + 1)).length (nums .i64 (srv s.V (qneed q) i ++ [(i : Int)])) := ho8
        rw [← hst] at ho8
        refine L.va rfl (X.assign (by conv => lhs; whnf)) ?_
        refine L.nil ?_
        refine J.region ?_
        refine L.va rfl (X.move (by conv => lhs; whnf)) ?_
        refine L.va rfl (X.add rfl rfl (by omega)) ?_
        refine L.va rfl (X.assign (by conv => lhs; whnf)) ?_
        refine L.nil ?_
        -- loopend
        refine ⟨(i + 1, A8, (srv s.V (qneed q) (i + 1)).length, c8), At2 (by first | rfl | exact at_int rfl (by omega) | exact at_slice rfl (by omega) | exact at_int rfl (by simp)) (by first | rfl | exact at_int rfl (by omega) | exact at_slice rfl (by omega) | exact at_int rfl (by simp)), (by (iterate 19 refine Agr.lk rfl ?_); exact Agr.lk rfl (Agr.hav rfl Agr.rfl')), ?_⟩
        exact ⟨⟨by omega, rfl, ho8, ((he5.trans he6).trans he7).low hb8 (Nat.le_refl _)⟩, by show 1 + s.nv - (i + 1) < 1 + s.nv - i; omega⟩
      · rw [if_neg hs] at hst
        have hs : sb (qneed q) (vN s.V i) = false := by simpa using hs
        rw [hs]
        refine J.iteF rfl ?_
        refine J.skip ?_
        refine J.region ?_
        refine L.va rfl (X.move (by conv => lhs; whnf)) ?_
        refine L.va rfl (X.add rfl rfl (by omega)) ?_
        refine L.va rfl (X.assign (by conv => lhs; whnf)) ?_
        refine L.nil ?_
        -- loopend
        refine ⟨(i + 1, A5, n5, c5), At2 (by first | rfl | exact at_int rfl (by omega) | exact at_slice rfl (by omega) | exact at_int rfl (by simp)) (by first | rfl | exact at_int rfl (by omega) | exact at_slice rfl (by omega) | exact at_int rfl (by simp)), (by (iterate 14 refine Agr.lk rfl ?_); exact Agr.lk rfl (Agr.hav rfl Agr.rfl')), ?_⟩
        exact ⟨⟨by omega, by rw [hst]; exact hn, by rw [hst]; exact ho5.ext he6, he5.trans he6⟩, by show 1 + s.nv - (i + 1) < 1 + s.nv - i; omega⟩
    · obtain rfl : i = 1 + s.nv := by omega
      subst hn
      refine J.exit ?_
      refine J.seq ?_
      refine J.region ?_
      refine L.va rfl (X.move (by conv => lhs; whnf)) ?_
      refine L.va rfl (X.assign (by conv => lhs; whnf)) ?_
      refine L.nil ?_
      -- ret
      refine J.ret ?_
      refine fin1 ?_
      exact ⟨A5, c5, rfl, ho5.mono z4, he04.trans he5⟩
end Go.Proofs.Ytlohbkcedpkjaaa
