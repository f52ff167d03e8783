/-
  The reference's Put of manifests.
-/
import Derived.Test.YtlohbkcedpkjaaaDoorWManC
namespace Go.Proofs.YtlohbkcedpkjaaaDoor
set_option maxRecDepth 100000
open Go.RowKit H
open Byts Cod Seal
set_option linter.unusedVariables false
namespace Man
theorem rput_ {w : World} {N : Nat} (m : M) (A : Option Addr) (c : Nat) (hr : Reads w N 2 A m.r.length (m.r.flatMap rV)) (hN : N ≤ w.heap.size) (hi : In m) (h : may m) :
    Calls Tryd.prog 14 #[val m A c] w fun e w' => ∃ A' c', e = .returned (.slice A' 1024 c') ∧ w'.ownsRow w.heap.size 5 1 (.slice A' 1024 c') 1024 (nums .u8 (sc smZ m)) ∧ Ext w w' := by
  have hbl := body_le h hi
  have hbb := body_bytes h hi
  have hm := h
  have hin := hi
  obtain ⟨v0, v1, e0, e1, b0, b1⟩ := hi
  obtain ⟨h1, h2, h3, h5, h6, h7⟩ := hm
  obtain ⟨cb1, cb2⟩ := cul b0 b1
  obtain ⟨cs1, cs2⟩ := cul (x := m.s) (by omega) (by omega)
  obtain ⟨cl1, cl2⟩ := cul (x := (m.r.length : Int)) (by omega) (by omega)
  obtain ⟨pre, hpre⟩ : ∃ p, p = cu m.b ++ cu m.s ++ cu (m.r.length : Int) := ⟨_, rfl⟩
  have hpl : pre.length ≤ 27 := by rw [hpre]; simp only [List.length_append]; omega
  refine enter Tryd.func14 rfl (by kernel_rfl) ?_
  refine J.seq ?_
  refine J.region ?_
  -- box
  refine L.boxA (l := [_, _, _, _, _]) rfl rfl ?_
  intro g1 w1 hb1 hs1 hk1 he1
  have hr1 := hr.low (Below.mono he1 hN) (Nat.le_refl _)
  have z1 := he1.le
  refine L.va rfl (X.assign (by conv => lhs; whnf)) ?_
  refine L.nil ?_
  -- until
  refine J.cut (X := Option Addr × Nat × Nat) [3, 5, 6, 7, 8, 9, 10, 11, 12, 13, 14, 15, 16, 17, 18] (fun s => [(3, .slice s.1 s.2.1 s.2.2)]) (fun s w' => w'.ownsRow w1.heap.size 5 1 (.slice s.1 s.2.1 s.2.2) s.2.1 (nums .u8 pre) ∧ s.2.1 = pre.length ∧ Ext w1 w') ?_ ?_
  · -- draw
    refine J.draw (ℓ := 1000000) (S := Ext w1) mixed (fun w2 hS hS_h => ?_)
    have z2 := hS.le
    refine D.va 0 rfl (by kernel_rfl) (fun _ _ _ h => h) rfl (fun w' hw => X.fieldAddr rfl Tryd.underlying30 rfl sz_22 (by decide)) hS ?_
    refine D.va 1 rfl (by kernel_rfl) (fun _ _ _ h => h) rfl (fun w' hw => X.load rfl sc_22 (by first | exact Ld.blk (hk1.ext hw) rfl)) hS ?_
    refine D.va 3 rfl (by kernel_rfl) (fun _ _ _ h => h) rfl (fun w' hw => X.fieldAddr rfl Tryd.underlying30 rfl sz_3 (by decide)) hS ?_
    refine D.va 4 rfl (by kernel_rfl) (fun _ _ _ h => h) rfl (fun w' hw => X.load rfl sc_3 (by first | exact Ld.blk (hk1.ext hw) rfl)) hS ?_
    refine D.va 5 rfl (by kernel_rfl) (fun _ _ _ h => h) rfl (fun w' hw => (by first | exact X.convU rfl is_3 Tryd.underlying22 (by omega) | exact X.convw rfl is_3 Tryd.underlying22)) hS ?_
    refine D.va 8 rfl (by kernel_rfl) (fun _ _ _ h => h) rfl (fun w' hw => X.fieldAddr rfl Tryd.underlying30 rfl sz_28 (by decide)) hS ?_
    refine D.va 9 rfl (by kernel_rfl) (fun _ _ _ h => h) rfl (fun w' hw => X.load rfl sc_28 (by first | exact Ld.blk (hk1.ext hw) rfl)) hS ?_
    refine D.va 10 rfl (by kernel_rfl) (fun _ _ _ h => h) rfl (fun w' hw => X.len rfl Tryd.underlying28) hS ?_
    refine D.va 11 rfl (by kernel_rfl) (fun _ _ _ h => h) rfl (fun w' hw => (by first | exact X.convU rfl is_3 Tryd.underlying22 (by omega) | exact X.convw rfl is_3 Tryd.underlying22)) hS ?_
    -- callfn bushel/bushelref07.U
    refine D.one 2 (by kernel_rfl) rfl ?_
    refine L.call rfl en_34 rfl (ref_U m.b w2 b0 b1) ?_
    rintro e w3 ⟨A3, c3, rfl, ho3, he3⟩
    refine ⟨_, rfl, ?_⟩
    have hS1 := hS.trans he3
    refine L.nil ?_
    refine ⟨fun _ => hS1, ?_⟩
    have z3 := he3.le
    -- callfn bushel/bushelref07.U
    refine D.one 6 (by kernel_rfl) rfl ?_
    refine L.call rfl en_34 rfl (ref_U m.s w3 (by omega) (by omega)) ?_
    rintro e w4 ⟨A4, c4, rfl, ho4, he4⟩
    refine ⟨_, rfl, ?_⟩
    have hS2 := hS1.trans he4
    refine L.nil ?_
    refine ⟨fun _ => hS2, ?_⟩
    have z4 := he4.le
    -- append
    refine D.one 7 (by kernel_rfl) rfl ?_
    refine L.appendQ (q := wd m.b + 1 + (wd m.s + 1)) (ys := cu m.b ++ cu m.s) rfl rfl rfl Tryd.underlying23 el_5 ((ho3.ext he4)) ((Reads.of_own ho4)) (by omega) (by simp) (by unfold maxLen; omega) (by omega) ?_
    intro A5 c5 w5 ho5 hg5 hb5 hor5
    have hS3 := hS2.low hb5 hS.le
    refine L.nil ?_
    refine ⟨fun _ => hS3, ?_⟩
    have z5 := hb5.size
    -- callfn bushel/bushelref07.U
    refine D.one 12 (by kernel_rfl) rfl ?_
    refine L.call rfl en_34 rfl (ref_U (m.r.length : Int) w5 (by omega) (by omega)) ?_
    rintro e w6 ⟨A6, c6, rfl, ho6, he6⟩
    refine ⟨_, rfl, ?_⟩
    have hS4 := hS3.trans he6
    refine L.nil ?_
    refine ⟨fun _ => hS4, ?_⟩
    have z6 := he6.le
    -- append
    refine D.one 13 (by kernel_rfl) rfl ?_
    refine L.appendQ (q := wd m.b + 1 + (wd m.s + 1) + (wd (m.r.length : Int) + 1)) (ys := cu m.b ++ cu m.s ++ cu (m.r.length : Int)) rfl rfl rfl Tryd.underlying23 el_5 ((ho5.ext he6)) ((Reads.of_own ho6)) (by omega) (by simp) (by unfold maxLen; omega) (by omega) ?_
    intro A7 c7 w7 ho7 hg7 hb7 hor7
    have hS5 := hS4.low hb7 hS.le
    refine L.nil ?_
    refine ⟨fun _ => hS5, ?_⟩
    refine D.va 14 rfl (by kernel_rfl) (fun _ _ _ h => h) rfl (fun w' hw => X.assign (by conv => lhs; whnf)) hS5 ?_
    refine D.done (by kernel_rfl) ?_
    replace hk1 := hk1.ext hS5
    -- cutend
    refine ⟨(A7, wd m.b + 1 + (wd m.s + 1) + (wd (m.r.length : Int) + 1), c7), At1 (by first | rfl | exact at_int rfl (by omega) | exact at_slice rfl (by omega) | exact at_int rfl (by simp)), (by (iterate 15 refine Agr.lk rfl ?_); exact Agr.rfl'), ?_⟩
    exact ⟨by rw [hpre]; exact ho7.mono hS.le, by rw [hpre]; simp only [List.length_append]; omega, hS5⟩
  · rintro ⟨A2, n2, c2⟩ g w2 ⟨ho2, hn2, he2⟩
    dsimp only at ho2 hn2
    have hk2 := hk1.ext he2
    have hr2 := hr1.low (Below.mono he2 (by omega)) (Nat.le_refl _)
    have z2 := he2.le
    refine J.seq ?_
    refine J.seq ?_
    refine J.region ?_
    refine L.va rfl (X.assign (by conv => lhs; whnf)) ?_
    refine L.nil ?_
    refine J.block ?_
    -- loop
    refine J.loop (X := Nat × Option Addr × Nat × Nat) [3, 4, 19, 20, 21, 22, 23, 24, 25, 26, 27, 28, 29, 30, 31, 32, 33, 34, 35, 36, 37, 38, 39, 40, 41, 42, 43, 44] (fun s => [(4, .int .i64 (s.1 : Int)), (3, .slice s.2.1 s.2.2.1 s.2.2.2)]) (fun s w' => s.1 ≤ m.r.length ∧ w'.ownsRow w1.heap.size 5 1 (.slice s.2.1 s.2.2.1 s.2.2.2) s.2.2.1 (nums .u8 (pre ++ rb (m.r.take s.1))) ∧ Below w1.heap.size w2 w') (fun s => m.r.length - s.1) ((0, A2, n2, c2)) (At2 (by first | rfl | exact at_int rfl (by omega) | exact at_slice rfl (by omega) | exact at_int rfl (by simp)) (by first | rfl | exact at_int rfl (by omega) | exact at_slice rfl (by omega) | exact at_int rfl (by simp))) ?_ ?_
    · exact ⟨Nat.zero_le _, by simpa [rb] using ho2, Below.refl _ _⟩
    · rintro ⟨i, A3, n3, c3⟩ g w3 ⟨hi, ho3, he3⟩
      dsimp only at hi ho3
      have hk3 := hk2.low he3 (by omega)
      have hr3 := hr2.low he3 (by omega)
      have z3 := he3.size
      have hl3 : (pre ++ rb (m.r.take i)).length = n3 := by have := ho3.1; simpa [nums] using this
      have hrt := rb_take_le h i
      rw [List.length_append] at hl3
      refine J.seq ?_
      refine J.seq ?_
      refine J.region ?_
      refine L.va rfl (X.move (by conv => lhs; whnf)) ?_
      refine L.va rfl (X.fieldAddr rfl Tryd.underlying30 rfl sz_28 (by decide)) ?_
      refine L.va rfl (X.load rfl sc_28 (by first | exact Ld.blk hk3 rfl)) ?_
      refine L.va rfl (X.len rfl Tryd.underlying28) ?_
      refine L.va rfl (X.lss rfl rfl) ?_
      refine L.nil ?_
      -- cond
      refine J.dec rfl (fun hlt => ?_) (fun hlt => ?_)
      · have hil : i < m.r.length := by omega
        have hA := hr3.some_ (by omega)
        obtain ⟨x, hx⟩ : ∃ x, m.r[i]? = some x := ⟨_, List.getElem?_eq_getElem hil⟩
        obtain ⟨x1, x2, x3, x4, _⟩ := h7 x (List.mem_of_getElem? hx)
        obtain ⟨d1, d2⟩ := cul (x := x.1) x1 (by omega)
        obtain ⟨d3, d4⟩ := cul (x := x.2) x3 (by omega)
        have q1 := fun (w' : World) (hw : Below w1.heap.size w3 w') => Ld.flat2 rV_len (hr3.low hw (by omega)) hx (r := 0) rfl
        have q2 := fun (w' : World) (hw : Below w1.heap.size w3 w') => Ld.flat2 rV_len (hr3.low hw (by omega)) hx (r := 1) rfl
        refine J.skip ?_
        refine J.seq ?_
        refine J.block ?_
        -- draw
        refine J.draw (ℓ := 1000000) (S := Below w1.heap.size w3) mixed (fun w4 hSE hS_h => ?_)
        have hS : (Below w1.heap.size w3) w4 := Below.mono hSE (by omega)
        have z4 := hS.size
        refine D.va 0 rfl (by kernel_rfl) (fun _ _ _ h => h) rfl (fun w' hw => X.move (by conv => lhs; whnf)) hS ?_
        refine D.va 1 rfl (by kernel_rfl) (fun _ _ _ h => h) rfl (fun w' hw => X.fieldAddr rfl Tryd.underlying30 rfl sz_28 (by decide)) hS ?_
        refine D.va 2 rfl (by kernel_rfl) (fun _ _ _ h => h) rfl (fun w' hw => X.load rfl sc_28 (by first | exact Ld.blk (hk3.low hw (by omega)) rfl | exact hA | exact q1 w' hw | exact q2 w' hw)) hS ?_
        refine D.va 3 rfl (by kernel_rfl) (fun _ _ _ h => h) rfl (fun w' hw => X.move (by conv => lhs; whnf)) hS ?_
        refine D.va 4 rfl (by kernel_rfl) (fun _ _ _ h => h) rfl (fun w' hw => (by first | exact X.indexAddrn rfl rfl Tryd.underlying28 sz_59 (by first | exact Option.some_ne_none _ | exact hA | exact q1 w' hw | exact q2 w' hw) (by omega) | exact X.indexAddr rfl rfl Tryd.underlying28 sz_59 (by first | exact Option.some_ne_none _ | exact hA | exact q1 w' hw | exact q2 w' hw) (by omega))) hS ?_
        refine D.va 5 rfl (by kernel_rfl) (fun _ _ _ h => h) rfl (fun w' hw => X.fieldP rfl Tryd.underlying59 rfl sz_3 (by decide) (by first | exact Option.some_ne_none _ | exact hA | exact q1 w' hw | exact q2 w' hw)) hS ?_
        refine D.va 6 rfl (by kernel_rfl) (fun _ _ _ h => h) rfl (fun w' hw => X.load rfl sc_3 (by first | exact Ld.blk (hk3.low hw (by omega)) rfl | exact hA | exact q1 w' hw | exact q2 w' hw)) hS ?_
        refine D.va 7 rfl (by kernel_rfl) (fun _ _ _ h => h) rfl (fun w' hw => (by first | exact X.convU rfl is_3 Tryd.underlying22 (by omega) | exact X.convw rfl is_3 Tryd.underlying22)) hS ?_
        refine D.va 10 rfl (by kernel_rfl) (fun _ _ _ h => h) rfl (fun w' hw => X.fieldAddr rfl Tryd.underlying30 rfl sz_28 (by decide)) hS ?_
        refine D.va 11 rfl (by kernel_rfl) (fun _ _ _ h => h) rfl (fun w' hw => X.load rfl sc_28 (by first | exact Ld.blk (hk3.low hw (by omega)) rfl | exact hA | exact q1 w' hw | exact q2 w' hw)) hS ?_
        refine D.va 12 rfl (by kernel_rfl) (fun _ _ _ h => h) rfl (fun w' hw => X.move (by conv => lhs; whnf)) hS ?_
        refine D.va 13 rfl (by kernel_rfl) (fun _ _ _ h => h) rfl (fun w' hw => (by first | exact X.indexAddrn rfl rfl Tryd.underlying28 sz_59 (by first | exact Option.some_ne_none _ | exact hA | exact q1 w' hw | exact q2 w' hw) (by omega) | exact X.indexAddr rfl rfl Tryd.underlying28 sz_59 (by first | exact Option.some_ne_none _ | exact hA | exact q1 w' hw | exact q2 w' hw) (by omega))) hS ?_
        refine D.va 14 rfl (by kernel_rfl) (fun _ _ _ h => h) rfl (fun w' hw => X.fieldP rfl Tryd.underlying59 rfl sz_3 (by decide) (by first | exact Option.some_ne_none _ | exact hA | exact q1 w' hw | exact q2 w' hw)) hS ?_
        refine D.va 15 rfl (by kernel_rfl) (fun _ _ _ h => h) rfl (fun w' hw => X.load rfl sc_3 (by first | exact Ld.blk (hk3.low hw (by omega)) rfl | exact hA | exact q1 w' hw | exact q2 w' hw)) hS ?_
        refine D.va 16 rfl (by kernel_rfl) (fun _ _ _ h => h) rfl (fun w' hw => (by first | exact X.convU rfl is_3 Tryd.underlying22 (by omega) | exact X.convw rfl is_3 Tryd.underlying22)) hS ?_
        -- callfn bushel/bushelref07.U
        refine D.one 8 (by kernel_rfl) rfl ?_
        refine L.call rfl en_34 rfl (ref_U x.1 w4 x1 (by omega)) ?_
        rintro e w5 ⟨A5, c5, rfl, ho5, he5⟩
        refine ⟨_, rfl, ?_⟩
        have hS1 := hS.trans (Below.mono he5 (by omega))
        refine L.nil ?_
        refine ⟨fun _ => hS1, ?_⟩
        have z5 := he5.le
        -- append
        refine D.one 9 (by kernel_rfl) rfl ?_
        refine L.appendQ (q := n3 + (wd x.1 + 1)) (ys := pre ++ rb (m.r.take i) ++ cu x.1) rfl rfl rfl Tryd.underlying23 el_5 (((ho3.ext hSE).ext he5)) ((Reads.of_own ho5)) (by omega) (by simp) (by unfold maxLen; omega) (by omega) ?_
        intro A6 c6 w6 ho6 hg6 hb6 hor6
        have hS2 := hS1.trans hb6
        refine L.nil ?_
        refine ⟨fun _ => hS2, ?_⟩
        have z6 := hS2.size
        -- callfn bushel/bushelref07.U
        refine D.one 17 (by kernel_rfl) rfl ?_
        refine L.call rfl en_34 rfl (ref_U x.2 w6 x3 (by omega)) ?_
        rintro e w7 ⟨A7, c7, rfl, ho7, he7⟩
        refine ⟨_, rfl, ?_⟩
        have hS3 := hS2.trans (Below.mono he7 (by omega))
        refine L.nil ?_
        refine ⟨fun _ => hS3, ?_⟩
        have z7 := hS3.size
        -- append
        refine D.one 18 (by kernel_rfl) rfl ?_
        refine L.appendQ (q := n3 + (wd x.1 + 1) + (wd x.2 + 1)) (ys := pre ++ rb (m.r.take i) ++ cu x.1 ++ cu x.2) rfl rfl rfl Tryd.underlying23 el_5 ((ho6.ext he7)) ((Reads.of_own ho7)) (by omega) (by simp) (by unfold maxLen; omega) (by omega) ?_
        intro A8 c8 w8 ho8 hg8 hb8 hor8
        have hS4 := hS3.trans hb8
        refine L.nil ?_
        refine ⟨fun _ => hS4, ?_⟩
        refine D.va 19 rfl (by kernel_rfl) (fun _ _ _ h => h) rfl (fun w' hw => X.assign (by conv => lhs; whnf)) hS4 ?_
        refine D.done (by kernel_rfl) ?_
        replace hk3 := hk3.low hS4 (by omega)
        refine J.region ?_
        refine L.va rfl (X.move (by conv => lhs; whnf)) ?_
        refine L.va rfl (X.add rfl rfl (by omega)) ?_
        refine L.va rfl (X.assign (by conv => lhs; whnf)) ?_
        refine L.nil ?_
        -- loopend
        refine ⟨(i + 1, A8, n3 + (wd x.1 + 1) + (wd x.2 + 1), c8), At2 (by first | rfl | exact at_int rfl (by omega) | exact at_slice rfl (by omega) | exact at_int rfl (by simp)) (by first | rfl | exact at_int rfl (by omega) | exact at_slice rfl (by omega) | exact at_int rfl (by simp)), (by (iterate 28 refine Agr.lk rfl ?_); exact Agr.lk rfl (Agr.hav rfl Agr.rfl')), ?_⟩
        refine ⟨⟨by omega, ?_, he3.trans hS4⟩, by omega⟩
        rw [rb_take_succ m.r hx]
        simpa only [List.append_assoc] using ho8
      · obtain rfl : i = m.r.length := by omega
        rw [List.take_of_length_le (Nat.le_refl _)] at ho3
        have eb : pre ++ rb m.r = body m := by rw [hpre]; unfold body; simp only [List.append_assoc]
        rw [eb] at ho3
        refine J.exit ?_
        refine J.seq ?_
        refine J.region ?_
        refine L.va rfl (X.fieldAddr rfl Tryd.underlying30 rfl sz_22 (by decide)) ?_
        refine L.va rfl (X.load rfl sc_22 (by first | exact Ld.blk hk3 rfl)) ?_
        refine L.va rfl (X.fieldAddr rfl Tryd.underlying30 rfl sz_22 (by decide)) ?_
        refine L.va rfl (X.load rfl sc_22 (by first | exact Ld.blk hk3 rfl)) ?_
        refine L.va rfl (X.move (by conv => lhs; whnf)) ?_
        refine L.va rfl (X.build (l := [_, _, _, _]) (Evs.cons (by conv => lhs; whnf) (Evs.cons (by conv => lhs; whnf) (Evs.cons (by conv => lhs; whnf) (Evs.cons (by conv => lhs; whnf) Evs.nil)))) (bld_run Tryd.underlying25 (bp_25 Tryd.underlying25) zr_25 rfl)) ?_
        -- callfn bushel/bushelref20.Put
        refine L.call rfl en_9 rfl (frefput20 2 m.v m.e A3 n3 c3 (body m) w3 (by decide) (by decide) v0 v1 e0 e1 (by omega) (Reads.of_own ho3) hbb) ?_
        rintro e w4 ⟨A4, c4, rfl, ho4, he4⟩
        refine ⟨_, rfl, ?_⟩
        refine L.va rfl (X.assign (by conv => lhs; whnf)) ?_
        refine L.nil ?_
        -- ret
        refine J.ret ?_
        refine fin1 ?_
        have he : Ext w w3 := he1.trans (he2.low he3 (Nat.le_refl _))
        exact ⟨A4, c4, rfl, ho4.mono he.le, he.trans he4⟩
end Man
end Go.Proofs.YtlohbkcedpkjaaaDoor
