/-
  Queries alike: the reference's Same.
-/
import Derived.Test.YtlipeplfjkgamaaWQryG
namespace Go.Proofs.Ytlipeplfjkgamaa
set_option maxRecDepth 100000
open Go.RowKit H
set_option linter.unusedVariables false
theorem rqsame {a b : Qu} {w : World} (ha : a.At w.heap.size w) (hb : b.At w.heap.size w) : Calls Try.prog 37 #[a.val, b.val] w fun e w' => e = .returned (.bool (decide (a.Eqv b))) ∧ Ext w w' := by
  have z0 : (a.g : Int) = (b.g : Int) ↔ a.g = b.g := by omega
  have lc1 := ha.lc
  have lc2 := hb.lc
  have lo1 := ha.lo
  have lo2 := hb.lo
  have mc1 := ha.mc
  have mc2 := hb.mc
  have mo1 := ha.mo
  have mo2 := hb.mo
  unfold maxLen at mc1 mc2 mo1 mo2
  refine enter Try.func37 rfl (by kernel_rfl) ?_
  refine J.seq ?_
  refine J.region ?_
  -- box
  refine L.boxA (l := [_, _, _, _, _]) rfl rfl ?_
  intro b1 w1 hb1 hs1 hk1 he1
  -- box
  refine L.boxA (l := [_, _, _, _, _]) rfl rfl ?_
  intro b2 w2 hb2 hs2 hk2 he2
  have hk12 := hk1.ext he2
  have he := he1.trans he2
  have z2 := he.le
  have hk12 : Blk w2 b1 54 a.vs.toArray := hk12
  have hk2 : Blk w2 b2 54 b.vs.toArray := hk2
  have ha2 := ha.ext he
  have hb2 := hb.ext he
  refine L.va rfl (X.assign (by conv => lhs; whnf)) ?_
  refine L.nil ?_
  refine J.seq ?_
  refine J.seq ?_
  refine J.region ?_
  refine L.va rfl (X.fieldAddr rfl Try.underlying54 rfl sz_50 (by decide)) ?_
  refine L.va rfl (X.load rfl sc_50 (by first | exact Ld.blk hk2 rfl | exact Ld.blk hk12 rfl)) ?_
  refine L.va rfl (X.fieldAddr rfl Try.underlying54 rfl sz_50 (by decide)) ?_
  refine L.va rfl (X.load rfl sc_50 (by first | exact Ld.blk hk2 rfl | exact Ld.blk hk12 rfl)) ?_
  refine L.va rfl (X.neq rfl rfl) ?_
  refine L.va rfl (X.move (by conv => lhs; whnf)) ?_
  -- case t12
  refine L.caseNdec (k := 12) rfl (fun h1 => ?_) (fun h1 => ?_)
  · refine L.no rfl ?_
    refine L.no rfl ?_
    refine L.no rfl ?_
    refine L.no rfl ?_
    refine L.no rfl ?_
    refine L.va rfl (X.pickT rfl (by conv => lhs; whnf)) ?_
    refine L.va rfl (X.move (by conv => lhs; whnf)) ?_
    refine L.no rfl ?_
    refine L.no rfl ?_
    refine L.no rfl ?_
    refine L.no rfl ?_
    refine L.no rfl ?_
    refine L.no rfl ?_
    refine L.no rfl ?_
    refine L.va rfl (X.pickT rfl (by conv => lhs; whnf)) ?_
    refine L.va rfl (X.move (by conv => lhs; whnf)) ?_
    refine L.no rfl ?_
    refine L.no rfl ?_
    refine L.no rfl ?_
    refine L.no rfl ?_
    refine L.no rfl ?_
    refine L.no rfl ?_
    refine L.no rfl ?_
    refine L.va rfl (X.pickT rfl (by conv => lhs; whnf)) ?_
    refine L.va rfl (X.move (by conv => lhs; whnf)) ?_
    refine L.no rfl ?_
    refine L.no rfl ?_
    refine L.no rfl ?_
    refine L.no rfl ?_
    refine L.no rfl ?_
    refine L.no rfl ?_
    refine L.va rfl (X.pickT rfl (by conv => lhs; whnf)) ?_
    refine L.nil ?_
    -- cond
    refine J.iteT rfl ?_
    rw [show decide (a.Eqv b) = false from decide_eq_false (fun e => h1 (z0.2 e.g))]
    refine J.seq ?_
    refine J.region ?_
    refine L.va rfl (X.assign (by conv => lhs; whnf)) ?_
    refine L.nil ?_
    -- ret
    refine J.ret ?_
    refine thn_ret <| ?_
    refine fin1 ?_
    exact ⟨rfl, he⟩
  refine L.va rfl (X.fieldAddr rfl Try.underlying54 rfl sz_3 (by decide)) ?_
  refine L.va rfl (X.load rfl sc_3 (by first | exact Ld.blk hk2 rfl | exact Ld.blk hk12 rfl)) ?_
  refine L.va rfl (X.fieldAddr rfl Try.underlying54 rfl sz_3 (by decide)) ?_
  refine L.va rfl (X.load rfl sc_3 (by first | exact Ld.blk hk2 rfl | exact Ld.blk hk12 rfl)) ?_
  refine L.va rfl (X.neq rfl rfl) ?_
  refine L.va rfl (X.pickF rfl (by conv => lhs; whnf)) ?_
  refine L.va rfl (X.move (by conv => lhs; whnf)) ?_
  -- case t19
  refine L.caseNdec (k := 19) rfl (fun h2 => ?_) (fun h2 => ?_)
  · refine L.no rfl ?_
    refine L.no rfl ?_
    refine L.no rfl ?_
    refine L.no rfl ?_
    refine L.no rfl ?_
    refine L.no rfl ?_
    refine L.no rfl ?_
    refine L.va rfl (X.pickT rfl (by conv => lhs; whnf)) ?_
    refine L.va rfl (X.move (by conv => lhs; whnf)) ?_
    refine L.no rfl ?_
    refine L.no rfl ?_
    refine L.no rfl ?_
    refine L.no rfl ?_
    refine L.no rfl ?_
    refine L.no rfl ?_
    refine L.no rfl ?_
    refine L.va rfl (X.pickT rfl (by conv => lhs; whnf)) ?_
    refine L.va rfl (X.move (by conv => lhs; whnf)) ?_
    refine L.no rfl ?_
    refine L.no rfl ?_
    refine L.no rfl ?_
    refine L.no rfl ?_
    refine L.no rfl ?_
    refine L.no rfl ?_
    refine L.va rfl (X.pickT rfl (by conv => lhs; whnf)) ?_
    refine L.nil ?_
    -- cond
    refine J.iteT rfl ?_
    rw [show decide (a.Eqv b) = false from decide_eq_false (fun e => h2 e.m)]
    refine J.seq ?_
    refine J.region ?_
    refine L.va rfl (X.assign (by conv => lhs; whnf)) ?_
    refine L.nil ?_
    -- ret
    refine J.ret ?_
    refine thn_ret <| ?_
    refine fin1 ?_
    exact ⟨rfl, he⟩
  refine L.va rfl (X.fieldAddr rfl Try.underlying54 rfl sz_52 (by decide)) ?_
  refine L.va rfl (X.load rfl sc_52 (by first | exact Ld.blk hk2 rfl | exact Ld.blk hk12 rfl)) ?_
  refine L.va rfl (X.len rfl Try.underlying52) ?_
  refine L.va rfl (X.fieldAddr rfl Try.underlying54 rfl sz_52 (by decide)) ?_
  refine L.va rfl (X.load rfl sc_52 (by first | exact Ld.blk hk2 rfl | exact Ld.blk hk12 rfl)) ?_
  refine L.va rfl (X.len rfl Try.underlying52) ?_
  refine L.va rfl (X.neq rfl rfl) ?_
  refine L.va rfl (X.pickF rfl (by conv => lhs; whnf)) ?_
  refine L.va rfl (X.move (by conv => lhs; whnf)) ?_
  -- case t28
  refine L.caseNdec (k := 28) rfl (fun h3 => ?_) (fun h3 => ?_)
  · refine L.no rfl ?_
    refine L.no rfl ?_
    refine L.no rfl ?_
    refine L.no rfl ?_
    refine L.no rfl ?_
    refine L.no rfl ?_
    refine L.no rfl ?_
    refine L.va rfl (X.pickT rfl (by conv => lhs; whnf)) ?_
    refine L.va rfl (X.move (by conv => lhs; whnf)) ?_
    refine L.no rfl ?_
    refine L.no rfl ?_
    refine L.no rfl ?_
    refine L.no rfl ?_
    refine L.no rfl ?_
    refine L.no rfl ?_
    refine L.va rfl (X.pickT rfl (by conv => lhs; whnf)) ?_
    refine L.nil ?_
    -- cond
    refine J.iteT rfl ?_
    rw [show decide (a.Eqv b) = false from decide_eq_false (fun e => h3 (by rw [← lc1, ← lc2, e.c]))]
    refine J.seq ?_
    refine J.region ?_
    refine L.va rfl (X.assign (by conv => lhs; whnf)) ?_
    refine L.nil ?_
    -- ret
    refine J.ret ?_
    refine thn_ret <| ?_
    refine fin1 ?_
    exact ⟨rfl, he⟩
  refine L.va rfl (X.fieldAddr rfl Try.underlying54 rfl sz_22 (by decide)) ?_
  refine L.va rfl (X.load rfl sc_22 (by first | exact Ld.blk hk2 rfl | exact Ld.blk hk12 rfl)) ?_
  refine L.va rfl (X.len rfl Try.underlying22) ?_
  refine L.va rfl (X.fieldAddr rfl Try.underlying54 rfl sz_22 (by decide)) ?_
  refine L.va rfl (X.load rfl sc_22 (by first | exact Ld.blk hk2 rfl | exact Ld.blk hk12 rfl)) ?_
  refine L.va rfl (X.len rfl Try.underlying22) ?_
  refine L.va rfl (X.neq rfl rfl) ?_
  refine L.va rfl (X.pickF rfl (by conv => lhs; whnf)) ?_
  refine L.va rfl (X.move (by conv => lhs; whnf)) ?_
  -- case t37
  refine L.caseNdec (k := 37) rfl (fun h4 => ?_) (fun h4 => ?_)
  · refine L.no rfl ?_
    refine L.no rfl ?_
    refine L.no rfl ?_
    refine L.no rfl ?_
    refine L.no rfl ?_
    refine L.no rfl ?_
    refine L.va rfl (X.pickT rfl (by conv => lhs; whnf)) ?_
    refine L.nil ?_
    -- cond
    refine J.iteT rfl ?_
    rw [show decide (a.Eqv b) = false from decide_eq_false (fun e => h4 (by rw [← lo1, ← lo2, e.o]))]
    refine J.seq ?_
    refine J.region ?_
    refine L.va rfl (X.assign (by conv => lhs; whnf)) ?_
    refine L.nil ?_
    -- ret
    refine J.ret ?_
    refine thn_ret <| ?_
    refine fin1 ?_
    exact ⟨rfl, he⟩
  refine L.va rfl (X.fieldAddr rfl Try.underlying54 rfl sz_51 (by decide)) ?_
  refine L.va rfl (X.load rfl sc_51 (by first | exact Ld.blk hk2 rfl | exact Ld.blk hk12 rfl)) ?_
  refine L.va rfl (X.fieldAddr rfl Try.underlying54 rfl sz_51 (by decide)) ?_
  refine L.va rfl (X.load rfl sc_51 (by first | exact Ld.blk hk2 rfl | exact Ld.blk hk12 rfl)) ?_
  -- callfn bushel/bushelref28.Same
  refine L.call rfl en_101 rfl (rsame28 (ha2.f.more z2) (hb2.f.more z2)) ?_
  rintro e w3 ⟨rfl, he3⟩
  refine ⟨_, rfl, ?_⟩
  have he03 := he.trans he3
  have z3 := he03.le
  have ha3 := ha2.ext he3
  have hb3 := hb2.ext he3
  replace hk2 := hk2.ext he3
  replace hk12 := hk12.ext he3
  refine L.va rfl (X.not rfl) ?_
  refine L.va rfl (X.pickF rfl (by conv => lhs; whnf)) ?_
  refine L.nil ?_
  -- cond
  by_cases h5 : a.f.l.map Fi.key = b.f.l.map Fi.key
  · rw [decide_eq_true h5]
    refine J.iteF rfl ?_
    refine J.skip ?_
    refine J.seq ?_
    refine J.seq ?_
    refine J.region ?_
    refine L.va rfl (X.assign (by conv => lhs; whnf)) ?_
    refine L.nil ?_
    refine J.block ?_
    -- loop
    refine J.loop (X := Nat) [4, 5, 45, 46, 47, 48, 49, 50, 51, 52, 53, 54, 55, 56, 57, 58, 59, 60, 61, 62] (fun i => [(5, .int .i64 (i : Int))]) (fun i w' => i ≤ a.nc ∧ (∀ j, j < i → a.c.getD j c0 = b.c.getD j c0) ∧ Ext w3 w') (fun i => a.nc - i) (0) (At1 (by first | rfl | exact at_int rfl (by omega) | exact at_slice rfl (by omega) | exact at_int rfl (by simp))) ?_ ?_
    · exact ⟨Nat.zero_le _, fun j hj => absurd hj (by omega), Ext.refl _⟩
    · rintro i g w4 ⟨hi, hP, he4⟩
      have hk4 := hk2.ext he4
      have hk14 := hk12.ext he4
      have k1 := ha3.c.ext he4
      have k2 := hb3.c.ext he4
      refine J.seq ?_
      refine J.seq ?_
      refine J.region ?_
      refine L.va rfl (X.move (by conv => lhs; whnf)) ?_
      refine L.va rfl (X.fieldAddr rfl Try.underlying54 rfl sz_52 (by decide)) ?_
      refine L.va rfl (X.load rfl sc_52 (by first | exact Ld.blk hk4 rfl | exact Ld.blk hk14 rfl)) ?_
      refine L.va rfl (X.len rfl Try.underlying52) ?_
      refine L.va rfl (X.lss rfl rfl) ?_
      refine L.nil ?_
      -- cond
      refine J.dec rfl (fun hlt => ?_) (fun hlt => ?_)
      · have hi1 : i < a.c.length := by omega
        have hi2 : i < b.c.length := by omega
        have hA := k1.some_ (by omega)
        have hB := k2.some_ (by omega)
        refine J.skip ?_
        refine J.seq ?_
        refine J.block ?_
        refine J.seq ?_
        -- draw
        refine J.quiet mixed (by kernel_rfl) ?_
        -- t56
        -- t61
        -- t62
        refine Qt.va rfl (fun w' hw => X.fieldAddr rfl Try.underlying54 rfl sz_52 (by decide)) ?_
        refine Qt.va rfl (fun w' hw => X.load rfl sc_52 (by first | exact Ld.blk (hk4.ext hw) rfl | exact Ld.blk (hk14.ext hw) rfl | exact hA | exact hB)) ?_
        refine Qt.va rfl (fun w' hw => X.move (by conv => lhs; whnf)) ?_
        refine Qt.va rfl (fun w' hw => (by first | exact X.indexAddrn rfl rfl Try.underlying52 sz_130 (by first | exact Option.some_ne_none _ | exact hA | exact hB) (by omega) | exact X.indexAddr rfl rfl Try.underlying52 sz_130 (by first | exact Option.some_ne_none _ | exact hA | exact hB) (by omega))) ?_
        refine Qt.va rfl (fun w' hw => X.loadRow (cs := cV (a.c.getD i c0)) rfl (k1.ext hw) (fun r u hu => flat_row cV_len (gtC hi1) r u hu) (Nat.zero_lt_succ _) Try.underlying130 rfl (by kernel_rfl)) ?_
        refine Qt.va rfl (fun w' hw => X.fieldAddr rfl Try.underlying54 rfl sz_52 (by decide)) ?_
        refine Qt.va rfl (fun w' hw => X.load rfl sc_52 (by first | exact Ld.blk (hk4.ext hw) rfl | exact Ld.blk (hk14.ext hw) rfl | exact hA | exact hB)) ?_
        refine Qt.va rfl (fun w' hw => X.move (by conv => lhs; whnf)) ?_
        refine Qt.va rfl (fun w' hw => (by first | exact X.indexAddrn rfl rfl Try.underlying52 sz_130 (by first | exact Option.some_ne_none _ | exact hA | exact hB) (by omega) | exact X.indexAddr rfl rfl Try.underlying52 sz_130 (by first | exact Option.some_ne_none _ | exact hA | exact hB) (by omega))) ?_
        refine Qt.va rfl (fun w' hw => X.loadRow (cs := cV (b.c.getD i c0)) rfl (k2.ext hw) (fun r u hu => flat_row cV_len (gtC hi2) r u hu) (Nat.zero_lt_succ _) Try.underlying130 rfl (by kernel_rfl)) ?_
        refine Qt.va rfl (fun w' hw => X.neqTwo two_col rfl rfl sc_3 sc_3 (eq_int Try.underlying3) (eq_int Try.underlying3)) ?_
        refine Qt.nil (fun w5 hq => ?_)
        replace hk4 := hk4.ext hq
        replace hk14 := hk14.ext hq
        -- cond
        by_cases hd : a.c.getD i c0 = b.c.getD i c0
        · rw [pneF hd]
          refine J.iteF rfl ?_
          refine J.skip ?_
          refine J.region ?_
          refine L.va rfl (X.move (by conv => lhs; whnf)) ?_
          refine L.va rfl (X.add rfl rfl (by omega)) ?_
          refine L.va rfl (X.assign (by conv => lhs; whnf)) ?_
          refine L.nil ?_
          -- loopend
          refine ⟨i + 1, At1 (by first | rfl | exact at_int rfl (by omega) | exact at_slice rfl (by omega) | exact at_int rfl (by simp)), (by (iterate 19 refine Agr.lk rfl ?_); exact Agr.lk rfl (Agr.hav rfl Agr.rfl')), ?_⟩
          refine ⟨⟨by omega, fun j hj => ?_, he4.trans hq⟩, by omega⟩
          rcases Nat.lt_or_ge j i with h | h
          · exact hP j h
          · obtain rfl : j = i := by omega
            exact hd
        · rw [show decide (a.Eqv b) = false from decide_eq_false (fun e => hd (by rw [e.c]))]
          rw [pneT hd]
          refine J.iteT rfl ?_
          refine J.seq ?_
          refine J.region ?_
          refine L.va rfl (X.assign (by conv => lhs; whnf)) ?_
          refine L.nil ?_
          -- ret
          refine J.ret ?_
          refine inB_ret <|  thn_ret <|  thn_ret <|  inB_ret <|  thn_ret <| ?_
          refine fin1 ?_
          exact ⟨rfl, (he03.trans he4).trans hq⟩
      · have hce : a.c = b.c := lst_eq c0 (by omega) (fun j hj => hP j (by omega))
        have he04 := he03.trans he4
        refine J.exit ?_
        refine J.seq ?_
        refine J.seq ?_
        refine J.region ?_
        refine L.va rfl (X.assign (by conv => lhs; whnf)) ?_
        refine L.nil ?_
        refine J.block ?_
        -- loop
        refine J.loop (X := Nat) [4, 6, 63, 64, 65, 66, 67, 68, 69, 70, 71, 72, 73, 74, 75, 76, 77, 78, 79, 80] (fun i => [(6, .int .i64 (i : Int))]) (fun i w' => i ≤ a.no ∧ (∀ j, j < i → a.o.getD j o0 = b.o.getD j o0) ∧ Ext w4 w') (fun i => a.no - i) (0) (At1 (by first | rfl | exact at_int rfl (by omega) | exact at_slice rfl (by omega) | exact at_int rfl (by simp))) ?_ ?_
        · exact ⟨Nat.zero_le _, fun j hj => absurd hj (by omega), Ext.refl _⟩
        · rintro j g w5 ⟨hj, hQ, he5⟩
          have hk5 := hk4.ext he5
          have hk15 := hk14.ext he5
          have k3 := (ha3.o.ext he4).ext he5
          have k4 := (hb3.o.ext he4).ext he5
          refine J.seq ?_
          refine J.seq ?_
          refine J.region ?_
          refine L.va rfl (X.move (by conv => lhs; whnf)) ?_
          refine L.va rfl (X.fieldAddr rfl Try.underlying54 rfl sz_22 (by decide)) ?_
          refine L.va rfl (X.load rfl sc_22 (by first | exact Ld.blk hk5 rfl | exact Ld.blk hk15 rfl)) ?_
          refine L.va rfl (X.len rfl Try.underlying22) ?_
          refine L.va rfl (X.lss rfl rfl) ?_
          refine L.nil ?_
          -- cond
          refine J.dec rfl (fun hlt2 => ?_) (fun hlt2 => ?_)
          · have hi1 : j < a.o.length := by omega
            have hi2 : j < b.o.length := by omega
            have hA := k3.some_ (by omega)
            have hB := k4.some_ (by omega)
            refine J.skip ?_
            refine J.seq ?_
            refine J.block ?_
            refine J.seq ?_
            -- draw
            refine J.quiet mixed (by kernel_rfl) ?_
            -- t74
            -- t79
            -- t80
            refine Qt.va rfl (fun w' hw => X.fieldAddr rfl Try.underlying54 rfl sz_22 (by decide)) ?_
            refine Qt.va rfl (fun w' hw => X.load rfl sc_22 (by first | exact Ld.blk (hk5.ext hw) rfl | exact Ld.blk (hk15.ext hw) rfl | exact hA | exact hB)) ?_
            refine Qt.va rfl (fun w' hw => X.move (by conv => lhs; whnf)) ?_
            refine Qt.va rfl (fun w' hw => (by first | exact X.indexAddrn rfl rfl Try.underlying22 sz_98 (by first | exact Option.some_ne_none _ | exact hA | exact hB) (by omega) | exact X.indexAddr rfl rfl Try.underlying22 sz_98 (by first | exact Option.some_ne_none _ | exact hA | exact hB) (by omega))) ?_
            refine Qt.va rfl (fun w' hw => X.loadRow (cs := oV (a.o.getD j o0)) rfl (k3.ext hw) (fun r u hu => flat_row oV_len (gtO hi1) r u hu) (Nat.zero_lt_succ _) Try.underlying98 rfl (by kernel_rfl)) ?_
            refine Qt.va rfl (fun w' hw => X.fieldAddr rfl Try.underlying54 rfl sz_22 (by decide)) ?_
            refine Qt.va rfl (fun w' hw => X.load rfl sc_22 (by first | exact Ld.blk (hk5.ext hw) rfl | exact Ld.blk (hk15.ext hw) rfl | exact hA | exact hB)) ?_
            refine Qt.va rfl (fun w' hw => X.move (by conv => lhs; whnf)) ?_
            refine Qt.va rfl (fun w' hw => (by first | exact X.indexAddrn rfl rfl Try.underlying22 sz_98 (by first | exact Option.some_ne_none _ | exact hA | exact hB) (by omega) | exact X.indexAddr rfl rfl Try.underlying22 sz_98 (by first | exact Option.some_ne_none _ | exact hA | exact hB) (by omega))) ?_
            refine Qt.va rfl (fun w' hw => X.loadRow (cs := oV (b.o.getD j o0)) rfl (k4.ext hw) (fun r u hu => flat_row oV_len (gtO hi2) r u hu) (Nat.zero_lt_succ _) Try.underlying98 rfl (by kernel_rfl)) ?_
            refine Qt.va rfl (fun w' hw => X.neqTwo two_srt rfl rfl sc_3 sc_4 (eq_int Try.underlying3) (eq_boo Try.underlying4)) ?_
            refine Qt.nil (fun w6 hq => ?_)
            replace hk5 := hk5.ext hq
            replace hk15 := hk15.ext hq
            -- cond
            by_cases hd : a.o.getD j o0 = b.o.getD j o0
            · rw [pneF hd]
              refine J.iteF rfl ?_
              refine J.skip ?_
              refine J.region ?_
              refine L.va rfl (X.move (by conv => lhs; whnf)) ?_
              refine L.va rfl (X.add rfl rfl (by omega)) ?_
              refine L.va rfl (X.assign (by conv => lhs; whnf)) ?_
              refine L.nil ?_
              -- loopend
              refine ⟨j + 1, At1 (by first | rfl | exact at_int rfl (by omega) | exact at_slice rfl (by omega) | exact at_int rfl (by simp)), (by (iterate 19 refine Agr.lk rfl ?_); exact Agr.lk rfl (Agr.hav rfl Agr.rfl')), ?_⟩
              refine ⟨⟨by omega, fun q hq' => ?_, he5.trans hq⟩, by omega⟩
              rcases Nat.lt_or_ge q j with h | h
              · exact hQ q h
              · obtain rfl : q = j := by omega
                exact hd
            · rw [show decide (a.Eqv b) = false from decide_eq_false (fun e => hd (by rw [e.o]))]
              rw [pneT hd]
              refine J.iteT rfl ?_
              refine J.seq ?_
              refine J.region ?_
              refine L.va rfl (X.assign (by conv => lhs; whnf)) ?_
              refine L.nil ?_
              -- ret
              refine J.ret ?_
              refine inB_ret <|  thn_ret <|  thn_ret <|  inB_ret <|  thn_ret <| ?_
              refine fin1 ?_
              exact ⟨rfl, (he04.trans he5).trans hq⟩
          · have hoe : a.o = b.o := lst_eq o0 (by omega) (fun q hq' => hQ q (by omega))
            rw [show decide (a.Eqv b) = true from decide_eq_true ⟨by omega, by omega, hce, hoe, h5⟩]
            refine J.exit ?_
            refine J.seq ?_
            refine J.region ?_
            refine L.va rfl (X.assign (by conv => lhs; whnf)) ?_
            refine L.nil ?_
            -- ret
            refine J.ret ?_
            refine fin1 ?_
            exact ⟨rfl, he04.trans he5⟩
  · rw [decide_eq_false h5]
    refine J.iteT rfl ?_
    rw [show decide (a.Eqv b) = false from decide_eq_false (fun e => h5 e.f)]
    refine J.seq ?_
    refine J.region ?_
    refine L.va rfl (X.assign (by conv => lhs; whnf)) ?_
    refine L.nil ?_
    -- ret
    refine J.ret ?_
    refine thn_ret <| ?_
    refine fin1 ?_
    exact ⟨rfl, he03⟩
end Go.Proofs.Ytlipeplfjkgamaa
