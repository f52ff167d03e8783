/-
  Schemas compared, in the program and in the reference; whether a schema holds a name of a kind.
-/
import Derived.Test.YtlohbkcedpkjaaaWDiffC
namespace Go.Proofs.Ytlohbkcedpkjaaa
set_option maxRecDepth 100000
open Go.RowKit H
set_option linter.unusedVariables false
namespace Sch
def eqv (s t : Sch) : Prop := s.ds = t.ds ∧ s.s1 = t.s1 ∧ s.s2 = t.s2 ∧ s.zs = t.zs
instance (s t : Sch) : Decidable (s.eqv t) := inferInstanceAs (Decidable (_ ∧ _))
theorem Here.len1 {s : Sch} {w : World} (h : s.Here w) : s.s1.length = s.n1 := by have := h.h1.1; simpa [strs] using this
theorem Here.len2 {s : Sch} {w : World} (h : s.Here w) : s.s2.length = s.n2 := by have := h.h2.1; simpa [strs] using this
theorem Here.rsame {s t : Sch} {w : World} (h : s.Here w) (k : t.Here w) : Calls Try.prog 39 #[s.val, t.val] w fun e w' => e = .returned (.bool (decide (s.eqv t))) ∧ Ext w w' := by
  have q1 := h.hle
  have q2 := k.hle
  have l1 := h.len
  have l2 := k.len
  refine enter Try.func39 rfl (by kernel_rfl) ?_
  refine J.seq ?_
  refine J.region ?_
  -- box
  refine L.boxA (l := [_, _, _, _]) rfl rfl ?_
  intro b1 w1 hb1 hs1 hk1 he1
  -- box
  refine L.boxA (l := [_, _, _, _]) rfl rfl ?_
  intro b2 w2 hb2 hs2 hk2 he2
  have hk12 := hk1.ext he2
  have he := he1.trans he2
  have hh := h.ext he
  have kk := k.ext he
  refine L.va rfl (X.assign (by conv => lhs; whnf)) ?_
  refine L.nil ?_
  refine J.seq ?_
  refine J.seq ?_
  refine J.region ?_
  refine L.va rfl (X.fieldAddr rfl Try.underlying34 rfl sz_30 (by decide)) ?_
  refine L.va rfl (X.load rfl sc_30 (by first | exact Ld.blk hk12 rfl | exact Ld.blk hk2 rfl)) ?_
  refine L.va rfl (X.len rfl Try.underlying30) ?_
  refine L.va rfl (X.fieldAddr rfl Try.underlying34 rfl sz_30 (by decide)) ?_
  refine L.va rfl (X.load rfl sc_30 (by first | exact Ld.blk hk12 rfl | exact Ld.blk hk2 rfl)) ?_
  refine L.va rfl (X.len rfl Try.underlying30) ?_
  refine L.va rfl (X.neq rfl rfl) ?_
  refine L.va rfl (X.move (by conv => lhs; whnf)) ?_
  -- case t13
  by_cases hn : s.nd = t.nd
  · refine L.caseNdecF (k := 13) rfl (by omega) ?_
    refine L.va rfl (X.fieldAddr rfl Try.underlying34 rfl sz_31 (by decide)) ?_
    refine L.va rfl (X.load rfl sc_31 (by first | exact Ld.blk hk12 rfl | exact Ld.blk hk2 rfl)) ?_
    refine L.va rfl (X.fieldAddr rfl Try.underlying34 rfl sz_31 (by decide)) ?_
    refine L.va rfl (X.load rfl sc_31 (by first | exact Ld.blk hk12 rfl | exact Ld.blk hk2 rfl)) ?_
    -- callfn bushel/bushelref10.Same
    refine L.call rfl en_86 rfl (rstreq_any s.A1 s.n1 s.c1 t.A1 t.n1 t.c1 s.s1 t.s1 _ hh.h1 kk.h1 (by omega) (by omega)) ?_
    rintro e w4 ⟨rfl, he4⟩
    refine ⟨_, rfl, ?_⟩
    have he4 : Ext w2 w4 := he4
    have hh4 := hh.ext he4
    have kk4 := kk.ext he4
    have he04 := he.trans he4
    replace hk12 := hk12.ext he4
    replace hk2 := hk2.ext he4
    refine L.va rfl (X.not rfl) ?_
    refine L.va rfl (X.pickF rfl (by conv => lhs; whnf)) ?_
    refine L.va rfl (X.move (by conv => lhs; whnf)) ?_
    -- case t21
    by_cases h2 : s.s1 = t.s1
    · rw [show (!decide (s.s1 = t.s1)) = false by simp [h2]]
      refine L.caseBF (k := 21) rfl (by rfl) ?_
      refine L.va rfl (X.fieldAddr rfl Try.underlying34 rfl sz_31 (by decide)) ?_
      refine L.va rfl (X.load rfl sc_31 (by first | exact Ld.blk hk12 rfl | exact Ld.blk hk2 rfl)) ?_
      refine L.va rfl (X.fieldAddr rfl Try.underlying34 rfl sz_31 (by decide)) ?_
      refine L.va rfl (X.load rfl sc_31 (by first | exact Ld.blk hk12 rfl | exact Ld.blk hk2 rfl)) ?_
      -- callfn bushel/bushelref10.Same
      refine L.call rfl en_86 rfl (rstreq_any s.A2 s.n2 s.c2 t.A2 t.n2 t.c2 s.s2 t.s2 _ hh4.h2 kk4.h2 (by omega) (by omega)) ?_
      rintro e w5 ⟨rfl, he5⟩
      refine ⟨_, rfl, ?_⟩
      have he5 : Ext w4 w5 := he5
      have hh5 := hh4.ext he5
      have kk5 := kk4.ext he5
      have he05 := he04.trans he5
      replace hk12 := hk12.ext he5
      replace hk2 := hk2.ext he5
      refine L.va rfl (X.not rfl) ?_
      refine L.va rfl (X.pickF rfl (by conv => lhs; whnf)) ?_
      refine L.va rfl (X.move (by conv => lhs; whnf)) ?_
      -- case t29
      by_cases h3 : s.s2 = t.s2
      · rw [show (!decide (s.s2 = t.s2)) = false by simp [h3]]
        refine L.caseBF (k := 29) rfl (by rfl) ?_
        refine L.va rfl (X.fieldAddr rfl Try.underlying34 rfl sz_32 (by decide)) ?_
        refine L.va rfl (X.load rfl sc_32 (by first | exact Ld.blk hk12 rfl | exact Ld.blk hk2 rfl)) ?_
        refine L.va rfl (X.fieldAddr rfl Try.underlying34 rfl sz_32 (by decide)) ?_
        refine L.va rfl (X.load rfl sc_32 (by first | exact Ld.blk hk12 rfl | exact Ld.blk hk2 rfl)) ?_
        -- callfn bushel/bushelref11.Masks
        refine L.call rfl en_76 rfl (rmasks_any s.Av s.nv s.cv t.Av t.nv t.cv s.zs t.zs _ hh5.hv kk5.hv (by omega) (by omega)) ?_
        rintro e w6 ⟨rfl, he6⟩
        refine ⟨_, rfl, ?_⟩
        have he6 : Ext w5 w6 := he6
        have he06 := he05.trans he6
        have hh6 := hh5.ext he6
        have kk6 := kk5.ext he6
        replace hk12 := hk12.ext he6
        replace hk2 := hk2.ext he6
        refine L.va rfl (X.not rfl) ?_
        refine L.va rfl (X.pickF rfl (by conv => lhs; whnf)) ?_
        refine L.nil ?_
        -- cond
        by_cases h4 : s.zs = t.zs
        · rw [show (!decide (s.zs = t.zs)) = false by simp [h4]]
          refine J.iteF rfl ?_
          refine J.skip ?_
          refine J.seq ?_
          refine J.seq ?_
          refine J.region ?_
          refine L.va rfl (X.assign (by conv => lhs; whnf)) ?_
          refine L.nil ?_
          refine J.block ?_
          -- loop
          refine J.loop (X := Nat) [4, 5, 37, 38, 39, 40, 41, 42, 43, 44, 45, 46, 47, 48, 49, 50, 51, 52, 53, 54] (fun i => [(5, .int .i64 (i : Int))]) (fun i w' => i ≤ s.nd ∧ (∀ j, j < i → s.ds.getD j d0 = t.ds.getD j d0) ∧ Ext w6 w') (fun i => s.nd - i) (0) (At1 (by first | rfl | exact at_int rfl (by omega) | exact at_slice rfl (by omega) | exact at_int rfl (by simp))) ?_ ?_
          · exact ⟨by omega, fun j hj => absurd hj (by omega), Ext.refl _⟩
          · rintro i g w7 ⟨hi, hP, he7⟩
            replace hk12 := hk12.ext he7
            replace hk2 := hk2.ext he7
            have hh7 := hh6.ext he7
            have kk7 := kk6.ext he7
            refine J.seq ?_
            refine J.seq ?_
            refine J.region ?_
            refine L.va rfl (X.move (by conv => lhs; whnf)) ?_
            refine L.va rfl (X.fieldAddr rfl Try.underlying34 rfl sz_30 (by decide)) ?_
            refine L.va rfl (X.load rfl sc_30 (by first | exact Ld.blk hk12 rfl | exact Ld.blk hk2 rfl)) ?_
            refine L.va rfl (X.len rfl Try.underlying30) ?_
            refine L.va rfl (X.lss rfl rfl) ?_
            refine L.nil ?_
            -- cond
            refine J.dec rfl (fun hlt => ?_) (fun hlt => ?_)
            · have hi1 : i < s.ds.length := by omega
              have hi2 : i < t.ds.length := by omega
              have d1 := hh7.hd
              have d2 := kk7.hd
              refine J.skip ?_
              refine J.seq ?_
              refine J.block ?_
              refine J.seq ?_
              -- draw
              refine J.quiet mixed (by kernel_rfl) ?_
              -- t48
              -- t53
              -- t54
              refine Qt.va rfl (fun w' hw => X.fieldAddr rfl Try.underlying34 rfl sz_30 (by decide)) ?_
              refine Qt.va rfl (fun w' hw => X.load rfl sc_30 (by first | exact Ld.blk (hk12.ext hw) rfl | exact Ld.blk (hk2.ext hw) rfl | exact Ld.rd (d1.ext hw) (by omega) | exact Ld.rd (d2.ext hw) (by omega))) ?_
              refine Qt.va rfl (fun w' hw => X.move (by conv => lhs; whnf)) ?_
              refine Qt.va rfl (fun w' hw => (by first | exact X.indexAddrn rfl rfl Try.underlying30 sz_88 (by first | exact Option.some_ne_none _ | exact d1.some_ (by omega) | exact d2.some_ (by omega)) (by omega) | exact X.indexAddr rfl rfl Try.underlying30 sz_88 (by first | exact Option.some_ne_none _ | exact d1.some_ (by omega) | exact d2.some_ (by omega)) (by omega))) ?_
              refine Qt.va rfl (fun w' hw => X.loadRow (cs := [.string (s.ds.getD i d0).1, .int .i64 (s.ds.getD i d0).2]) rfl (d1.ext hw) (dims_row hi1) (Nat.zero_lt_succ _) Try.underlying88 rfl (by kernel_rfl)) ?_
              refine Qt.va rfl (fun w' hw => X.fieldAddr rfl Try.underlying34 rfl sz_30 (by decide)) ?_
              refine Qt.va rfl (fun w' hw => X.load rfl sc_30 (by first | exact Ld.blk (hk12.ext hw) rfl | exact Ld.blk (hk2.ext hw) rfl | exact Ld.rd (d1.ext hw) (by omega) | exact Ld.rd (d2.ext hw) (by omega))) ?_
              refine Qt.va rfl (fun w' hw => X.move (by conv => lhs; whnf)) ?_
              refine Qt.va rfl (fun w' hw => (by first | exact X.indexAddrn rfl rfl Try.underlying30 sz_88 (by first | exact Option.some_ne_none _ | exact d1.some_ (by omega) | exact d2.some_ (by omega)) (by omega) | exact X.indexAddr rfl rfl Try.underlying30 sz_88 (by first | exact Option.some_ne_none _ | exact d1.some_ (by omega) | exact d2.some_ (by omega)) (by omega))) ?_
              refine Qt.va rfl (fun w' hw => X.loadRow (cs := [.string (t.ds.getD i d0).1, .int .i64 (t.ds.getD i d0).2]) rfl (d2.ext hw) (dims_row hi2) (Nat.zero_lt_succ _) Try.underlying88 rfl (by kernel_rfl)) ?_
              refine Qt.va rfl (fun w' hw => X.neqTwo two_dim rfl rfl sc_9 sc_3 (eq_str Try.underlying9) (eq_int Try.underlying3)) ?_
              refine Qt.nil (fun w8 hq => ?_)
              replace hk12 := hk12.ext hq
              replace hk2 := hk2.ext hq
              replace d1 := d1.ext hq
              replace d2 := d2.ext hq
              -- cond
              by_cases hd : s.ds.getD i d0 = t.ds.getD i d0
              · rw [dneF hd]
                refine J.iteF rfl ?_
                refine J.skip ?_
                refine J.region ?_
                refine L.va rfl (X.move (by conv => lhs; whnf)) ?_
                refine L.va rfl (X.add rfl rfl (by omega)) ?_
                refine L.va rfl (X.assign (by conv => lhs; whnf)) ?_
                refine L.nil ?_
                -- loopend
                refine ⟨i + 1, At1 (by first | rfl | exact at_int rfl (by omega) | exact at_slice rfl (by omega) | exact at_int rfl (by simp)), (by (iterate 19 refine Agr.lk rfl ?_); exact Agr.lk rfl (Agr.hav rfl Agr.rfl')), ?_⟩
                refine ⟨⟨by omega, fun j hj => ?_, he7.trans hq⟩, by omega⟩
                rcases Nat.lt_or_ge j i with h | h
                · exact hP j h
                · obtain rfl : j = i := by omega
                  exact hd
              · rw [show decide (s.eqv t) = false from decide_eq_false fun e => hd (by rw [e.1])]
                rw [dneT hd]
                refine J.iteT rfl ?_
                refine J.seq ?_
                refine J.region ?_
                refine L.va rfl (X.assign (by conv => lhs; whnf)) ?_
                refine L.nil ?_
                -- ret
                refine J.ret ?_
                refine inB_ret <|  thn_ret <|  thn_ret <|  inB_ret <|  thn_ret <| ?_
                refine fin1 ?_
                exact ⟨rfl, (he06.trans he7).trans hq⟩
            · rw [show decide (s.eqv t) = true from decide_eq_true ⟨lst_eq d0 (by omega) (fun j hj => hP j (by omega)), h2, h3, h4⟩]
              refine J.exit ?_
              refine J.seq ?_
              refine J.region ?_
              refine L.va rfl (X.assign (by conv => lhs; whnf)) ?_
              refine L.nil ?_
              -- ret
              refine J.ret ?_
              refine fin1 ?_
              exact ⟨rfl, he06.trans he7⟩
        · rw [show decide (s.eqv t) = false from decide_eq_false fun e => h4 e.2.2.2]
          rw [show (!decide (s.zs = t.zs)) = true by simp [h4]]
          refine J.iteT rfl ?_
          refine J.seq ?_
          refine J.region ?_
          refine L.va rfl (X.assign (by conv => lhs; whnf)) ?_
          refine L.nil ?_
          -- ret
          refine J.ret ?_
          refine thn_ret <| ?_
          refine fin1 ?_
          exact ⟨rfl, he06⟩
      · rw [show decide (s.eqv t) = false from decide_eq_false fun e => h3 e.2.2.1]
        rw [show (!decide (s.s2 = t.s2)) = true by simp [h3]]
        refine L.caseBT (k := 29) rfl (by rfl) ?_
        refine L.no rfl ?_
        refine L.no rfl ?_
        refine L.no rfl ?_
        refine L.no rfl ?_
        refine L.no rfl ?_
        refine L.no rfl ?_
        refine L.va rfl (X.pickT rfl (by conv => lhs; whnf)) ?_
        refine L.nil ?_
        -- cond
        refine J.iteT rfl ?_
        refine J.seq ?_
        refine J.region ?_
        refine L.va rfl (X.assign (by conv => lhs; whnf)) ?_
        refine L.nil ?_
        -- ret
        refine J.ret ?_
        refine thn_ret <| ?_
        refine fin1 ?_
        exact ⟨rfl, he05⟩
    · rw [show decide (s.eqv t) = false from decide_eq_false fun e => h2 e.2.1]
      rw [show (!decide (s.s1 = t.s1)) = true by simp [h2]]
      refine L.caseBT (k := 21) rfl (by rfl) ?_
      refine L.no rfl ?_
      refine L.no rfl ?_
      refine L.no rfl ?_
      refine L.no rfl ?_
      refine L.no rfl ?_
      refine L.no rfl ?_
      refine L.va rfl (X.pickT rfl (by conv => lhs; whnf)) ?_
      refine L.va rfl (X.move (by conv => lhs; whnf)) ?_
      refine L.no rfl ?_
      refine L.no rfl ?_
      refine L.no rfl ?_
      refine L.no rfl ?_
      refine L.no rfl ?_
      refine L.no rfl ?_
      refine L.va rfl (X.pickT rfl (by conv => lhs; whnf)) ?_
      refine L.nil ?_
      -- cond
      refine J.iteT rfl ?_
      refine J.seq ?_
      refine J.region ?_
      refine L.va rfl (X.assign (by conv => lhs; whnf)) ?_
      refine L.nil ?_
      -- ret
      refine J.ret ?_
      refine thn_ret <| ?_
      refine fin1 ?_
      exact ⟨rfl, he04⟩
  · rw [show decide (s.eqv t) = false from decide_eq_false fun e => hn (by rw [← l1, ← l2, e.1])]
    refine L.caseNdecT (k := 13) rfl (by omega) ?_
    refine L.no rfl ?_
    refine L.no rfl ?_
    refine L.no rfl ?_
    refine L.no rfl ?_
    refine L.no rfl ?_
    refine L.no rfl ?_
    refine L.va rfl (X.pickT rfl (by conv => lhs; whnf)) ?_
    refine L.va rfl (X.move (by conv => lhs; whnf)) ?_
    refine L.no rfl ?_
    refine L.no rfl ?_
    refine L.no rfl ?_
    refine L.no rfl ?_
    refine L.no rfl ?_
    refine L.no rfl ?_
    refine L.va rfl (X.pickT rfl (by conv => lhs; whnf)) ?_
    refine L.va rfl (X.move (by conv => lhs; whnf)) ?_
    refine L.no rfl ?_
    refine L.no rfl ?_
    refine L.no rfl ?_
    refine L.no rfl ?_
    refine L.no rfl ?_
    refine L.no rfl ?_
    refine L.va rfl (X.pickT rfl (by conv => lhs; whnf)) ?_
    refine L.nil ?_
    -- cond
    refine J.iteT rfl ?_
    refine J.seq ?_
    refine J.region ?_
    refine L.va rfl (X.assign (by conv => lhs; whnf)) ?_
    refine L.nil ?_
    -- ret
    refine J.ret ?_
    refine thn_ret <| ?_
    refine fin1 ?_
    exact ⟨rfl, he⟩
end Sch
end Go.Proofs.Ytlohbkcedpkjaaa
