/-
  Orders: lists of rows that say the same; the example of chapter 33; rows that are handed in.
-/
import Derived.Test.YtmnlaekcojblkaaWOrdJ
namespace Go.Proofs.Ytmnlaekcojblkaa
set_option maxRecDepth 100000
open Go.RowKit H
open Odr Tou Flo
set_option linter.unusedVariables false
theorem vl_self (v : Vl) : v.same v = true := by
  unfold Vl.same sameF
  rw [if_pos rfl, decide_eq_true rfl, decide_eq_true rfl]
  split <;> rfl
theorem say_same {a b : Rw} (h : a.say = b.say) : a.same b = true := by
  have h1 : a.c = b.c := congrArg Prod.fst h
  have h2 : a.v = b.v := congrArg Prod.snd h
  unfold Rw.same
  rw [h1, h2, eqI_self, Bool.true_and]
  exact eqL_yes rfl (fun i _ => vl_self _)
theorem rall (a b : Rws) (w : World) (ha : a.At w.heap.size w) (hb : b.At w.heap.size w) (hm : a.n ≤ 1000) (h : a.l.map Rw.say = b.l.map Rw.say) : Calls Try.prog 17 #[a.val, b.val] w fun e w' => e = .returned (.bool true) ∧ Ext w w' := by
  have la := ha.l
  have lb := hb.l
  have hlen : a.n = b.n := by
    have := congrArg List.length h
    rw [List.length_map, List.length_map] at this
    omega
  refine enter Try.func17 rfl (by kernel_rfl) ?_
  refine J.seq ?_
  refine J.region ?_
  refine L.va rfl (X.assign (by conv => lhs; whnf)) ?_
  refine L.nil ?_
  refine J.seq ?_
  refine J.seq ?_
  refine J.region ?_
  refine L.va rfl (X.move (by conv => lhs; whnf)) ?_
  refine L.va rfl (X.len rfl Try.underlying23) ?_
  refine L.va rfl (X.move (by conv => lhs; whnf)) ?_
  refine L.va rfl (X.len rfl Try.underlying23) ?_
  refine L.va rfl (X.neq rfl rfl) ?_
  refine L.nil ?_
  -- cond
  refine J.ndecF rfl (by omega) ?_
  refine J.skip ?_
  refine J.seq ?_
  refine J.seq ?_
  refine J.region ?_
  refine L.va rfl (X.assign (by conv => lhs; whnf)) ?_
  refine L.nil ?_
  refine J.block ?_
  -- loop
  refine J.loop (X := Nat) [4, 5, 11, 12, 13, 14, 15, 16, 17, 18, 19, 20, 21, 22, 23, 24, 25, 26] (fun i => [(5, .int .i64 (i : Int))]) (fun i w' => i ≤ a.n ∧ Ext w w') (fun i => a.n - i) (0) (At1 (by first | rfl | exact at_int rfl (by omega) | exact at_slice rfl (by omega) | exact at_int rfl (by simp))) ?_ ?_
  · exact ⟨Nat.zero_le _, Ext.refl _⟩
  · rintro i g w2 ⟨hi, he2⟩
    have A2 := ha.ext he2
    have B2 := hb.ext he2
    refine J.seq ?_
    refine J.seq ?_
    refine J.region ?_
    refine L.va rfl (X.move (by conv => lhs; whnf)) ?_
    refine L.va rfl (X.move (by conv => lhs; whnf)) ?_
    refine L.va rfl (X.len rfl Try.underlying23) ?_
    refine L.va rfl (X.lss rfl rfl) ?_
    refine L.nil ?_
    -- cond
    refine J.dec rfl (fun hlt => ?_) (fun hlt => ?_)
    · have hA1 := A2.r.some_ (by omega)
      have hA2 := B2.r.some_ (by omega)
      obtain ⟨x, hx⟩ : ∃ x, x = a.l.getD i rw0 := ⟨_, rfl⟩
      have gx := gtR (l := a.l) (i := i) (by omega)
      have mx := memR (l := a.l) (i := i) (by omega)
      obtain ⟨y, hy⟩ : ∃ y, y = b.l.getD i rw0 := ⟨_, rfl⟩
      have gy := gtR (l := b.l) (i := i) (by omega)
      have my := memR (l := b.l) (i := i) (by omega)
      rw [← hx] at gx mx
      rw [← hy] at gy my
      have hs : x.say = y.say := by
        have e1 : (a.l.map Rw.say)[i]? = some x.say := by rw [List.getElem?_map, gx]; rfl
        have e2 : (b.l.map Rw.say)[i]? = some y.say := by rw [List.getElem?_map, gy]; rfl
        rw [h] at e1
        exact Option.some.inj (e1.symm.trans e2)
      have c1 := fun (w' : World) (hw : Ext w2 w') => rsame33 x y w' (((A2.h x mx).ext hw).more (he2.trans hw).le) (((B2.h y my).ext hw).more (he2.trans hw).le)
      rw [say_same hs] at c1
      refine J.skip ?_
      refine J.seq ?_
      refine J.block ?_
      refine J.seq ?_
      -- draw
      refine J.quiet mixed (by kernel_rfl) ?_
      -- t20
      -- t24
      refine Qt.va rfl (fun w' hw => X.move (by conv => lhs; whnf)) ?_
      refine Qt.va rfl (fun w' hw => X.move (by conv => lhs; whnf)) ?_
      refine Qt.va rfl (fun w' hw => (by first | exact X.indexAddrn rfl rfl Try.underlying23 sz_32 (by first | exact Option.some_ne_none _ | exact hA1 | exact hA2) (by omega) | exact X.indexAddr rfl rfl Try.underlying23 sz_32 (by first | exact Option.some_ne_none _ | exact hA1 | exact hA2) (by omega))) ?_
      refine Qt.va rfl (fun w' hw => X.loadRow (cs := x.vs) rfl (A2.r.ext hw) (fun r u hu => flat_row rw_len gx r u hu) (Nat.zero_lt_succ _) Try.underlying32 rfl (by kernel_rfl)) ?_
      refine Qt.va rfl (fun w' hw => X.move (by conv => lhs; whnf)) ?_
      refine Qt.va rfl (fun w' hw => X.move (by conv => lhs; whnf)) ?_
      refine Qt.va rfl (fun w' hw => (by first | exact X.indexAddrn rfl rfl Try.underlying23 sz_32 (by first | exact Option.some_ne_none _ | exact hA1 | exact hA2) (by omega) | exact X.indexAddr rfl rfl Try.underlying23 sz_32 (by first | exact Option.some_ne_none _ | exact hA1 | exact hA2) (by omega))) ?_
      refine Qt.va rfl (fun w' hw => X.loadRow (cs := y.vs) rfl (B2.r.ext hw) (fun r u hu => flat_row rw_len gy r u hu) (Nat.zero_lt_succ _) Try.underlying32 rfl (by kernel_rfl)) ?_
      -- callfn bushel/bushelref33.Same
      refine Qt.call rfl en_26 rfl (fun w' hw => calls_ext hw (c1 w' hw)) ?_
      refine Qt.va rfl (fun w' hw => X.not rfl) ?_
      refine Qt.nil (fun w3 hq => ?_)
      -- cond
      refine J.iteF rfl ?_
      refine J.skip ?_
      refine J.region ?_
      refine L.va rfl (X.move (by conv => lhs; whnf)) ?_
      refine L.va rfl (X.add rfl rfl (by omega)) ?_
      refine L.va rfl (X.assign (by conv => lhs; whnf)) ?_
      refine L.nil ?_
      -- loopend
      refine ⟨i + 1, At1 (by first | rfl | exact at_int rfl (by omega) | exact at_slice rfl (by omega) | exact at_int rfl (by simp)), (by (iterate 17 refine Agr.lk rfl ?_); exact Agr.lk rfl (Agr.hav rfl Agr.rfl')), ?_⟩
      exact ⟨⟨by omega, he2.trans hq⟩, by omega⟩
    · refine J.exit ?_
      refine J.seq ?_
      refine J.region ?_
      refine L.va rfl (X.assign (by conv => lhs; whnf)) ?_
      refine L.nil ?_
      -- ret
      refine J.ret ?_
      refine fin1 ?_
      exact ⟨rfl, he2⟩
end Go.Proofs.Ytmnlaekcojblkaa
