/-
  What is light: filters, queries.
-/
import Derived.Test.YtlipeplfjkgamaaWQryB
namespace Go.Proofs.Ytlipeplfjkgamaa
set_option maxRecDepth 100000
open Go.RowKit H
set_option linter.unusedVariables false
theorem light28 (f : Fis) (w : World) (hf : f.At w.heap.size w) : Calls Try.prog 48 #[f.val] w fun e w' => (∃ b, e = .returned (.bool b)) ∧ w = w' := by
  have hl := hf.l
  have hm := hf.m
  unfold maxLen at hm
  refine enter Try.func48 rfl (by kernel_rfl) ?_
  refine J.seq ?_
  refine J.region ?_
  refine L.va rfl (X.assign (by conv => lhs; whnf)) ?_
  refine L.nil ?_
  refine J.seq ?_
  refine J.seq ?_
  refine J.region ?_
  refine L.va rfl (X.move (by conv => lhs; whnf)) ?_
  refine L.va rfl (X.len rfl Try.underlying51) ?_
  refine L.va rfl (X.gtr rfl rfl) ?_
  refine L.nil ?_
  -- cond
  refine J.dec rfl (fun h1 => ?_) (fun h1 => ?_)
  · refine J.seq ?_
    refine J.region ?_
    refine L.va rfl (X.assign (by conv => lhs; whnf)) ?_
    refine L.nil ?_
    -- ret
    refine J.ret ?_
    refine thn_ret <| ?_
    refine fin1 ?_
    exact ⟨⟨_, rfl⟩, rfl⟩
  · refine J.skip ?_
    refine J.seq ?_
    refine J.seq ?_
    refine J.region ?_
    refine L.va rfl (X.assign (by conv => lhs; whnf)) ?_
    refine L.nil ?_
    refine J.block ?_
    -- loop
    refine J.loop (X := Nat) [2, 3, 7, 8, 9, 10, 11, 12, 13, 14, 15, 16, 17, 18, 19, 20, 21, 22, 23, 24, 25, 26, 27, 28, 29, 30, 31, 32, 33, 34, 35, 36, 37] (fun i => [(3, .int .i64 (i : Int))]) (fun i w' => w' = w ∧ i ≤ f.n) (fun i => f.n - i) (0) (At1 (by first | rfl | exact at_int rfl (by omega) | exact at_slice rfl (by omega) | exact at_int rfl (by simp))) ?_ ?_
    · exact ⟨rfl, Nat.zero_le _⟩
    · rintro i g w1 ⟨rfl, hi⟩
      refine J.seq ?_
      refine J.seq ?_
      refine J.region ?_
      refine L.va rfl (X.move (by conv => lhs; whnf)) ?_
      refine L.va rfl (X.move (by conv => lhs; whnf)) ?_
      refine L.va rfl (X.len rfl Try.underlying51) ?_
      refine L.va rfl (X.lss rfl rfl) ?_
      refine L.nil ?_
      -- cond
      refine J.dec rfl (fun hlt => ?_) (fun hlt => ?_)
      · have hA := hf.r.some_ (by omega)
        obtain ⟨x, hx⟩ : ∃ x, x = f.l.getD i fi0 := ⟨_, rfl⟩
        have hgt := gtF (l := f.l) (i := i) (by omega)
        rw [← hx] at hgt
        refine J.skip ?_
        refine J.seq ?_
        refine J.block ?_
        refine J.seq ?_
        refine J.region ?_
        refine L.va rfl (X.move (by conv => lhs; whnf)) ?_
        refine L.va rfl (X.move (by conv => lhs; whnf)) ?_
        refine L.va rfl ((by first | exact X.indexAddrn rfl rfl Try.underlying51 sz_150 (by first | exact Option.some_ne_none _ | exact hA) (by omega) | exact X.indexAddr rfl rfl Try.underlying51 sz_150 (by first | exact Option.some_ne_none _ | exact hA) (by omega))) ?_
        refine L.va rfl (X.fieldP rfl Try.underlying150 rfl sz_23 (by decide) (by first | exact Option.some_ne_none _ | exact hA)) ?_
        refine L.va rfl (X.load rfl sc_23 (by first | exact hA | exact Ld.flat2 fi_len hf.r hgt (r := 1) rfl)) ?_
        refine L.va rfl (X.len rfl Try.underlying23) ?_
        refine L.va rfl (X.gtr rfl rfl) ?_
        refine L.va rfl (X.move (by conv => lhs; whnf)) ?_
        -- case t20
        refine L.caseDec (k := 20) rfl (fun h2 => ?_) (fun h2 => ?_)
        · refine L.va rfl (X.move (by conv => lhs; whnf)) ?_
          refine L.va rfl (X.move (by conv => lhs; whnf)) ?_
          refine L.va rfl ((by first | exact X.indexAddrn rfl rfl Try.underlying51 sz_150 (by first | exact Option.some_ne_none _ | exact hA) (by omega) | exact X.indexAddr rfl rfl Try.underlying51 sz_150 (by first | exact Option.some_ne_none _ | exact hA) (by omega))) ?_
          refine L.va rfl (X.fieldP rfl Try.underlying150 rfl sz_23 (by decide) (by first | exact Option.some_ne_none _ | exact hA)) ?_
          refine L.va rfl (X.load rfl sc_23 (by first | exact hA | exact Ld.flat2 fi_len hf.r hgt (r := 1) rfl)) ?_
          refine L.va rfl (X.len rfl Try.underlying23) ?_
          refine L.va rfl (X.leq rfl rfl) ?_
          refine L.va rfl (X.pickT rfl (by conv => lhs; whnf)) ?_
          refine L.va rfl (X.move (by conv => lhs; whnf)) ?_
          -- case t29
          refine L.caseDec (k := 29) rfl (fun h3 => ?_) (fun h3 => ?_)
          · refine L.no rfl ?_
            refine L.no rfl ?_
            refine L.no rfl ?_
            refine L.no rfl ?_
            refine L.no rfl ?_
            refine L.no rfl ?_
            refine L.no rfl ?_
            refine L.va rfl (X.pickT rfl (by conv => lhs; whnf)) ?_
            refine L.nil ?_
            -- cond
            refine J.iteT rfl ?_
            refine J.seq ?_
            refine J.region ?_
            refine L.va rfl (X.assign (by conv => lhs; whnf)) ?_
            refine L.nil ?_
            -- ret
            refine J.ret ?_
            refine inB_ret <|  thn_ret <|  thn_ret <|  inB_ret <|  thn_ret <| ?_
            refine fin1 ?_
            exact ⟨⟨_, rfl⟩, rfl⟩
          · refine L.va rfl (X.move (by conv => lhs; whnf)) ?_
            refine L.va rfl (X.move (by conv => lhs; whnf)) ?_
            refine L.va rfl ((by first | exact X.indexAddrn rfl rfl Try.underlying51 sz_150 (by first | exact Option.some_ne_none _ | exact hA) (by omega) | exact X.indexAddr rfl rfl Try.underlying51 sz_150 (by first | exact Option.some_ne_none _ | exact hA) (by omega))) ?_
            refine L.va rfl (X.fieldP rfl Try.underlying150 rfl sz_23 (by decide) (by first | exact Option.some_ne_none _ | exact hA)) ?_
            refine L.va rfl (X.load rfl sc_23 (by first | exact hA | exact Ld.flat2 fi_len hf.r hgt (r := 1) rfl)) ?_
            refine L.va rfl (X.len rfl Try.underlying23) ?_
            refine L.va rfl (X.gtr rfl rfl) ?_
            refine L.va rfl (X.pickF rfl (by conv => lhs; whnf)) ?_
            refine L.nil ?_
            -- cond
            refine J.dec rfl (fun h4 => ?_) (fun h4 => ?_)
            · refine J.seq ?_
              refine J.region ?_
              refine L.va rfl (X.assign (by conv => lhs; whnf)) ?_
              refine L.nil ?_
              -- ret
              refine J.ret ?_
              refine inB_ret <|  thn_ret <|  thn_ret <|  inB_ret <|  thn_ret <| ?_
              refine fin1 ?_
              exact ⟨⟨_, rfl⟩, rfl⟩
            · refine J.skip ?_
              refine J.region ?_
              refine L.va rfl (X.move (by conv => lhs; whnf)) ?_
              refine L.va rfl (X.add rfl rfl (by omega)) ?_
              refine L.va rfl (X.assign (by conv => lhs; whnf)) ?_
              refine L.nil ?_
              -- loopend
              refine ⟨i + 1, At1 (by first | rfl | exact at_int rfl (by omega) | exact at_slice rfl (by omega) | exact at_int rfl (by simp)), (by (iterate 34 refine Agr.lk rfl ?_); exact Agr.lk rfl (Agr.hav rfl Agr.rfl')), ?_⟩
              exact ⟨⟨rfl, by omega⟩, by omega⟩
        · refine L.no rfl ?_
          refine L.no rfl ?_
          refine L.no rfl ?_
          refine L.no rfl ?_
          refine L.no rfl ?_
          refine L.no rfl ?_
          refine L.no rfl ?_
          refine L.va rfl (X.pickF rfl (by conv => lhs; whnf)) ?_
          refine L.va rfl (X.move (by conv => lhs; whnf)) ?_
          refine L.va rfl (X.move (by conv => lhs; whnf)) ?_
          refine L.va rfl (X.move (by conv => lhs; whnf)) ?_
          refine L.va rfl ((by first | exact X.indexAddrn rfl rfl Try.underlying51 sz_150 (by first | exact Option.some_ne_none _ | exact hA) (by omega) | exact X.indexAddr rfl rfl Try.underlying51 sz_150 (by first | exact Option.some_ne_none _ | exact hA) (by omega))) ?_
          refine L.va rfl (X.fieldP rfl Try.underlying150 rfl sz_23 (by decide) (by first | exact Option.some_ne_none _ | exact hA)) ?_
          refine L.va rfl (X.load rfl sc_23 (by first | exact hA | exact Ld.flat2 fi_len hf.r hgt (r := 1) rfl)) ?_
          refine L.va rfl (X.len rfl Try.underlying23) ?_
          refine L.va rfl (X.gtr rfl rfl) ?_
          refine L.va rfl (X.pickF rfl (by conv => lhs; whnf)) ?_
          refine L.nil ?_
          -- cond
          refine J.dec rfl (fun h4 => ?_) (fun h4 => ?_)
          · refine J.seq ?_
            refine J.region ?_
            refine L.va rfl (X.assign (by conv => lhs; whnf)) ?_
            refine L.nil ?_
            -- ret
            refine J.ret ?_
            refine inB_ret <|  thn_ret <|  thn_ret <|  inB_ret <|  thn_ret <| ?_
            refine fin1 ?_
            exact ⟨⟨_, rfl⟩, rfl⟩
          · refine J.skip ?_
            refine J.region ?_
            refine L.va rfl (X.move (by conv => lhs; whnf)) ?_
            refine L.va rfl (X.add rfl rfl (by omega)) ?_
            refine L.va rfl (X.assign (by conv => lhs; whnf)) ?_
            refine L.nil ?_
            -- loopend
            refine ⟨i + 1, At1 (by first | rfl | exact at_int rfl (by omega) | exact at_slice rfl (by omega) | exact at_int rfl (by simp)), (by (iterate 33 refine Agr.lk rfl ?_); exact Agr.lk rfl (Agr.hav rfl Agr.rfl')), ?_⟩
            exact ⟨⟨rfl, by omega⟩, by omega⟩
      · refine J.exit ?_
        refine J.seq ?_
        refine J.region ?_
        refine L.va rfl (X.assign (by conv => lhs; whnf)) ?_
        refine L.nil ?_
        -- ret
        refine J.ret ?_
        refine fin1 ?_
        exact ⟨⟨_, rfl⟩, rfl⟩
theorem light29 (q : Qu) {w : World} (hq : q.At w.heap.size w) : Calls Try.prog 30 #[q.val] w fun e w' => (∃ b, e = .returned (.bool b)) ∧ Ext w w' := by
  refine enter Try.func30 rfl (by kernel_rfl) ?_
  refine J.seq ?_
  refine J.region ?_
  -- box
  refine L.boxA (l := [_, _, _, _, _]) rfl rfl ?_
  intro b1 w1 hb1 hs1 hk1 he1
  have hk1 : Blk w1 b1 54 q.vs.toArray := hk1
  refine L.va rfl (X.assign (by conv => lhs; whnf)) ?_
  refine L.nil ?_
  refine J.seq ?_
  refine J.region ?_
  refine L.va rfl (X.fieldAddr rfl Try.underlying54 rfl sz_51 (by decide)) ?_
  refine L.va rfl (X.load rfl sc_51 (by first | exact Ld.blk hk1 rfl)) ?_
  -- callfn bushel/bushelref28.Light
  refine L.call rfl en_48 rfl (light28 q.f w1 ((hq.f.ext he1).more he1.le)) ?_
  rintro e _ ⟨⟨b, rfl⟩, rfl⟩
  refine ⟨_, rfl, ?_⟩
  refine L.va rfl (X.move (by conv => lhs; whnf)) ?_
  -- case t6
  cases b
  · refine L.caseBF (k := 6) rfl (by rfl) ?_
    refine L.no rfl ?_
    refine L.no rfl ?_
    refine L.no rfl ?_
    refine L.no rfl ?_
    refine L.va rfl (X.pickF rfl (by conv => lhs; whnf)) ?_
    refine L.va rfl (X.move (by conv => lhs; whnf)) ?_
    refine L.no rfl ?_
    refine L.no rfl ?_
    refine L.no rfl ?_
    refine L.no rfl ?_
    refine L.va rfl (X.pickF rfl (by conv => lhs; whnf)) ?_
    refine L.va rfl (X.assign (by conv => lhs; whnf)) ?_
    refine L.nil ?_
    -- ret
    refine J.ret ?_
    refine fin1 ?_
    exact ⟨⟨_, rfl⟩, he1⟩
  · refine L.caseBT (k := 6) rfl (by rfl) ?_
    refine L.va rfl (X.fieldAddr rfl Try.underlying54 rfl sz_52 (by decide)) ?_
    refine L.va rfl (X.load rfl sc_52 (by first | exact Ld.blk hk1 rfl)) ?_
    refine L.va rfl (X.len rfl Try.underlying52) ?_
    refine L.va rfl (X.leq rfl rfl) ?_
    refine L.va rfl (X.pickT rfl (by conv => lhs; whnf)) ?_
    refine L.va rfl (X.move (by conv => lhs; whnf)) ?_
    -- case t12
    refine L.caseDec (k := 12) rfl (fun h2 => ?_) (fun h2 => ?_)
    · refine L.va rfl (X.fieldAddr rfl Try.underlying54 rfl sz_22 (by decide)) ?_
      refine L.va rfl (X.load rfl sc_22 (by first | exact Ld.blk hk1 rfl)) ?_
      refine L.va rfl (X.len rfl Try.underlying22) ?_
      refine L.va rfl (X.leq rfl rfl) ?_
      refine L.va rfl (X.pickT rfl (by conv => lhs; whnf)) ?_
      refine L.va rfl (X.assign (by conv => lhs; whnf)) ?_
      refine L.nil ?_
      -- ret
      refine J.ret ?_
      refine fin1 ?_
      exact ⟨⟨_, rfl⟩, he1⟩
    · refine L.no rfl ?_
      refine L.no rfl ?_
      refine L.no rfl ?_
      refine L.no rfl ?_
      refine L.va rfl (X.pickF rfl (by conv => lhs; whnf)) ?_
      refine L.va rfl (X.assign (by conv => lhs; whnf)) ?_
      refine L.nil ?_
      -- ret
      refine J.ret ?_
      refine fin1 ?_
      exact ⟨⟨_, rfl⟩, he1⟩
end Go.Proofs.Ytlipeplfjkgamaa
