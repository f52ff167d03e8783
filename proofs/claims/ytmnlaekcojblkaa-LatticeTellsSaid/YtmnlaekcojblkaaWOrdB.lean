/-
  Orders: the value of a row, in the program and in the reference (printed by tools/gen_ord.py).
-/
import Derived.Test.YtmnlaekcojblkaaWOrdA
namespace Go.Proofs.Ytmnlaekcojblkaa
set_option maxRecDepth 100000
open Go.RowKit H
open Byts Cod Flo Odr
set_option linter.unusedVariables false
theorem oval (r : Rw) (c : Int) (w : World) (hr : r.At w.heap.size w) : Calls Try.prog 74 #[r.val, .int .i64 c] w fun e w' => e = .returned (valAt r c).val ∧ Ext w w' := by
  have hl := hr.lv
  have hm := hr.n2
  unfold maxLen at hm
  refine enter Try.func74 rfl (by kernel_rfl) ?_
  refine J.seq ?_
  refine J.region ?_
  -- box
  refine L.boxA (l := [_, _]) rfl rfl ?_
  intro b1 w1 hb1 hs1 hk1 he1
  -- alloc
  refine L.alloc rfl zr_102 ?_
  intro b2 w2 hb2 hs2 hk2 he2
  have hk12 := hk1.ext he2
  have he02 := he1.trans he2
  have hk12 : Blk w2 b1 32 r.vs.toArray := hk12
  refine L.nil ?_
  refine J.seq ?_
  refine J.seq ?_
  refine J.region ?_
  refine L.va rfl (X.move (by conv => lhs; whnf)) ?_
  refine L.va rfl (X.lss rfl rfl) ?_
  refine L.va rfl (X.move (by conv => lhs; whnf)) ?_
  -- case t7
  refine L.caseDec (k := 7) rfl (fun h1 => ?_) (fun h1 => ?_)
  · have e : valAt r c = Vl.z := by unfold valAt; rw [if_pos (.inl h1)]
    rw [e]
    refine L.no rfl ?_
    refine L.no rfl ?_
    refine L.no rfl ?_
    refine L.no rfl ?_
    refine L.no rfl ?_
    refine L.va rfl (X.pickT rfl (by conv => lhs; whnf)) ?_
    refine L.nil ?_
    -- cond
    refine J.iteT rfl ?_
    refine J.seq ?_
    refine J.region ?_
    refine L.va rfl (X.build (l := [_, _, _]) Evs.nil (bld_run Try.underlying102 (bp_102 Try.underlying102) zr_102 rfl)) ?_
    -- store
    refine L.storeAgg (vs := [_, _, _]) rfl rfl rfl rfl sz_102 (hk2) rfl ?_
    intro w3 hk3 hg3 hs3
    have he03 : Ext w w3 := he02.grw hg3 (by intro g hg; injection hg with hg; omega)
    have hk3 : Blk w3 b2 102 Vl.z.vs.toArray := hk3
    refine L.nil ?_
    -- ret
    refine J.ret ?_
    refine thn_ret <| ?_
    -- results [['ResultVar.cell', 4, 102]]
    refine finC rfl (run_cell hk3 Try.underlying102 rfl (by kernel_rfl)) ?_
    exact ⟨rfl, he03⟩
  · refine L.va rfl (X.move (by conv => lhs; whnf)) ?_
    refine L.va rfl (X.fieldAddr rfl Try.underlying32 rfl sz_30 (by decide)) ?_
    refine L.va rfl (X.load rfl sc_30 (by first | exact Ld.blk hk12 rfl)) ?_
    refine L.va rfl (X.len rfl Try.underlying30) ?_
    refine L.va rfl (X.geq rfl rfl) ?_
    refine L.va rfl (X.pickF rfl (by conv => lhs; whnf)) ?_
    refine L.nil ?_
    -- cond
    refine J.dec rfl (fun h2 => ?_) (fun h2 => ?_)
    · have e : valAt r c = Vl.z := by unfold valAt; rw [if_pos (.inr (by omega))]
      rw [e]
      refine J.seq ?_
      refine J.region ?_
      refine L.va rfl (X.build (l := [_, _, _]) Evs.nil (bld_run Try.underlying102 (bp_102 Try.underlying102) zr_102 rfl)) ?_
      -- store
      refine L.storeAgg (vs := [_, _, _]) rfl rfl rfl rfl sz_102 (hk2) rfl ?_
      intro w3 hk3 hg3 hs3
      have he03 : Ext w w3 := he02.grw hg3 (by intro g hg; injection hg with hg; omega)
      have hk3 : Blk w3 b2 102 Vl.z.vs.toArray := hk3
      refine L.nil ?_
      -- ret
      refine J.ret ?_
      refine thn_ret <| ?_
      -- results [['ResultVar.cell', 4, 102]]
      refine finC rfl (run_cell hk3 Try.underlying102 rfl (by kernel_rfl)) ?_
      exact ⟨rfl, he03⟩
    · obtain ⟨i, rfl⟩ := Int.eq_ofNat_of_zero_le (show 0 ≤ c by omega)
      have hin : i < r.nv := by omega
      have e : valAt r (i : Int) = r.v.getD i Vl.z := by unfold valAt; rw [if_neg (by omega), Int.toNat_natCast]
      have hv := hr.hv.ext he02
      have hA := hv.some_ (by omega)
      rw [e]
      obtain ⟨x, hx⟩ : ∃ x, x = r.v.getD i Vl.z := ⟨_, rfl⟩
      have hgt := gtV (l := r.v) (i := i) (by omega)
      rw [← hx] at hgt ⊢
      -- t19
      refine J.skip ?_
      refine J.seq ?_
      refine J.region ?_
      refine L.va rfl (X.fieldAddr rfl Try.underlying32 rfl sz_30 (by decide)) ?_
      refine L.va rfl (X.load rfl sc_30 (by first | exact Ld.blk hk12 rfl | exact hA)) ?_
      refine L.va rfl (X.move (by conv => lhs; whnf)) ?_
      refine L.va rfl ((by first | exact X.indexAddrn rfl rfl Try.underlying30 sz_102 (by first | exact Option.some_ne_none _ | exact hA) (by omega) | exact X.indexAddr rfl rfl Try.underlying30 sz_102 (by first | exact Option.some_ne_none _ | exact hA) (by omega))) ?_
      refine L.va rfl (X.loadRow (cs := x.vs) rfl hv (fun r u hu => flat_row vs_len hgt r u hu) (Nat.zero_lt_succ _) Try.underlying102 rfl (by kernel_rfl)) ?_
      -- store
      refine L.storeAgg (vs := [_, _, _]) rfl rfl rfl rfl sz_102 (hk2) rfl ?_
      intro w3 hk3 hg3 hs3
      have he03 : Ext w w3 := he02.grw hg3 (by intro g hg; injection hg with hg; omega)
      have hk3 : Blk w3 b2 102 x.vs.toArray := hk3
      refine L.nil ?_
      -- ret
      refine J.ret ?_
      -- results [['ResultVar.cell', 4, 102]]
      refine finC rfl (run_cell hk3 Try.underlying102 rfl (by kernel_rfl)) ?_
      exact ⟨rfl, he03⟩
theorem rval (r : Rw) (c : Int) (w : World) (hr : r.At w.heap.size w) : Calls Try.prog 77 #[r.val, .int .i64 c] w fun e w' => e = .returned (valAt r c).val ∧ Ext w w' := by
  have hl := hr.lv
  have hm := hr.n2
  unfold maxLen at hm
  refine enter Try.func77 rfl (by kernel_rfl) ?_
  refine J.seq ?_
  refine J.region ?_
  -- box
  refine L.boxA (l := [_, _]) rfl rfl ?_
  intro b1 w1 hb1 hs1 hk1 he1
  -- alloc
  refine L.alloc rfl zr_102 ?_
  intro b2 w2 hb2 hs2 hk2 he2
  have hk12 := hk1.ext he2
  have he02 := he1.trans he2
  have hk12 : Blk w2 b1 32 r.vs.toArray := hk12
  refine L.nil ?_
  refine J.seq ?_
  refine J.seq ?_
  refine J.region ?_
  refine L.va rfl (X.move (by conv => lhs; whnf)) ?_
  refine L.va rfl (X.lss rfl rfl) ?_
  refine L.va rfl (X.move (by conv => lhs; whnf)) ?_
  -- case t7
  refine L.caseDec (k := 7) rfl (fun h1 => ?_) (fun h1 => ?_)
  · have e : valAt r c = Vl.z := by unfold valAt; rw [if_pos (.inl h1)]
    rw [e]
    refine L.no rfl ?_
    refine L.no rfl ?_
    refine L.no rfl ?_
    refine L.no rfl ?_
    refine L.no rfl ?_
    refine L.va rfl (X.pickT rfl (by conv => lhs; whnf)) ?_
    refine L.nil ?_
    -- cond
    refine J.iteT rfl ?_
    refine J.seq ?_
    refine J.region ?_
    refine L.va rfl (X.build (l := [_, _, _]) Evs.nil (bld_run Try.underlying102 (bp_102 Try.underlying102) zr_102 rfl)) ?_
    -- store
    refine L.storeAgg (vs := [_, _, _]) rfl rfl rfl rfl sz_102 (hk2) rfl ?_
    intro w3 hk3 hg3 hs3
    have he03 : Ext w w3 := he02.grw hg3 (by intro g hg; injection hg with hg; omega)
    have hk3 : Blk w3 b2 102 Vl.z.vs.toArray := hk3
    refine L.nil ?_
    -- ret
    refine J.ret ?_
    refine thn_ret <| ?_
    -- results [['ResultVar.cell', 4, 102]]
    refine finC rfl (run_cell hk3 Try.underlying102 rfl (by kernel_rfl)) ?_
    exact ⟨rfl, he03⟩
  · refine L.va rfl (X.move (by conv => lhs; whnf)) ?_
    refine L.va rfl (X.fieldAddr rfl Try.underlying32 rfl sz_30 (by decide)) ?_
    refine L.va rfl (X.load rfl sc_30 (by first | exact Ld.blk hk12 rfl)) ?_
    refine L.va rfl (X.len rfl Try.underlying30) ?_
    refine L.va rfl (X.geq rfl rfl) ?_
    refine L.va rfl (X.pickF rfl (by conv => lhs; whnf)) ?_
    refine L.nil ?_
    -- cond
    refine J.dec rfl (fun h2 => ?_) (fun h2 => ?_)
    · have e : valAt r c = Vl.z := by unfold valAt; rw [if_pos (.inr (by omega))]
      rw [e]
      refine J.seq ?_
      refine J.region ?_
      refine L.va rfl (X.build (l := [_, _, _]) Evs.nil (bld_run Try.underlying102 (bp_102 Try.underlying102) zr_102 rfl)) ?_
      -- store
      refine L.storeAgg (vs := [_, _, _]) rfl rfl rfl rfl sz_102 (hk2) rfl ?_
      intro w3 hk3 hg3 hs3
      have he03 : Ext w w3 := he02.grw hg3 (by intro g hg; injection hg with hg; omega)
      have hk3 : Blk w3 b2 102 Vl.z.vs.toArray := hk3
      refine L.nil ?_
      -- ret
      refine J.ret ?_
      refine thn_ret <| ?_
      -- results [['ResultVar.cell', 4, 102]]
      refine finC rfl (run_cell hk3 Try.underlying102 rfl (by kernel_rfl)) ?_
      exact ⟨rfl, he03⟩
    · obtain ⟨i, rfl⟩ := Int.eq_ofNat_of_zero_le (show 0 ≤ c by omega)
      have hin : i < r.nv := by omega
      have e : valAt r (i : Int) = r.v.getD i Vl.z := by unfold valAt; rw [if_neg (by omega), Int.toNat_natCast]
      have hv := hr.hv.ext he02
      have hA := hv.some_ (by omega)
      rw [e]
      obtain ⟨x, hx⟩ : ∃ x, x = r.v.getD i Vl.z := ⟨_, rfl⟩
      have hgt := gtV (l := r.v) (i := i) (by omega)
      rw [← hx] at hgt ⊢
      -- t19
      refine J.skip ?_
      refine J.seq ?_
      refine J.region ?_
      refine L.va rfl (X.fieldAddr rfl Try.underlying32 rfl sz_30 (by decide)) ?_
      refine L.va rfl (X.load rfl sc_30 (by first | exact Ld.blk hk12 rfl | exact hA)) ?_
      refine L.va rfl (X.move (by conv => lhs; whnf)) ?_
      refine L.va rfl ((by first | exact X.indexAddrn rfl rfl Try.underlying30 sz_102 (by first | exact Option.some_ne_none _ | exact hA) (by omega) | exact X.indexAddr rfl rfl Try.underlying30 sz_102 (by first | exact Option.some_ne_none _ | exact hA) (by omega))) ?_
      refine L.va rfl (X.loadRow (cs := x.vs) rfl hv (fun r u hu => flat_row vs_len hgt r u hu) (Nat.zero_lt_succ _) Try.underlying102 rfl (by kernel_rfl)) ?_
      -- store
      refine L.storeAgg (vs := [_, _, _]) rfl rfl rfl rfl sz_102 (hk2) rfl ?_
      intro w3 hk3 hg3 hs3
      have he03 : Ext w w3 := he02.grw hg3 (by intro g hg; injection hg with hg; omega)
      have hk3 : Blk w3 b2 102 x.vs.toArray := hk3
      refine L.nil ?_
      -- ret
      refine J.ret ?_
      -- results [['ResultVar.cell', 4, 102]]
      refine finC rfl (run_cell hk3 Try.underlying102 rfl (by kernel_rfl)) ?_
      exact ⟨rfl, he03⟩
end Go.Proofs.Ytmnlaekcojblkaa
