import Derived.Test.YtlohbkcedpkjaaaWCodeC
import Derived.Test.YtlohbkcedpkjaaaLogic
/-
  The references' readers: what is asked for at the beginning of bytes, and things one behind the other.
-/
namespace Go.Proofs.Ytlohbkcedpkjaaa
set_option maxRecDepth 100000
open Go.RowKit H
open Byts Cod
set_option linter.unusedVariables false
/-- what a number that is asked for gives: it, how many bytes, the error -/
def aU (zs : List Int) (most : Int) : Int × Nat × Int := if (gu zs).2.2 ≠ 0 then (0, 0, (gu zs).2.2) else if most < (gu zs).1 then (0, 0, 2) else ((gu zs).1, (gu zs).2.1, 0)
def aT (zs : List Int) (most : Int) : List Int × Nat × Int := if (gt zs).2.2 ≠ 0 then ([], 0, (gt zs).2.2) else if max most 0 < ((gt zs).1.length : Int) then ([], 0, 4) else ((gt zs).1, (gt zs).2.1, 0)
theorem rdU_a (zs : List Int) (most : Int) (s : RS) : rdU zs most s = if s.2 ≠ 0 then (0, s) else ((aU (zs.drop s.1) most).1, (s.1 + (aU (zs.drop s.1) most).2.1, (aU (zs.drop s.1) most).2.2)) := by
  unfold rdU aU
  split
  · rfl
  · split
    · rfl
    · split <;> rfl
theorem rdT_a (zs : List Int) (most : Int) (h0 : 0 ≤ most) (s : RS) : rdT zs most s = if s.2 ≠ 0 then ([], s) else ((aT (zs.drop s.1) most).1, (s.1 + (aT (zs.drop s.1) most).2.1, (aT (zs.drop s.1) most).2.2)) := by
  have e : max most 0 = most := by omega
  unfold rdT aT
  rw [e]
  split
  · rfl
  · split
    · rfl
    · split <;> rfl
def gotV (x : Int) (t : ByteArray) (n : Nat) (e : Int) : Value := .agg #[.int .u64 x, .int .i64 0, .string t, .int .i64 (n : Int), .int .i64 e]
theorem read08_U (A : Option Addr) (m c : Nat) (zs : List Int) (w : World) (most i q : Int) (fv : Value) (t : ByteArray) (hr : Reads w w.heap.size 1 A m (nums .u8 zs)) (hz : ∀ z ∈ zs, 0 ≤ z ∧ z < 256) (hm : m ≤ 1000000) (hmc : m ≤ c) :
    Calls Try.prog 152 #[.agg #[.int .i64 0, .int .u64 most, .int .i64 i, fv, .string t, .int .i64 q], .slice A m c] w fun e w' => e = .returned (gotV (aU zs most).1 (strOfNums []) (aU zs most).2.1 (aU zs most).2.2) ∧ Ext w w' := by
  refine enter Try.func152 rfl (by kernel_rfl) ?_
  refine J.seq ?_
  refine J.region ?_
  -- box
  refine L.boxA (l := [_, _, _, _, _, _]) rfl rfl ?_
  intro b1 w1 hb1 hs1 hk1 he1
  -- alloc
  refine L.alloc rfl zr_172 ?_
  intro b2 w2 hb2 hs2 hk2 he2
  refine L.nil ?_
  refine J.seq ?_
  refine J.region ?_
  refine L.va rfl (X.build (l := [_, _, _, _, _]) Evs.nil (bld_run Try.underlying172 (bp_172 Try.underlying172) zr_172 rfl)) ?_
  -- alloc
  refine L.alloc rfl zr_172 ?_
  intro b3 w3 hb3 hs3 hk3 he3
  -- store
  refine L.storeAgg (vs := [_, _, _, _, _]) rfl rfl rfl rfl sz_172 (hk3) rfl ?_
  intro w4 hk4 hg4 hs4
  have hk14 := ((hk1.ext he2).ext he3).grown hg4 (fun e => by injection e with e; omega)
  have he4 : Ext w w4 := (((he1.trans he2).trans he3)).grw hg4 (by intro g hg; injection hg with hg; omega)
  refine L.nil ?_
  refine J.seq ?_
  refine J.seq ?_
  refine J.region ?_
  refine L.va rfl (X.fieldAddr rfl Try.underlying175 rfl sz_3 (by decide)) ?_
  refine L.va rfl (X.load rfl sc_3 (by first | exact Ld.blk hk14 rfl)) ?_
  refine L.nil ?_
  refine J.block ?_
  refine J.seq ?_
  refine J.region ?_
  refine L.va rfl (X.eql rfl rfl) ?_
  refine L.va rfl (X.assign (by conv => lhs; whnf)) ?_
  refine L.nil ?_
  -- cond
  refine J.iteT rfl ?_
  refine J.seq ?_
  refine J.region ?_
  refine L.va rfl (X.move (by conv => lhs; whnf)) ?_
  -- callfn bushel/bushelref07.GetU
  refine L.call rfl en_155 rfl (ref_GetU A m c zs _ (((hr.ext he4)).more he4.le) hz hm hmc) ?_
  rintro e _ ⟨rfl, rfl⟩
  refine ⟨_, rfl, ?_⟩
  obtain ⟨x, n, e, hgu⟩ : ∃ x n e, gu zs = (x, n, e) := ⟨_, _, _, rfl⟩
  unfold aU
  rw [hgu]
  dsimp only
  refine L.va rfl (X.move (by conv => lhs; whnf)) ?_
  refine L.va rfl (X.extract rfl rfl) ?_
  refine L.va rfl (X.extract rfl rfl) ?_
  refine L.va rfl (X.extract rfl rfl) ?_
  refine L.va rfl (X.fieldAddr rfl Try.underlying172 rfl sz_73 (by decide)) ?_
  -- store
  refine L.store rfl rfl (by conv => lhs; whnf) rfl sz_73 (hk4) (by first | decide | exact Nat.le_of_ble_eq_true rfl) ?_
  intro w5 hk5 hg5 hs5
  refine L.va rfl (X.fieldAddr rfl Try.underlying172 rfl sz_3 (by decide)) ?_
  -- store
  refine L.store rfl rfl (by conv => lhs; whnf) rfl sz_3 (hk5) (by first | decide | exact Nat.le_of_ble_eq_true rfl) ?_
  intro w6 hk6 hg6 hs6
  refine L.va rfl (X.fieldAddr rfl Try.underlying172 rfl sz_3 (by decide)) ?_
  -- store
  refine L.store rfl rfl (by conv => lhs; whnf) rfl sz_3 (hk6) (by first | decide | exact Nat.le_of_ble_eq_true rfl) ?_
  intro w7 hk7 hg7 hs7
  have hk17 := ((hk14.grown hg5 (fun e => by injection e with e; omega)).grown hg6 (fun e => by injection e with e; omega)).grown hg7 (fun e => by injection e with e; omega)
  have hk24 := ((hk2.ext he3).grown hg4 (fun e => by injection e with e; omega)).grown hg5 (fun e => by injection e with e; omega)
  have hk27 := (hk24.grown hg6 (fun e => by injection e with e; omega)).grown hg7 (fun e => by injection e with e; omega)
  have he7 : Ext w w7 := ((he4.grw hg5 (by intro g hg; injection hg with hg; omega)).grw hg6 (by intro g hg; injection hg with hg; omega)).grw hg7 (by intro g hg; injection hg with hg; omega)
  have hk7 : Blk w7 b3 172 #[.int .u64 x, .int .i64 0, .string ⟨#[]⟩, .int .i64 (n : Int), .int .i64 e] := hk7
  refine L.nil ?_
  refine J.seq ?_
  refine J.region ?_
  refine L.va rfl (X.fieldAddr rfl Try.underlying172 rfl sz_3 (by decide)) ?_
  refine L.va rfl (X.load rfl sc_3 (by first | exact Ld.blk hk17 rfl | exact Ld.blk hk7 rfl)) ?_
  refine L.va rfl (X.eql rfl rfl) ?_
  refine L.va rfl (X.move (by conv => lhs; whnf)) ?_
  -- case t69
  refine L.caseDec (k := 69) rfl (fun h0 => ?_) (fun h0 => ?_)
  · have h0 : e = 0 := h0
    rw [if_neg (fun h => h h0)]
    refine L.va rfl (X.fieldAddr rfl Try.underlying172 rfl sz_73 (by decide)) ?_
    refine L.va rfl (X.load rfl sc_73 (by first | exact Ld.blk hk17 rfl | exact Ld.blk hk7 rfl)) ?_
    refine L.va rfl (X.fieldAddr rfl Try.underlying175 rfl sz_73 (by decide)) ?_
    refine L.va rfl (X.load rfl sc_73 (by first | exact Ld.blk hk17 rfl | exact Ld.blk hk7 rfl)) ?_
    refine L.va rfl (X.gtr rfl rfl) ?_
    refine L.va rfl (X.pickT rfl (by conv => lhs; whnf)) ?_
    refine L.nil ?_
    -- cond
    refine J.dec rfl (fun hlt => ?_) (fun hlt => ?_)
    · rw [if_pos hlt]
      refine J.region ?_
      refine L.va rfl (X.fieldAddr rfl Try.underlying172 rfl sz_3 (by decide)) ?_
      -- store
      refine L.store rfl rfl (by conv => lhs; whnf) rfl sz_3 (hk7) (by first | decide | exact Nat.le_of_ble_eq_true rfl) ?_
      intro w8 hk8 hg8 hs8
      have hk28 := hk27.grown hg8 (fun e => by injection e with e; omega)
      have hk8 : Blk w8 b3 172 #[.int .u64 x, .int .i64 0, .string ⟨#[]⟩, .int .i64 (n : Int), .int .i64 2] := hk8
      refine L.nil ?_
      refine J.seq ?_
      refine J.seq ?_
      refine J.region ?_
      refine L.va rfl (X.fieldAddr rfl Try.underlying172 rfl sz_3 (by decide)) ?_
      refine L.va rfl (X.load rfl sc_3 (by first | exact Ld.blk hk8 rfl)) ?_
      refine L.va rfl (X.neq rfl rfl) ?_
      refine L.nil ?_
      -- cond
      refine J.iteT rfl ?_
      refine J.seq ?_
      refine J.region ?_
      refine L.va rfl (X.fieldAddr rfl Try.underlying172 rfl sz_3 (by decide)) ?_
      refine L.va rfl (X.load rfl sc_3 (by first | exact Ld.blk hk8 rfl)) ?_
      refine L.va rfl (X.build (l := [_, _, _, _, _]) (Evs.cons (by conv => lhs; whnf) Evs.nil) (bld_run Try.underlying172 (bp_172 Try.underlying172) zr_172 rfl)) ?_
      -- store
      refine L.storeAgg (vs := [_, _, _, _, _]) rfl rfl rfl rfl sz_172 (hk28) rfl ?_
      intro w9 hk9 hg9 hs9
      refine L.nil ?_
      -- ret
      refine J.ret ?_
      refine thn_ret <| ?_
      -- results [['ResultVar.cell', 4, 172]]
      refine finC rfl (run_cell hk9 Try.underlying172 rfl (by kernel_rfl)) ?_
      exact ⟨rfl, (he7.grw hg8 (by intro g hg; injection hg with hg; omega)).grw hg9 (by intro g hg; injection hg with hg; omega)⟩
    · rw [if_neg hlt]
      refine J.skip ?_
      refine J.seq ?_
      refine J.seq ?_
      refine J.region ?_
      refine L.va rfl (X.fieldAddr rfl Try.underlying172 rfl sz_3 (by decide)) ?_
      refine L.va rfl (X.load rfl sc_3 (by first | exact Ld.blk hk17 rfl | exact Ld.blk hk7 rfl)) ?_
      refine L.va rfl (X.neq rfl rfl) ?_
      refine L.nil ?_
      -- cond
      refine J.ndecF rfl (by exact h0) ?_
      -- t128
      refine J.skip ?_
      refine J.seq ?_
      refine J.region ?_
      refine L.va rfl (X.loadAgg rfl (range_blk hk7) Try.underlying172 rfl (by kernel_rfl)) ?_
      -- store
      refine L.storeAgg (vs := [_, _, _, _, _]) rfl rfl rfl rfl sz_172 (hk27) rfl ?_
      intro w9 hk9 hg9 hs9
      refine L.nil ?_
      -- ret
      refine J.ret ?_
      -- results [['ResultVar.cell', 4, 172]]
      refine finC rfl (run_cell hk9 Try.underlying172 rfl (by kernel_rfl)) ?_
      refine ⟨?_, he7.grw hg9 (by intro g hg; injection hg with hg; omega)⟩
      subst h0
      rfl
  · have h0 : e ≠ 0 := h0
    rw [if_pos h0]
    refine L.no rfl ?_
    refine L.no rfl ?_
    refine L.no rfl ?_
    refine L.no rfl ?_
    refine L.no rfl ?_
    refine L.va rfl (X.pickF rfl (by conv => lhs; whnf)) ?_
    refine L.nil ?_
    -- cond
    refine J.iteF rfl ?_
    refine J.skip ?_
    refine J.seq ?_
    refine J.seq ?_
    refine J.region ?_
    refine L.va rfl (X.fieldAddr rfl Try.underlying172 rfl sz_3 (by decide)) ?_
    refine L.va rfl (X.load rfl sc_3 (by first | exact Ld.blk hk17 rfl | exact Ld.blk hk7 rfl)) ?_
    refine L.va rfl (X.neq rfl rfl) ?_
    refine L.nil ?_
    -- cond
    refine J.ndecT rfl (by exact h0) ?_
    refine J.seq ?_
    refine J.region ?_
    refine L.va rfl (X.fieldAddr rfl Try.underlying172 rfl sz_3 (by decide)) ?_
    refine L.va rfl (X.load rfl sc_3 (by first | exact Ld.blk hk17 rfl | exact Ld.blk hk7 rfl)) ?_
    refine L.va rfl (X.build (l := [_, _, _, _, _]) (Evs.cons (by conv => lhs; whnf) Evs.nil) (bld_run Try.underlying172 (bp_172 Try.underlying172) zr_172 rfl)) ?_
    -- store
    refine L.storeAgg (vs := [_, _, _, _, _]) rfl rfl rfl rfl sz_172 (hk27) rfl ?_
    intro w9 hk9 hg9 hs9
    refine L.nil ?_
    -- ret
    refine J.ret ?_
    refine thn_ret <| ?_
    -- results [['ResultVar.cell', 4, 172]]
    refine finC rfl (run_cell hk9 Try.underlying172 rfl (by kernel_rfl)) ?_
    exact ⟨rfl, he7.grw hg9 (by intro g hg; injection hg with hg; omega)⟩
theorem read08_T (A : Option Addr) (m c : Nat) (zs : List Int) (w : World) (most i q : Int) (fv : Value) (t : ByteArray) (hr : Reads w w.heap.size 1 A m (nums .u8 zs)) (hz : ∀ z ∈ zs, 0 ≤ z ∧ z < 256) (hm : m ≤ 1000000) (hmc : m ≤ c) :
    Calls Try.prog 152 #[.agg #[.int .i64 3, .int .u64 i, .int .i64 q, fv, .string t, .int .i64 most], .slice A m c] w fun e w' => e = .returned (gotV 0 (strOfNums (aT zs most).1) (aT zs most).2.1 (aT zs most).2.2) ∧ Ext w w' := by
  refine enter Try.func152 rfl (by kernel_rfl) ?_
  refine J.seq ?_
  refine J.region ?_
  -- box
  refine L.boxA (l := [_, _, _, _, _, _]) rfl rfl ?_
  intro b1 w1 hb1 hs1 hk1 he1
  -- alloc
  refine L.alloc rfl zr_172 ?_
  intro b2 w2 hb2 hs2 hk2 he2
  refine L.nil ?_
  refine J.seq ?_
  refine J.region ?_
  refine L.va rfl (X.build (l := [_, _, _, _, _]) Evs.nil (bld_run Try.underlying172 (bp_172 Try.underlying172) zr_172 rfl)) ?_
  -- alloc
  refine L.alloc rfl zr_172 ?_
  intro b3 w3 hb3 hs3 hk3 he3
  -- store
  refine L.storeAgg (vs := [_, _, _, _, _]) rfl rfl rfl rfl sz_172 (hk3) rfl ?_
  intro w4 hk4 hg4 hs4
  have hk14 := ((hk1.ext he2).ext he3).grown hg4 (fun e => by injection e with e; omega)
  have he4 : Ext w w4 := (((he1.trans he2).trans he3)).grw hg4 (by intro g hg; injection hg with hg; omega)
  refine L.nil ?_
  refine J.seq ?_
  refine J.seq ?_
  refine J.region ?_
  refine L.va rfl (X.fieldAddr rfl Try.underlying175 rfl sz_3 (by decide)) ?_
  refine L.va rfl (X.load rfl sc_3 (by first | exact Ld.blk hk14 rfl)) ?_
  refine L.nil ?_
  refine J.block ?_
  refine J.seq ?_
  refine J.region ?_
  refine L.va rfl (X.eql rfl rfl) ?_
  refine L.va rfl (X.assign (by conv => lhs; whnf)) ?_
  refine L.nil ?_
  -- cond
  refine J.iteF rfl ?_
  refine J.seq ?_
  refine J.region ?_
  refine L.va rfl (X.eql rfl rfl) ?_
  refine L.va rfl (X.assign (by conv => lhs; whnf)) ?_
  refine L.nil ?_
  -- cond
  refine J.iteF rfl ?_
  refine J.seq ?_
  refine J.region ?_
  refine L.va rfl (X.eql rfl rfl) ?_
  refine L.va rfl (X.assign (by conv => lhs; whnf)) ?_
  refine L.nil ?_
  -- cond
  refine J.iteF rfl ?_
  refine J.seq ?_
  refine J.region ?_
  refine L.va rfl (X.eql rfl rfl) ?_
  refine L.va rfl (X.assign (by conv => lhs; whnf)) ?_
  refine L.nil ?_
  -- cond
  refine J.iteT rfl ?_
  refine J.seq ?_
  refine J.region ?_
  refine L.va rfl (X.move (by conv => lhs; whnf)) ?_
  -- callfn bushel/bushelref07.GetT
  refine L.call rfl en_158 rfl (ref_GetT A m c zs _ (((hr.ext he4)).more he4.le) hz hm hmc) ?_
  rintro e _ ⟨rfl, rfl⟩
  refine ⟨_, rfl, ?_⟩
  obtain ⟨x, n, e, hgu⟩ : ∃ x n e, gt zs = (x, n, e) := ⟨_, _, _, rfl⟩
  unfold aT
  rw [hgu]
  dsimp only
  refine L.va rfl (X.move (by conv => lhs; whnf)) ?_
  refine L.va rfl (X.extract rfl rfl) ?_
  refine L.va rfl (X.extract rfl rfl) ?_
  refine L.va rfl (X.extract rfl rfl) ?_
  refine L.va rfl (X.fieldAddr rfl Try.underlying172 rfl sz_9 (by decide)) ?_
  -- store
  refine L.store rfl rfl (by conv => lhs; whnf) rfl sz_9 (hk4) (by first | decide | exact Nat.le_of_ble_eq_true rfl) ?_
  intro w5 hk5 hg5 hs5
  refine L.va rfl (X.fieldAddr rfl Try.underlying172 rfl sz_3 (by decide)) ?_
  -- store
  refine L.store rfl rfl (by conv => lhs; whnf) rfl sz_3 (hk5) (by first | decide | exact Nat.le_of_ble_eq_true rfl) ?_
  intro w6 hk6 hg6 hs6
  refine L.va rfl (X.fieldAddr rfl Try.underlying172 rfl sz_3 (by decide)) ?_
  -- store
  refine L.store rfl rfl (by conv => lhs; whnf) rfl sz_3 (hk6) (by first | decide | exact Nat.le_of_ble_eq_true rfl) ?_
  intro w7 hk7 hg7 hs7
  have hk17 := ((hk14.grown hg5 (fun e => by injection e with e; omega)).grown hg6 (fun e => by injection e with e; omega)).grown hg7 (fun e => by injection e with e; omega)
  have hk24 := ((hk2.ext he3).grown hg4 (fun e => by injection e with e; omega)).grown hg5 (fun e => by injection e with e; omega)
  have hk27 := (hk24.grown hg6 (fun e => by injection e with e; omega)).grown hg7 (fun e => by injection e with e; omega)
  have he7 : Ext w w7 := ((he4.grw hg5 (by intro g hg; injection hg with hg; omega)).grw hg6 (by intro g hg; injection hg with hg; omega)).grw hg7 (by intro g hg; injection hg with hg; omega)
  have hk7 : Blk w7 b3 172 #[.int .u64 0, .int .i64 0, .string (strOfNums x), .int .i64 (n : Int), .int .i64 e] := hk7
  refine L.nil ?_
  refine J.seq ?_
  refine J.region ?_
  refine L.va rfl (X.fieldAddr rfl Try.underlying172 rfl sz_3 (by decide)) ?_
  refine L.va rfl (X.load rfl sc_3 (by first | exact Ld.blk hk17 rfl | exact Ld.blk hk7 rfl)) ?_
  refine L.va rfl (X.eql rfl rfl) ?_
  refine L.va rfl (X.move (by conv => lhs; whnf)) ?_
  -- case t112
  refine L.caseDec (k := 112) rfl (fun h0 => ?_) (fun h0 => ?_)
  · have h0 : e = 0 := h0
    rw [if_neg (fun h => h h0)]
    -- t118
    refine L.va rfl (X.fieldAddr rfl Try.underlying172 rfl sz_9 (by decide)) ?_
    refine L.va rfl (X.load rfl sc_9 (by first | exact Ld.blk hk17 rfl | exact Ld.blk hk7 rfl)) ?_
    refine L.va rfl (X.lens rfl Try.underlying9) ?_
    refine L.va rfl (X.fieldAddr rfl Try.underlying175 rfl sz_3 (by decide)) ?_
    refine L.va rfl (X.load rfl sc_3 (by first | exact Ld.blk hk17 rfl | exact Ld.blk hk7 rfl)) ?_
    refine L.va rfl (X.max2 rfl rfl) ?_
    refine L.va rfl (X.gtr rfl rfl) ?_
    refine L.va rfl (X.pickT rfl (by conv => lhs; whnf)) ?_
    refine L.nil ?_
    -- cond
    rw [strOfNums_size]
    refine J.dec rfl (fun hlt => ?_) (fun hlt => ?_)
    · rw [if_pos hlt]
      refine J.region ?_
      refine L.va rfl (X.fieldAddr rfl Try.underlying172 rfl sz_3 (by decide)) ?_
      -- store
      refine L.store rfl rfl (by conv => lhs; whnf) rfl sz_3 (hk7) (by first | decide | exact Nat.le_of_ble_eq_true rfl) ?_
      intro w8 hk8 hg8 hs8
      have hk28 := hk27.grown hg8 (fun e => by injection e with e; omega)
      have hk8 : Blk w8 b3 172 #[.int .u64 0, .int .i64 0, .string (strOfNums x), .int .i64 (n : Int), .int .i64 4] := hk8
      refine L.nil ?_
      refine J.seq ?_
      refine J.seq ?_
      refine J.region ?_
      refine L.va rfl (X.fieldAddr rfl Try.underlying172 rfl sz_3 (by decide)) ?_
      refine L.va rfl (X.load rfl sc_3 (by first | exact Ld.blk hk8 rfl)) ?_
      refine L.va rfl (X.neq rfl rfl) ?_
      refine L.nil ?_
      -- cond
      refine J.iteT rfl ?_
      refine J.seq ?_
      refine J.region ?_
      refine L.va rfl (X.fieldAddr rfl Try.underlying172 rfl sz_3 (by decide)) ?_
      refine L.va rfl (X.load rfl sc_3 (by first | exact Ld.blk hk8 rfl)) ?_
      refine L.va rfl (X.build (l := [_, _, _, _, _]) (Evs.cons (by conv => lhs; whnf) Evs.nil) (bld_run Try.underlying172 (bp_172 Try.underlying172) zr_172 rfl)) ?_
      -- store
      refine L.storeAgg (vs := [_, _, _, _, _]) rfl rfl rfl rfl sz_172 (hk28) rfl ?_
      intro w9 hk9 hg9 hs9
      refine L.nil ?_
      -- ret
      refine J.ret ?_
      refine thn_ret <| ?_
      -- results [['ResultVar.cell', 4, 172]]
      refine finC rfl (run_cell hk9 Try.underlying172 rfl (by kernel_rfl)) ?_
      exact ⟨rfl, (he7.grw hg8 (by intro g hg; injection hg with hg; omega)).grw hg9 (by intro g hg; injection hg with hg; omega)⟩
    · rw [if_neg hlt]
      refine J.skip ?_
      refine J.seq ?_
      refine J.seq ?_
      refine J.region ?_
      refine L.va rfl (X.fieldAddr rfl Try.underlying172 rfl sz_3 (by decide)) ?_
      refine L.va rfl (X.load rfl sc_3 (by first | exact Ld.blk hk17 rfl | exact Ld.blk hk7 rfl)) ?_
      refine L.va rfl (X.neq rfl rfl) ?_
      refine L.nil ?_
      -- cond
      refine J.ndecF rfl (by exact h0) ?_
      -- t128
      refine J.skip ?_
      refine J.seq ?_
      refine J.region ?_
      refine L.va rfl (X.loadAgg rfl (range_blk hk7) Try.underlying172 rfl (by kernel_rfl)) ?_
      -- store
      refine L.storeAgg (vs := [_, _, _, _, _]) rfl rfl rfl rfl sz_172 (hk27) rfl ?_
      intro w9 hk9 hg9 hs9
      refine L.nil ?_
      -- ret
      refine J.ret ?_
      -- results [['ResultVar.cell', 4, 172]]
      refine finC rfl (run_cell hk9 Try.underlying172 rfl (by kernel_rfl)) ?_
      refine ⟨?_, he7.grw hg9 (by intro g hg; injection hg with hg; omega)⟩
      subst h0
      rfl
  · have h0 : e ≠ 0 := h0
    rw [if_pos h0]
    refine L.no rfl ?_
    refine L.no rfl ?_
    refine L.no rfl ?_
    refine L.no rfl ?_
    refine L.no rfl ?_
    refine L.no rfl ?_
    refine L.no rfl ?_
    refine L.va rfl (X.pickF rfl (by conv => lhs; whnf)) ?_
    refine L.nil ?_
    -- cond
    refine J.iteF rfl ?_
    refine J.skip ?_
    refine J.seq ?_
    refine J.seq ?_
    refine J.region ?_
    refine L.va rfl (X.fieldAddr rfl Try.underlying172 rfl sz_3 (by decide)) ?_
    refine L.va rfl (X.load rfl sc_3 (by first | exact Ld.blk hk17 rfl | exact Ld.blk hk7 rfl)) ?_
    refine L.va rfl (X.neq rfl rfl) ?_
    refine L.nil ?_
    -- cond
    refine J.ndecT rfl (by exact h0) ?_
    refine J.seq ?_
    refine J.region ?_
    refine L.va rfl (X.fieldAddr rfl Try.underlying172 rfl sz_3 (by decide)) ?_
    refine L.va rfl (X.load rfl sc_3 (by first | exact Ld.blk hk17 rfl | exact Ld.blk hk7 rfl)) ?_
    refine L.va rfl (X.build (l := [_, _, _, _, _]) (Evs.cons (by conv => lhs; whnf) Evs.nil) (bld_run Try.underlying172 (bp_172 Try.underlying172) zr_172 rfl)) ?_
    -- store
    refine L.storeAgg (vs := [_, _, _, _, _]) rfl rfl rfl rfl sz_172 (hk27) rfl ?_
    intro w9 hk9 hg9 hs9
    refine L.nil ?_
    -- ret
    refine J.ret ?_
    refine thn_ret <| ?_
    -- results [['ResultVar.cell', 4, 172]]
    refine finC rfl (run_cell hk9 Try.underlying172 rfl (by kernel_rfl)) ?_
    exact ⟨rfl, he7.grw hg9 (by intro g hg; injection hg with hg; omega)⟩
end Go.Proofs.Ytlohbkcedpkjaaa
/-
  The references' reader of things one behind the other.
-/
namespace Go.Proofs.Ytlohbkcedpkjaaa
set_option maxRecDepth 100000
open Go.RowKit H
open Byts Cod
set_option linter.unusedVariables false
/-- a reader: its block; the bytes, that are others' and elder; the place and the fault -/
structure RdB (w : World) (b : Nat) (A : Option Addr) (n c : Nat) (zs : List Int) (s : RS) : Prop where
  hk : Blk w b 128 #[.slice A n c, .int .i64 (s.1 : Int), .int .i64 s.2]
  hr : Reads w b 1 A n (nums .u8 zs)
  hnc : n ≤ c
  hz : ∀ z ∈ zs, 0 ≤ z ∧ z < 256
  hm : n ≤ 1000000
  hf : Fit zs s
theorem aU_fit {zs : List Int} (hz : ∀ z ∈ zs, 0 ≤ z ∧ z < 256) {most : Int} (hm : 0 ≤ most) {s : RS} (h : Fit zs s) (h0 : s.2 = 0) : Fit zs (s.1 + (aU (zs.drop s.1) most).2.1, (aU (zs.drop s.1) most).2.2) := by
  have := (rdU_fit hz most hm h).1
  rwa [rdU_a, if_neg (fun hh => hh h0)] at this
theorem aT_fit {zs : List Int} (hz : ∀ z ∈ zs, 0 ≤ z ∧ z < 256) {most : Int} (hm : 0 ≤ most) {s : RS} (h : Fit zs s) (h0 : s.2 = 0) : Fit zs (s.1 + (aT (zs.drop s.1) most).2.1, (aT (zs.drop s.1) most).2.2) := by
  have := (rdT_fit hz most hm h).1
  rwa [rdT_a _ _ hm, if_neg (fun hh => hh h0)] at this
namespace RdB
variable {w w' : World} {b : Nat} {A : Option Addr} {n c : Nat} {zs : List Int} {s : RS}
theorem hl (h : RdB w b A n c zs s) : zs.length = n := by have := h.hr.1; simpa [nums] using this
theorem below (h : RdB w b A n c zs s) (hb : Below (b + 1) w w') : RdB w' b A n c zs s := ⟨h.hk.below hb (Nat.lt_succ_self b), h.hr.low hb (Nat.le_succ b), h.hnc, h.hz, h.hm, h.hf⟩
theorem ext (h : RdB w b A n c zs s) (he : Ext w w') : RdB w' b A n c zs s := h.below (Below.mono he (by have := h.hk.lt; omega))
/-- the block is changed -/
theorem put {s' : RS} (h : RdB w b A n c zs s) (hg : w.grownBy w' (some b)) (hk : Blk w' b 128 #[.slice A n c, .int .i64 (s'.1 : Int), .int .i64 s'.2]) (hf : Fit zs s') : RdB w' b A n c zs s' ∧ Chg (· = b) w w' := by
  have hc : Chg (· = b) w w' := .of_grown hg (fun g e => by injection e with e; exact e.symm)
  exact ⟨⟨hk, h.hr.low (hc.below (Nat.le_of_lt h.hk.lt) (fun g e => by omega)) (Nat.le_refl _), h.hnc, h.hz, h.hm, hf⟩, hc⟩
theorem ask_bad (h : RdB w b A n c zs s) (h0 : s.2 ≠ 0) (d u i q : Int) (fv : Value) (t : ByteArray) :
    Calls Try.prog 130 #[.pointer (some ⟨b, 0, none⟩), .agg #[.int .i64 d, .int .u64 u, .int .i64 i, fv, .string t, .int .i64 q]] w fun e w' => e = .returned (gotV 0 (strOfNums []) 0 0) ∧ Ext w w' := by
  have hb := h.hk
  refine enter Try.func130 rfl (by kernel_rfl) ?_
  refine J.seq ?_
  refine J.region ?_
  -- box
  refine L.boxA (l := [_, _, _, _, _, _]) rfl rfl ?_
  intro b1 w1 hb1 hs1 hk1 he1
  -- alloc
  refine L.alloc rfl zr_172 ?_
  intro b2 w2 hb2 hs2 hk2 he2
  have hb' := (hb.ext he1).ext he2
  refine L.nil ?_
  refine J.seq ?_
  refine J.seq ?_
  refine J.region ?_
  refine L.va rfl (X.move (by conv => lhs; whnf)) ?_
  refine L.va rfl (X.nilCheck rfl) ?_
  refine L.va rfl (X.fieldAddr rfl Try.underlying128 rfl sz_3 (by decide)) ?_
  refine L.va rfl (X.load rfl sc_3 (by first | exact Ld.blk hb' rfl)) ?_
  refine L.va rfl (X.neq rfl rfl) ?_
  refine L.nil ?_
  -- cond
  refine J.ndecT rfl (by exact h0) ?_
  refine J.seq ?_
  refine J.region ?_
  refine L.va rfl (X.build (l := [_, _, _, _, _]) Evs.nil (bld_run Try.underlying172 (bp_172 Try.underlying172) zr_172 rfl)) ?_
  -- store
  refine L.storeAgg (vs := [_, _, _, _, _]) rfl rfl rfl rfl sz_172 (hk2) rfl ?_
  intro w3 hk3 hg3 hs3
  refine L.nil ?_
  -- ret
  refine J.ret ?_
  refine thn_ret <| ?_
  -- results [['ResultVar.cell', 4, 172]]
  refine finC rfl (run_cell hk3 Try.underlying172 rfl (by kernel_rfl)) ?_
  exact ⟨rfl, (he1.trans he2).grw hg3 (by intro g hg; injection hg with hg; omega)⟩
theorem ask_any (h : RdB w b A n c zs s) (h0 : s.2 = 0) (d u i q : Int) (fv : Value) (t : ByteArray) (x : Int) (t' : ByteArray) (k : Nat) (er : Int) (hf : Fit zs (s.1 + k, er)) (h1 : fv.oneCell' = true)
    (hx : ∀ w1, Ext w w1 → Calls Try.prog 152 #[.agg #[.int .i64 d, .int .u64 u, .int .i64 i, fv, .string t, .int .i64 q], .slice (if c = s.1 then A else A.map (·.add (s.1 * 1))) (n - s.1) (c - s.1)] w1 fun e w2 => e = .returned (gotV x t' k er) ∧ Ext w1 w2) :
    Calls Try.prog 130 #[.pointer (some ⟨b, 0, none⟩), .agg #[.int .i64 d, .int .u64 u, .int .i64 i, fv, .string t, .int .i64 q]] w fun e w' => e = .returned (gotV x t' k er) ∧ RdB w' b A n c zs (s.1 + k, er) ∧ Chg (· = b) w w' := by
  have hb := h.hk
  have hbl := hb.lt
  have hl := h.hl
  have hnc := h.hnc
  have hm := h.hm
  have hf1 := h.hf.1
  have hf2 := hf.1
  have hfk : s.1 + k ≤ 1000000 := by have : (s.1 + k, er).1 ≤ zs.length := hf2; dsimp only at this; omega
  refine enter Try.func130 rfl (by kernel_rfl) ?_
  refine J.seq ?_
  refine J.region ?_
  -- box
  refine L.boxA (l := [_, _, _, _, _, _]) rfl rfl ?_
  intro b1 w1 hb1 hs1 hk1 he1
  -- alloc
  refine L.alloc rfl zr_172 ?_
  intro b2 w2 hb2 hs2 hk2 he2
  have he02 := he1.trans he2
  have hb' := hb.ext he02
  refine L.nil ?_
  refine J.seq ?_
  refine J.seq ?_
  refine J.region ?_
  refine L.va rfl (X.move (by conv => lhs; whnf)) ?_
  refine L.va rfl (X.nilCheck rfl) ?_
  refine L.va rfl (X.fieldAddr rfl Try.underlying128 rfl sz_3 (by decide)) ?_
  refine L.va rfl (X.load rfl sc_3 (by first | exact Ld.blk hb' rfl)) ?_
  refine L.va rfl (X.neq rfl rfl) ?_
  refine L.nil ?_
  -- cond
  refine J.ndecF rfl (by exact h0) ?_
  refine J.skip ?_
  -- until
  refine J.cut (X := Nat) [5, 12, 13, 14, 15, 16, 17, 18, 19, 20, 21, 22] (fun b5 => [(5, .pointer (some ⟨b5, 0, none⟩))]) (fun b5 w5 => Blk w5 b5 172 #[.int .u64 x, .int .i64 0, .string t', .int .i64 (k : Int), .int .i64 er] ∧ w2.heap.size ≤ b5 ∧ Ext w2 w5) ?_ ?_
  · have hk12 := hk1.ext he2
    -- draw
    refine J.draw (ℓ := 1000000) (S := Ext w2) mixed (fun w3 hS hS_h => ?_)
    refine D.va 0 rfl (by kernel_rfl) (fun _ _ _ h => h) rfl (fun w' hw => (by first | exact X.loadAgg rfl (range_l (hb'.ext hw)) Try.underlying175 rfl (by kernel_rfl) | exact X.loadAgg rfl (range_blk (hb'.ext hw)) Try.underlying175 rfl (by kernel_rfl) | exact X.loadAgg rfl (range_l (hk12.ext hw)) Try.underlying175 rfl (by kernel_rfl) | exact X.loadAgg rfl (range_blk (hk12.ext hw)) Try.underlying175 rfl (by kernel_rfl))) hS ?_
    refine D.va 1 rfl (by kernel_rfl) (fun _ _ _ h => h) rfl (fun w' hw => X.move (by conv => lhs; whnf)) hS ?_
    refine D.va 2 rfl (by kernel_rfl) (fun _ _ _ h => h) rfl (fun w' hw => X.nilCheck rfl) hS ?_
    refine D.va 3 rfl (by kernel_rfl) (fun _ _ _ h => h) rfl (fun w' hw => X.fieldAddr rfl Try.underlying128 rfl sz_58 (by decide)) hS ?_
    refine D.va 4 rfl (by kernel_rfl) (fun _ _ _ h => h) rfl (fun w' hw => X.load rfl sc_58 (by first | exact Ld.blk (hb'.ext hw) rfl | exact Ld.blk (hk12.ext hw) rfl)) hS ?_
    refine D.va 5 rfl (by kernel_rfl) (fun _ _ _ h => h) rfl (fun w' hw => X.move (by conv => lhs; whnf)) hS ?_
    refine D.va 6 rfl (by kernel_rfl) (fun _ _ _ h => h) rfl (fun w' hw => X.nilCheck rfl) hS ?_
    refine D.va 7 rfl (by kernel_rfl) (fun _ _ _ h => h) rfl (fun w' hw => X.fieldAddr rfl Try.underlying128 rfl sz_3 (by decide)) hS ?_
    refine D.va 8 rfl (by kernel_rfl) (fun _ _ _ h => h) rfl (fun w' hw => X.load rfl sc_3 (by first | exact Ld.blk (hb'.ext hw) rfl | exact Ld.blk (hk12.ext hw) rfl)) hS ?_
    refine D.va 9 rfl (by kernel_rfl) (fun _ _ _ h => h) rfl (fun w' hw => (by first | exact X.sliceFromn rfl rfl Try.underlying58 sz_5 (by omega) | exact X.sliceFrom rfl rfl Try.underlying58 sz_5 (by omega))) hS ?_
    -- many [10, 11]
    refine D.two 10 11 (by kernel_rfl) rfl rfl ?_ ?_
    · refine L.call rfl en_152 rfl (hx _ (he02.trans hS)) ?_
      rintro e w4 ⟨rfl, he4⟩
      refine ⟨_, rfl, ?_⟩
      have hS1 := hS.trans he4
      refine L.nil ?_
      refine ⟨fun _ => hS1, ?_⟩
      -- alloc
      refine D.one 11 (by kernel_rfl) rfl ?_
      refine L.alloc rfl zr_172 ?_
      intro b5 w5 hb5 hs5 hk5 he5
      have hS2 := hS1.trans he5
      refine L.nil ?_
      refine ⟨fun _ => hS2, ?_⟩
      have hz5 := hS1.le
      -- store
      refine D.one 12 (by kernel_rfl) rfl ?_
      refine L.storeAgg (vs := [_, _, _, _, _]) rfl rfl rfl rfl sz_172 (hk5) rfl ?_
      intro w6 hk6 hg6 hs6
      have hS3 := hS2.grw hg6 (by intro g hg; injection hg with hg; omega)
      refine L.nil ?_
      refine ⟨fun _ => hS3, ?_⟩
      refine D.done (by kernel_rfl) ?_
      replace hb' := hb'.ext hS3
      replace hk12 := hk12.ext hS3
      -- cutend
      refine ⟨b5, At1 (by first | rfl | exact at_int rfl (by omega) | exact at_slice rfl (by omega) | exact at_int rfl (by simp)), (by (iterate 12 refine Agr.lk rfl ?_); exact Agr.rfl'), ?_⟩
      exact ⟨hk6, by omega, hS3⟩
    · refine L.alloc rfl zr_172 ?_
      intro b5 w5 hb5 hs5 hk5 he5
      have hS1 := hS.trans he5
      refine L.nil ?_
      refine ⟨fun _ => hS1, ?_⟩
      have hz5 := hS.le
      -- callfn bushel/bushelref08.Read
      refine D.one 10 (by kernel_rfl) rfl ?_
      refine L.call rfl en_152 rfl (hx _ (he02.trans hS1)) ?_
      rintro e w4 ⟨rfl, he4⟩
      refine ⟨_, rfl, ?_⟩
      have hS2 := hS1.trans he4
      refine L.nil ?_
      refine ⟨fun _ => hS2, ?_⟩
      -- store
      refine D.one 12 (by kernel_rfl) rfl ?_
      refine L.storeAgg (vs := [_, _, _, _, _]) rfl rfl rfl rfl sz_172 (hk5.ext he4) rfl ?_
      intro w6 hk6 hg6 hs6
      have hS3 := hS2.grw hg6 (by intro g hg; injection hg with hg; omega)
      refine L.nil ?_
      refine ⟨fun _ => hS3, ?_⟩
      refine D.done (by kernel_rfl) ?_
      replace hb' := hb'.ext hS3
      replace hk12 := hk12.ext hS3
      -- cutend
      refine ⟨b5, At1 (by first | rfl | exact at_int rfl (by omega) | exact at_slice rfl (by omega) | exact at_int rfl (by simp)), (by (iterate 12 refine Agr.lk rfl ?_); exact Agr.rfl'), ?_⟩
      exact ⟨hk6, by omega, hS3⟩
  · rintro b5 g w5 ⟨hk5, hb5, he5⟩
    have hb6 := hb'.ext he5
    have h6 := h.ext (he02.trans he5)
    have hz5 := he5.le
    have hz2 := he02.le
    refine J.seq ?_
    refine J.region ?_
    refine L.va rfl (X.move (by conv => lhs; whnf)) ?_
    refine L.va rfl (X.fieldAddr rfl Try.underlying172 rfl sz_3 (by decide)) ?_
    refine L.va rfl (X.load rfl sc_3 (by first | exact Ld.blk hk5 rfl | exact Ld.blk hb6 rfl)) ?_
    refine L.va rfl (X.nilCheck rfl) ?_
    refine L.va rfl (X.fieldAddr rfl Try.underlying128 rfl sz_3 (by decide)) ?_
    -- store
    refine L.store rfl rfl (by conv => lhs; whnf) rfl sz_3 (hb6) (by first | decide | exact Nat.le_of_ble_eq_true rfl) ?_
    intro w6 hk6 hg6 hs6
    have hk56 := hk5.grown hg6 (fun e => by injection e with e; omega)
    have hk6 : Blk w6 b 128 #[.slice A n c, .int .i64 (s.1 : Int), .int .i64 er] := hk6
    refine L.nil ?_
    refine J.seq ?_
    -- draw
    refine J.draw (ℓ := 10) (S := Ext w6) mixed (fun w7 hS hS_h => ?_)
    refine D.va 0 rfl (by kernel_rfl) (fun _ _ _ h => h) rfl (fun w' hw => X.move (by conv => lhs; whnf)) hS ?_
    refine D.va 1 rfl (by kernel_rfl) (fun _ _ _ h => h) rfl (fun w' hw => X.move (by conv => lhs; whnf)) hS ?_
    refine D.va 2 rfl (by kernel_rfl) (fun _ _ _ h => h) rfl (fun w' hw => X.nilCheck rfl) hS ?_
    refine D.va 3 rfl (by kernel_rfl) (fun _ _ _ h => h) rfl (fun w' hw => X.fieldAddr rfl Try.underlying128 rfl sz_3 (by decide)) hS ?_
    refine D.va 4 rfl (by kernel_rfl) (fun _ _ _ h => h) rfl (fun w' hw => X.load rfl sc_3 (by first | exact Ld.blk (hk56.ext hw) rfl | exact Ld.blk (hk6.ext hw) rfl)) hS ?_
    refine D.va 5 rfl (by kernel_rfl) (fun _ _ _ h => h) rfl (fun w' hw => X.fieldAddr rfl Try.underlying172 rfl sz_3 (by decide)) hS ?_
    refine D.va 6 rfl (by kernel_rfl) (fun _ _ _ h => h) rfl (fun w' hw => X.load rfl sc_3 (by first | exact Ld.blk (hk56.ext hw) rfl | exact Ld.blk (hk6.ext hw) rfl)) hS ?_
    refine D.va 7 rfl (by kernel_rfl) (fun _ _ _ h => h) rfl (fun w' hw => X.add rfl rfl (by omega)) hS ?_
    refine D.va 8 rfl (by kernel_rfl) (fun _ _ _ h => h) rfl (fun w' hw => X.nilCheck rfl) hS ?_
    refine D.va 9 rfl (by kernel_rfl) (fun _ _ _ h => h) rfl (fun w' hw => X.fieldAddr rfl Try.underlying128 rfl sz_3 (by decide)) hS ?_
    -- store
    refine D.one 10 (by kernel_rfl) rfl ?_
    refine L.store rfl rfl (by conv => lhs; whnf) rfl sz_3 (hk6.ext hS) (by first | decide | exact Nat.le_of_ble_eq_true rfl) ?_
    intro w8 hk8 hg8 hs8
    refine L.nil ?_
    refine ⟨fun h => absurd rfl h, ?_⟩
    have hk58 := (hk56.ext hS).grown hg8 (fun e => by injection e with e; omega)
    have h7 := h6.put (s' := (s.1, er)) hg6 hk6 ⟨hf1, hf.2⟩
    have h8 := (h7.1.ext hS).put (s' := (s.1 + k, er)) hg8 hk8 hf
    have hc8 : Chg (· = b) w w8 := (Chg.of_ext (he02.trans he5)).trans (h7.2.trans ((Chg.of_ext hS).trans h8.2 (fun _ _ => id)) (fun _ _ => id)) (fun _ _ => id)
    -- t38
    refine D.done (by kernel_rfl) ?_
    refine J.seq ?_
    refine J.region ?_
    refine L.va rfl (X.loadAgg rfl (range_blk hk58) Try.underlying172 rfl (by kernel_rfl)) ?_
    -- store
    have hk28 := (((hk2.ext he5).grown hg6 (fun e => by injection e with e; omega)).ext hS).grown hg8 (fun e => by injection e with e; omega)
    refine L.storeAgg (vs := [_, _, _, _, _]) rfl rfl rfl rfl sz_172 (hk28) rfl ?_
    intro w9 hk9 hg9 hs9
    refine L.nil ?_
    -- ret
    refine J.ret ?_
    -- results [['ResultVar.cell', 4, 172]]
    refine finC rfl (run_cell hk9 Try.underlying172 rfl (by kernel_rfl)) ?_
    have h9 : Chg (· = b2) w8 w9 := .of_grown hg9 (fun g e => by injection e with e; exact e.symm)
    have hz8 := hc8.size
    have h89 : Chg (· = b) w w9 := ⟨h9.os.trans hc8.os, h9.tape.trans hc8.tape, h9.output.trans hc8.output, by have := h9.size; omega, fun g hg hS => (h9.block g (by omega) (fun e => by omega)).trans (hc8.block g hg hS)⟩
    exact ⟨rfl, h8.1.below (h9.below (by omega) (fun g e => by omega)), h89⟩
theorem rU (h : RdB w b A n c zs s) (most : Int) (h0 : 0 ≤ most) : Calls Try.prog 82 #[.pointer (some ⟨b, 0, none⟩), .int .u64 most] w fun e w' => e = .returned (.int .u64 (rdU zs most s).1) ∧ RdB w' b A n c zs (rdU zs most s).2 ∧ Chg (· = b) w w' := by
  have e := rdU_a zs most s
  refine enter Try.func82 rfl (by kernel_rfl) ?_
  -- t7
  refine J.seq ?_
  refine J.region ?_
  refine L.va rfl (X.assign (by conv => lhs; whnf)) ?_
  refine L.nil ?_
  refine J.seq ?_
  refine J.region ?_
  refine L.va rfl (X.move (by conv => lhs; whnf)) ?_
  refine L.va rfl (X.move (by conv => lhs; whnf)) ?_
  refine L.va rfl (X.build (l := [.int .i64 0, .int .u64 most, .int .i64 0, .float .f64 0, .string ⟨#[]⟩, .int .i64 0]) (Evs.cons rfl Evs.nil) (bld_run Try.underlying175 (bp_175 Try.underlying175) zr_175 rfl)) ?_
  -- callfn (*bushel/bushelref11.Reader).Ask
  by_cases hs : s.2 = 0
  · rw [if_neg (fun hh => hh hs)] at e
    rw [e]
    refine L.call rfl en_130 rfl (h.ask_any hs _ _ _ _ _ _ _ _ _ _ (aU_fit h.hz h0 h.hf hs) rfl (fun w1 he => read08_U _ _ _ (zs.drop s.1) w1 most _ _ _ _ (by have := ((h.hr.more (Nat.le_of_lt h.hk.lt)).ext he).cut (k := s.1) (cap := c) (by have := h.hf.1; have := h.hl; omega) h.hnc; simpa [nums] using (this.more he.le)) (fun z hz => h.hz z (List.mem_of_mem_drop hz)) (by have := h.hm; omega) (by have := h.hnc; omega))) ?_
    rintro e w1 ⟨rfl, h1, hc1⟩
    refine ⟨_, rfl, ?_⟩
    refine L.va rfl (X.fieldV rfl Try.underlying172 rfl sc_73 rfl) ?_
    refine L.va rfl (X.assign (by conv => lhs; whnf)) ?_
    refine L.nil ?_
    -- ret
    refine J.ret ?_
    refine fin1 ?_
    exact ⟨rfl, h1, hc1⟩
  · rw [if_pos hs] at e
    rw [e]
    refine L.call rfl en_130 rfl (h.ask_bad hs _ _ _ _ _ _) ?_
    rintro e w1 ⟨rfl, he1⟩
    refine ⟨_, rfl, ?_⟩
    refine L.va rfl (X.fieldV rfl Try.underlying172 rfl sc_73 rfl) ?_
    refine L.va rfl (X.assign (by conv => lhs; whnf)) ?_
    refine L.nil ?_
    -- ret
    refine J.ret ?_
    refine fin1 ?_
    exact ⟨rfl, h.ext he1, .of_ext he1⟩
end RdB
end Go.Proofs.Ytlohbkcedpkjaaa
/-
  The references' reader: its end; no block is anyone's.
-/
namespace Go.Proofs.Ytlohbkcedpkjaaa
set_option maxRecDepth 100000
open Go.RowKit H
open Byts Cod
set_option linter.unusedVariables false
namespace RdB
variable {w w' : World} {b : Nat} {A : Option Addr} {n c : Nat} {zs : List Int} {s : RS}
theorem End (h : RdB w b A n c zs s) : Calls Try.prog 85 #[.pointer (some ⟨b, 0, none⟩)] w fun e w' => e = .returned (.int .i64 (rdE zs s)) ∧ RdB w' b A n c zs (s.1, rdE zs s) ∧ Chg (· = b) w w' := by
  have hb := h.hk
  have hl := h.hl
  have hf := h.hf
  refine enter Try.func85 rfl (by kernel_rfl) ?_
  refine J.seq ?_
  refine J.region ?_
  refine L.va rfl (X.assign (by conv => lhs; whnf)) ?_
  refine L.nil ?_
  refine J.seq ?_
  refine J.seq ?_
  -- draw
  refine J.quiet mixed (by kernel_rfl) ?_
  refine Qt.va rfl (fun w' hw => X.move (by conv => lhs; whnf)) ?_
  refine Qt.va rfl (fun w' hw => X.nilCheck rfl) ?_
  refine Qt.va rfl (fun w' hw => X.fieldAddr rfl Try.underlying128 rfl sz_3 (by decide)) ?_
  refine Qt.va rfl (fun w' hw => X.load rfl sc_3 (by first | exact Ld.blk (hb.ext hw) rfl)) ?_
  refine Qt.va rfl (fun w' hw => X.eql rfl rfl) ?_
  refine Qt.va rfl (fun w' hw => X.move (by conv => lhs; whnf)) ?_
  -- case t8
  refine Qt.caseDec (k := 8) rfl (fun hs => ?_) (fun hs => ?_)
  · have hs : s.2 = 0 := by simpa using hs
    refine Qt.va rfl (fun w' hw => X.move (by conv => lhs; whnf)) ?_
    refine Qt.va rfl (fun w' hw => X.nilCheck rfl) ?_
    refine Qt.va rfl (fun w' hw => X.fieldAddr rfl Try.underlying128 rfl sz_3 (by decide)) ?_
    refine Qt.va rfl (fun w' hw => X.load rfl sc_3 (by first | exact Ld.blk (hb.ext hw) rfl)) ?_
    refine Qt.va rfl (fun w' hw => X.move (by conv => lhs; whnf)) ?_
    refine Qt.va rfl (fun w' hw => X.nilCheck rfl) ?_
    refine Qt.va rfl (fun w' hw => X.fieldAddr rfl Try.underlying128 rfl sz_58 (by decide)) ?_
    refine Qt.va rfl (fun w' hw => X.load rfl sc_58 (by first | exact Ld.blk (hb.ext hw) rfl)) ?_
    refine Qt.va rfl (fun w' hw => X.len rfl Try.underlying58) ?_
    refine Qt.va rfl (fun w' hw => X.lss rfl rfl) ?_
    refine Qt.va rfl (fun w' hw => X.pickT rfl (by conv => lhs; whnf)) ?_
    refine Qt.nil (fun w1 hq => ?_)
    replace hb := hb.ext hq
    -- cond
    have h1 := h.ext hq
    refine J.dec rfl (fun hlt => ?_) (fun hlt => ?_)
    · have e : rdE zs s = 7 := by unfold rdE; rw [if_pos ⟨hs, by omega⟩]
      rw [e]
      have hb1 := h1.hk
      refine J.region ?_
      refine L.va rfl (X.move (by conv => lhs; whnf)) ?_
      refine L.va rfl (X.nilCheck rfl) ?_
      refine L.va rfl (X.fieldAddr rfl Try.underlying128 rfl sz_3 (by decide)) ?_
      -- store
      refine L.store rfl rfl (by conv => lhs; whnf) rfl sz_3 (hb1) (by first | decide | exact Nat.le_of_ble_eq_true rfl) ?_
      intro w2 hb2 hg2 hs2
      have hb2 : Blk w2 b 128 #[.slice A n c, .int .i64 (s.1 : Int), .int .i64 7] := hb2
      have k := h1.put (s' := (s.1, 7)) hg2 hb2 ⟨hf.1, (by decide : (0 : Int) ≤ 7), (by decide : (7 : Int) ≤ 15)⟩
      refine L.nil ?_
      refine J.seq ?_
      refine J.region ?_
      refine L.va rfl (X.move (by conv => lhs; whnf)) ?_
      refine L.va rfl (X.nilCheck rfl) ?_
      refine L.va rfl (X.fieldAddr rfl Try.underlying128 rfl sz_3 (by decide)) ?_
      refine L.va rfl (X.load rfl sc_3 (by first | exact Ld.blk hb2 rfl)) ?_
      refine L.va rfl (X.assign (by conv => lhs; whnf)) ?_
      refine L.nil ?_
      -- ret
      refine J.ret ?_
      refine fin1 ?_
      exact ⟨rfl, k.1, (Chg.of_ext hq).trans k.2 (fun _ _ => id)⟩
    · have e : rdE zs s = s.2 := by unfold rdE; rw [if_neg (fun hh => by omega)]
      rw [e]
      refine J.skip ?_
      refine J.seq ?_
      refine J.region ?_
      refine L.va rfl (X.move (by conv => lhs; whnf)) ?_
      refine L.va rfl (X.nilCheck rfl) ?_
      refine L.va rfl (X.fieldAddr rfl Try.underlying128 rfl sz_3 (by decide)) ?_
      refine L.va rfl (X.load rfl sc_3 (by first | exact Ld.blk hb rfl)) ?_
      refine L.va rfl (X.assign (by conv => lhs; whnf)) ?_
      refine L.nil ?_
      -- ret
      refine J.ret ?_
      refine fin1 ?_
      exact ⟨rfl, h1, .of_ext hq⟩
  · have hs : s.2 ≠ 0 := by simpa using hs
    have e : rdE zs s = s.2 := by unfold rdE; rw [if_neg (fun hh => hs hh.1)]
    rw [e]
    refine Qt.no rfl ?_
    refine Qt.no rfl ?_
    refine Qt.no rfl ?_
    refine Qt.no rfl ?_
    refine Qt.no rfl ?_
    refine Qt.no rfl ?_
    refine Qt.no rfl ?_
    refine Qt.no rfl ?_
    refine Qt.no rfl ?_
    refine Qt.no rfl ?_
    refine Qt.va rfl (fun w' hw => X.pickF rfl (by conv => lhs; whnf)) ?_
    refine Qt.nil (fun w1 hq => ?_)
    replace hb := hb.ext hq
    -- cond
    refine J.iteF rfl ?_
    have h1 := h.ext hq
    refine J.skip ?_
    refine J.seq ?_
    refine J.region ?_
    refine L.va rfl (X.move (by conv => lhs; whnf)) ?_
    refine L.va rfl (X.nilCheck rfl) ?_
    refine L.va rfl (X.fieldAddr rfl Try.underlying128 rfl sz_3 (by decide)) ?_
    refine L.va rfl (X.load rfl sc_3 (by first | exact Ld.blk hb rfl)) ?_
    refine L.va rfl (X.assign (by conv => lhs; whnf)) ?_
    refine L.nil ?_
    -- ret
    refine J.ret ?_
    refine fin1 ?_
    exact ⟨rfl, h1, .of_ext hq⟩
end RdB
end Go.Proofs.Ytlohbkcedpkjaaa
