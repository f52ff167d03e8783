/-
  Rows: values and rows compared.
-/
import Derived.Test.YtmnlaekcojblkaaWFloA
import Derived.Test.YtmnlaekcojblkaaAux
namespace Go.Proofs.Ytmnlaekcojblkaa
set_option maxRecDepth 100000
open Go.RowKit H
open Flo
set_option linter.unusedVariables false
/-- two lists alike, place by place -/
def eqL {α : Type} (R : α → α → Bool) (d : α) (a b : List α) : Bool := decide (a.length = b.length) && (List.range a.length).all fun i => R (a.getD i d) (b.getD i d)
section
variable {α : Type} {R : α → α → Bool} {d : α} {a b : List α}
theorem eqL_len (h : a.length ≠ b.length) : eqL R d a b = false := by unfold eqL; rw [decide_eq_false h]; rfl
theorem eqL_no {i : Nat} (h : i < a.length) (hR : R (a.getD i d) (b.getD i d) = false) : eqL R d a b = false := by
  unfold eqL
  rw [Bool.and_eq_false_iff]
  refine .inr ?_
  rw [Bool.eq_false_iff]
  intro hh
  have := List.all_eq_true.1 hh i (List.mem_range.2 h)
  rw [hR] at this
  cases this
theorem eqL_yes (h : a.length = b.length) (hR : ∀ i, i < a.length → R (a.getD i d) (b.getD i d) = true) : eqL R d a b = true := by
  unfold eqL
  rw [decide_eq_true h, Bool.true_and, List.all_eq_true]
  intro i hi
  exact hR i (List.mem_range.1 hi)
theorem eqL_ok (h : eqL R d a b = true) : a.length = b.length ∧ ∀ i, i < a.length → R (a.getD i d) (b.getD i d) = true := by
  unfold eqL at h
  rw [Bool.and_eq_true, decide_eq_true_iff, List.all_eq_true] at h
  exact ⟨h.1, fun i hi => h.2 i (List.mem_range.2 hi)⟩
end
/-- a value -/
structure Vl where
  r : Bool
  n : Int
  x : Nat
namespace Vl
abbrev vs (v : Vl) : List Value := [.bool v.r, .int .i64 v.n, .float .f64 v.x]
abbrev val (v : Vl) : Value := .agg v.vs.toArray
def z : Vl := ⟨false, 0, 0⟩
def same (a b : Vl) : Bool := if a.r = b.r then (if a.r = true then sameF a.x b.x else decide (a.n = b.n)) else false
end Vl
theorem dsame (a b : Vl) (w : World) (ha : a.x < 18446744073709551616) (hb : b.x < 18446744073709551616) : Calls Try.prog 84 #[a.val, b.val] w fun e w' => e = .returned (.bool (a.same b)) ∧ Ext w w' := by
  obtain ⟨ar, an, ax⟩ := a
  obtain ⟨br, bn, bx⟩ := b
  dsimp only at ha hb
  refine enter Try.func84 rfl (by kernel_rfl) ?_
  refine J.seq ?_
  refine J.region ?_
  -- box
  refine L.boxA (l := [_, _, _]) rfl rfl ?_
  intro b1 w1 hb1 hs1 hk1 he1
  -- box
  refine L.boxA (l := [_, _, _]) rfl rfl ?_
  intro b2 w2 hb2 hs2 hk2 he2
  have hk12 := hk1.ext he2
  have he := he1.trans he2
  have hc : (ar = true ∧ br = true) ∨ (ar = false ∧ br = false) ∨ (ar = true ∧ br = false) ∨ (ar = false ∧ br = true) := by cases ar <;> cases br <;> simp
  rcases hc with ⟨rfl, rfl⟩ | ⟨rfl, rfl⟩ | ⟨rfl, rfl⟩ | ⟨rfl, rfl⟩
  · refine L.va rfl (X.assign (by conv => lhs; whnf)) ?_
    refine L.nil ?_
    refine J.seq ?_
    refine J.seq ?_
    refine J.region ?_
    refine L.va rfl (X.fieldAddr rfl Try.underlying102 rfl sz_4 (by decide)) ?_
    refine L.va rfl (X.load rfl sc_4 (by first | exact Ld.blk hk2 rfl | exact Ld.blk hk12 rfl)) ?_
    refine L.va rfl (X.fieldAddr rfl Try.underlying102 rfl sz_4 (by decide)) ?_
    refine L.va rfl (X.load rfl sc_4 (by first | exact Ld.blk hk2 rfl | exact Ld.blk hk12 rfl)) ?_
    refine L.va rfl (X.neqB rfl rfl Try.underlying4) ?_
    refine L.nil ?_
    -- cond
    refine J.iteF rfl ?_
    refine J.skip ?_
    refine J.seq ?_
    refine J.seq ?_
    refine J.region ?_
    refine L.va rfl (X.fieldAddr rfl Try.underlying102 rfl sz_4 (by decide)) ?_
    refine L.va rfl (X.load rfl sc_4 (by first | exact Ld.blk hk2 rfl | exact Ld.blk hk12 rfl)) ?_
    refine L.nil ?_
    -- cond
    refine J.iteT rfl ?_
    refine J.seq ?_
    refine J.region ?_
    refine L.va rfl (X.fieldAddr rfl Try.underlying102 rfl sz_100 (by decide)) ?_
    refine L.va rfl (X.load rfl sc_100 (by first | exact Ld.blk hk2 rfl | exact Ld.blk hk12 rfl)) ?_
    refine L.va rfl (X.fieldAddr rfl Try.underlying102 rfl sz_100 (by decide)) ?_
    refine L.va rfl (X.load rfl sc_100 (by first | exact Ld.blk hk2 rfl | exact Ld.blk hk12 rfl)) ?_
    -- callfn bushel/flo.Same
    refine L.call rfl en_134 rfl (flo_same ax bx w2 ha hb) ?_
    rintro e _ ⟨rfl, rfl⟩
    refine ⟨_, rfl, ?_⟩
    refine L.va rfl (X.assign (by conv => lhs; whnf)) ?_
    refine L.nil ?_
    -- ret
    refine J.ret ?_
    refine thn_ret <| ?_
    refine fin1 ?_
    exact ⟨rfl, he⟩
  · refine L.va rfl (X.assign (by conv => lhs; whnf)) ?_
    refine L.nil ?_
    refine J.seq ?_
    refine J.seq ?_
    refine J.region ?_
    refine L.va rfl (X.fieldAddr rfl Try.underlying102 rfl sz_4 (by decide)) ?_
    refine L.va rfl (X.load rfl sc_4 (by first | exact Ld.blk hk2 rfl | exact Ld.blk hk12 rfl)) ?_
    refine L.va rfl (X.fieldAddr rfl Try.underlying102 rfl sz_4 (by decide)) ?_
    refine L.va rfl (X.load rfl sc_4 (by first | exact Ld.blk hk2 rfl | exact Ld.blk hk12 rfl)) ?_
    refine L.va rfl (X.neqB rfl rfl Try.underlying4) ?_
    refine L.nil ?_
    -- cond
    refine J.iteF rfl ?_
    refine J.skip ?_
    refine J.seq ?_
    refine J.seq ?_
    refine J.region ?_
    refine L.va rfl (X.fieldAddr rfl Try.underlying102 rfl sz_4 (by decide)) ?_
    refine L.va rfl (X.load rfl sc_4 (by first | exact Ld.blk hk2 rfl | exact Ld.blk hk12 rfl)) ?_
    refine L.nil ?_
    -- cond
    refine J.iteF rfl ?_
    refine J.skip ?_
    refine J.seq ?_
    refine J.region ?_
    refine L.va rfl (X.fieldAddr rfl Try.underlying102 rfl sz_2 (by decide)) ?_
    refine L.va rfl (X.load rfl sc_2 (by first | exact Ld.blk hk2 rfl | exact Ld.blk hk12 rfl)) ?_
    refine L.va rfl (X.fieldAddr rfl Try.underlying102 rfl sz_2 (by decide)) ?_
    refine L.va rfl (X.load rfl sc_2 (by first | exact Ld.blk hk2 rfl | exact Ld.blk hk12 rfl)) ?_
    refine L.va rfl (X.eql rfl rfl) ?_
    refine L.va rfl (X.assign (by conv => lhs; whnf)) ?_
    refine L.nil ?_
    -- ret
    refine J.ret ?_
    refine fin1 ?_
    exact ⟨rfl, he⟩
  · refine L.va rfl (X.assign (by conv => lhs; whnf)) ?_
    refine L.nil ?_
    refine J.seq ?_
    refine J.seq ?_
    refine J.region ?_
    refine L.va rfl (X.fieldAddr rfl Try.underlying102 rfl sz_4 (by decide)) ?_
    refine L.va rfl (X.load rfl sc_4 (by first | exact Ld.blk hk2 rfl | exact Ld.blk hk12 rfl)) ?_
    refine L.va rfl (X.fieldAddr rfl Try.underlying102 rfl sz_4 (by decide)) ?_
    refine L.va rfl (X.load rfl sc_4 (by first | exact Ld.blk hk2 rfl | exact Ld.blk hk12 rfl)) ?_
    refine L.va rfl (X.neqB rfl rfl Try.underlying4) ?_
    refine L.nil ?_
    -- cond
    refine J.iteT rfl ?_
    refine J.seq ?_
    refine J.region ?_
    refine L.va rfl (X.assign (by conv => lhs; whnf)) ?_
    refine L.nil ?_
    -- ret
    refine J.ret ?_
    refine thn_ret <| ?_
    refine fin1 ?_
    exact ⟨rfl, he⟩
  · refine L.va rfl (X.assign (by conv => lhs; whnf)) ?_
    refine L.nil ?_
    refine J.seq ?_
    refine J.seq ?_
    refine J.region ?_
    refine L.va rfl (X.fieldAddr rfl Try.underlying102 rfl sz_4 (by decide)) ?_
    refine L.va rfl (X.load rfl sc_4 (by first | exact Ld.blk hk2 rfl | exact Ld.blk hk12 rfl)) ?_
    refine L.va rfl (X.fieldAddr rfl Try.underlying102 rfl sz_4 (by decide)) ?_
    refine L.va rfl (X.load rfl sc_4 (by first | exact Ld.blk hk2 rfl | exact Ld.blk hk12 rfl)) ?_
    refine L.va rfl (X.neqB rfl rfl Try.underlying4) ?_
    refine L.nil ?_
    -- cond
    refine J.iteT rfl ?_
    refine J.seq ?_
    refine J.region ?_
    refine L.va rfl (X.assign (by conv => lhs; whnf)) ?_
    refine L.nil ?_
    -- ret
    refine J.ret ?_
    refine thn_ret <| ?_
    refine fin1 ?_
    exact ⟨rfl, he⟩
theorem rsame32 (a b : Vl) (w : World) (ha : a.x < 18446744073709551616) (hb : b.x < 18446744073709551616) : Calls Try.prog 85 #[a.val, b.val] w fun e w' => e = .returned (.bool (a.same b)) ∧ Ext w w' := by
  obtain ⟨ar, an, ax⟩ := a
  obtain ⟨br, bn, bx⟩ := b
  dsimp only at ha hb
  refine enter Try.func85 rfl (by kernel_rfl) ?_
  refine J.seq ?_
  refine J.region ?_
  -- box
  refine L.boxA (l := [_, _, _]) rfl rfl ?_
  intro b1 w1 hb1 hs1 hk1 he1
  -- box
  refine L.boxA (l := [_, _, _]) rfl rfl ?_
  intro b2 w2 hb2 hs2 hk2 he2
  have hk12 := hk1.ext he2
  have he := he1.trans he2
  have hc : (ar = true ∧ br = true) ∨ (ar = false ∧ br = false) ∨ (ar = true ∧ br = false) ∨ (ar = false ∧ br = true) := by cases ar <;> cases br <;> simp
  rcases hc with ⟨rfl, rfl⟩ | ⟨rfl, rfl⟩ | ⟨rfl, rfl⟩ | ⟨rfl, rfl⟩
  · refine L.va rfl (X.assign (by conv => lhs; whnf)) ?_
    refine L.nil ?_
    refine J.seq ?_
    refine J.region ?_
    refine L.va rfl (X.fieldAddr rfl Try.underlying102 rfl sz_4 (by decide)) ?_
    refine L.va rfl (X.load rfl sc_4 (by first | exact Ld.blk hk2 rfl | exact Ld.blk hk12 rfl)) ?_
    refine L.va rfl (X.fieldAddr rfl Try.underlying102 rfl sz_4 (by decide)) ?_
    refine L.va rfl (X.load rfl sc_4 (by first | exact Ld.blk hk2 rfl | exact Ld.blk hk12 rfl)) ?_
    refine L.va rfl (X.eqlB rfl rfl Try.underlying4) ?_
    refine L.va rfl (X.move (by conv => lhs; whnf)) ?_
    -- case t10
    refine L.caseBT (k := 10) rfl (by rfl) ?_
    refine L.va rfl (X.fieldAddr rfl Try.underlying102 rfl sz_4 (by decide)) ?_
    refine L.va rfl (X.load rfl sc_4 (by first | exact Ld.blk hk2 rfl | exact Ld.blk hk12 rfl)) ?_
    refine L.va rfl (X.move (by conv => lhs; whnf)) ?_
    -- case t13
    refine L.caseBT (k := 13) rfl (by rfl) ?_
    refine L.no rfl ?_
    refine L.no rfl ?_
    refine L.no rfl ?_
    refine L.no rfl ?_
    refine L.no rfl ?_
    refine L.va rfl (X.pickT rfl (by conv => lhs; whnf)) ?_
    refine L.va rfl (X.pickT rfl (by conv => lhs; whnf)) ?_
    refine L.va rfl (X.move (by conv => lhs; whnf)) ?_
    refine L.va rfl (X.fieldAddr rfl Try.underlying102 rfl sz_4 (by decide)) ?_
    refine L.va rfl (X.load rfl sc_4 (by first | exact Ld.blk hk2 rfl | exact Ld.blk hk12 rfl)) ?_
    refine L.va rfl (X.not rfl) ?_
    refine L.va rfl (X.move (by conv => lhs; whnf)) ?_
    -- case t25
    refine L.caseBF (k := 25) rfl (by rfl) ?_
    refine L.va rfl (X.fieldAddr rfl Try.underlying102 rfl sz_100 (by decide)) ?_
    refine L.va rfl (X.load rfl sc_100 (by first | exact Ld.blk hk2 rfl | exact Ld.blk hk12 rfl)) ?_
    refine L.va rfl (X.fieldAddr rfl Try.underlying102 rfl sz_100 (by decide)) ?_
    refine L.va rfl (X.load rfl sc_100 (by first | exact Ld.blk hk2 rfl | exact Ld.blk hk12 rfl)) ?_
    -- callfn bushel/bushelref03.Same
    refine L.call rfl en_135 rfl (same03 ax bx w2 ha hb) ?_
    rintro e w3 ⟨rfl, he3⟩
    refine ⟨_, rfl, ?_⟩
    refine L.va rfl (X.pickF rfl (by conv => lhs; whnf)) ?_
    refine L.va rfl (X.pickT rfl (by conv => lhs; whnf)) ?_
    refine L.va rfl (X.assign (by conv => lhs; whnf)) ?_
    refine L.nil ?_
    -- ret
    refine J.ret ?_
    refine fin1 ?_
    exact ⟨rfl, he.trans he3⟩
  · refine L.va rfl (X.assign (by conv => lhs; whnf)) ?_
    refine L.nil ?_
    refine J.seq ?_
    refine J.region ?_
    refine L.va rfl (X.fieldAddr rfl Try.underlying102 rfl sz_4 (by decide)) ?_
    refine L.va rfl (X.load rfl sc_4 (by first | exact Ld.blk hk2 rfl | exact Ld.blk hk12 rfl)) ?_
    refine L.va rfl (X.fieldAddr rfl Try.underlying102 rfl sz_4 (by decide)) ?_
    refine L.va rfl (X.load rfl sc_4 (by first | exact Ld.blk hk2 rfl | exact Ld.blk hk12 rfl)) ?_
    refine L.va rfl (X.eqlB rfl rfl Try.underlying4) ?_
    refine L.va rfl (X.move (by conv => lhs; whnf)) ?_
    -- case t10
    refine L.caseBT (k := 10) rfl (by rfl) ?_
    refine L.va rfl (X.fieldAddr rfl Try.underlying102 rfl sz_4 (by decide)) ?_
    refine L.va rfl (X.load rfl sc_4 (by first | exact Ld.blk hk2 rfl | exact Ld.blk hk12 rfl)) ?_
    refine L.va rfl (X.move (by conv => lhs; whnf)) ?_
    -- case t13
    refine L.caseBF (k := 13) rfl (by rfl) ?_
    refine L.va rfl (X.fieldAddr rfl Try.underlying102 rfl sz_2 (by decide)) ?_
    refine L.va rfl (X.load rfl sc_2 (by first | exact Ld.blk hk2 rfl | exact Ld.blk hk12 rfl)) ?_
    refine L.va rfl (X.fieldAddr rfl Try.underlying102 rfl sz_2 (by decide)) ?_
    refine L.va rfl (X.load rfl sc_2 (by first | exact Ld.blk hk2 rfl | exact Ld.blk hk12 rfl)) ?_
    refine L.va rfl (X.eql rfl rfl) ?_
    refine L.va rfl (X.pickF rfl (by conv => lhs; whnf)) ?_
    refine L.va rfl (X.pickT rfl (by conv => lhs; whnf)) ?_
    refine L.va rfl (X.move (by conv => lhs; whnf)) ?_
    -- case t21
    refine L.caseDec (k := 21) rfl (fun hn => ?_) (fun hn => ?_)
    · refine L.va rfl (X.fieldAddr rfl Try.underlying102 rfl sz_4 (by decide)) ?_
      refine L.va rfl (X.load rfl sc_4 (by first | exact Ld.blk hk2 rfl | exact Ld.blk hk12 rfl)) ?_
      refine L.va rfl (X.not rfl) ?_
      refine L.va rfl (X.move (by conv => lhs; whnf)) ?_
      -- case t25
      refine L.caseBT (k := 25) rfl (by rfl) ?_
      refine L.no rfl ?_
      refine L.no rfl ?_
      refine L.no rfl ?_
      refine L.no rfl ?_
      refine L.no rfl ?_
      refine L.va rfl (X.pickT rfl (by conv => lhs; whnf)) ?_
      refine L.va rfl (X.pickT rfl (by conv => lhs; whnf)) ?_
      refine L.va rfl (X.assign (by conv => lhs; whnf)) ?_
      refine L.nil ?_
      -- ret
      refine J.ret ?_
      refine fin1 ?_
      exact ⟨by unfold Vl.same; rw [if_pos rfl, if_neg (by simp), decide_eq_true hn]; rfl, he⟩
    · refine L.no rfl ?_
      refine L.no rfl ?_
      refine L.no rfl ?_
      refine L.no rfl ?_
      refine L.no rfl ?_
      refine L.no rfl ?_
      refine L.no rfl ?_
      refine L.no rfl ?_
      refine L.no rfl ?_
      refine L.no rfl ?_
      refine L.va rfl (X.pickF rfl (by conv => lhs; whnf)) ?_
      refine L.va rfl (X.assign (by conv => lhs; whnf)) ?_
      refine L.nil ?_
      -- ret
      refine J.ret ?_
      refine fin1 ?_
      exact ⟨by unfold Vl.same; rw [if_pos rfl, if_neg (by simp), decide_eq_false hn]; rfl, he⟩
  · refine L.va rfl (X.assign (by conv => lhs; whnf)) ?_
    refine L.nil ?_
    refine J.seq ?_
    refine J.region ?_
    refine L.va rfl (X.fieldAddr rfl Try.underlying102 rfl sz_4 (by decide)) ?_
    refine L.va rfl (X.load rfl sc_4 (by first | exact Ld.blk hk2 rfl | exact Ld.blk hk12 rfl)) ?_
    refine L.va rfl (X.fieldAddr rfl Try.underlying102 rfl sz_4 (by decide)) ?_
    refine L.va rfl (X.load rfl sc_4 (by first | exact Ld.blk hk2 rfl | exact Ld.blk hk12 rfl)) ?_
    refine L.va rfl (X.eqlB rfl rfl Try.underlying4) ?_
    refine L.va rfl (X.move (by conv => lhs; whnf)) ?_
    -- case t10
    refine L.caseBF (k := 10) rfl (by rfl) ?_
    refine L.no rfl ?_
    refine L.no rfl ?_
    refine L.no rfl ?_
    refine L.no rfl ?_
    refine L.no rfl ?_
    refine L.no rfl ?_
    refine L.no rfl ?_
    refine L.no rfl ?_
    refine L.no rfl ?_
    refine L.va rfl (X.pickF rfl (by conv => lhs; whnf)) ?_
    refine L.va rfl (X.move (by conv => lhs; whnf)) ?_
    refine L.no rfl ?_
    refine L.no rfl ?_
    refine L.no rfl ?_
    refine L.no rfl ?_
    refine L.no rfl ?_
    refine L.no rfl ?_
    refine L.no rfl ?_
    refine L.no rfl ?_
    refine L.no rfl ?_
    refine L.no rfl ?_
    refine L.va rfl (X.pickF rfl (by conv => lhs; whnf)) ?_
    refine L.va rfl (X.assign (by conv => lhs; whnf)) ?_
    refine L.nil ?_
    -- ret
    refine J.ret ?_
    refine fin1 ?_
    exact ⟨rfl, he⟩
  · refine L.va rfl (X.assign (by conv => lhs; whnf)) ?_
    refine L.nil ?_
    refine J.seq ?_
    refine J.region ?_
    refine L.va rfl (X.fieldAddr rfl Try.underlying102 rfl sz_4 (by decide)) ?_
    refine L.va rfl (X.load rfl sc_4 (by first | exact Ld.blk hk2 rfl | exact Ld.blk hk12 rfl)) ?_
    refine L.va rfl (X.fieldAddr rfl Try.underlying102 rfl sz_4 (by decide)) ?_
    refine L.va rfl (X.load rfl sc_4 (by first | exact Ld.blk hk2 rfl | exact Ld.blk hk12 rfl)) ?_
    refine L.va rfl (X.eqlB rfl rfl Try.underlying4) ?_
    refine L.va rfl (X.move (by conv => lhs; whnf)) ?_
    -- case t10
    refine L.caseBF (k := 10) rfl (by rfl) ?_
    refine L.no rfl ?_
    refine L.no rfl ?_
    refine L.no rfl ?_
    refine L.no rfl ?_
    refine L.no rfl ?_
    refine L.no rfl ?_
    refine L.no rfl ?_
    refine L.no rfl ?_
    refine L.no rfl ?_
    refine L.va rfl (X.pickF rfl (by conv => lhs; whnf)) ?_
    refine L.va rfl (X.move (by conv => lhs; whnf)) ?_
    refine L.no rfl ?_
    refine L.no rfl ?_
    refine L.no rfl ?_
    refine L.no rfl ?_
    refine L.no rfl ?_
    refine L.no rfl ?_
    refine L.no rfl ?_
    refine L.no rfl ?_
    refine L.no rfl ?_
    refine L.no rfl ?_
    refine L.va rfl (X.pickF rfl (by conv => lhs; whnf)) ?_
    refine L.va rfl (X.assign (by conv => lhs; whnf)) ?_
    refine L.nil ?_
    -- ret
    refine J.ret ?_
    refine fin1 ?_
    exact ⟨rfl, he⟩
end Go.Proofs.Ytmnlaekcojblkaa
