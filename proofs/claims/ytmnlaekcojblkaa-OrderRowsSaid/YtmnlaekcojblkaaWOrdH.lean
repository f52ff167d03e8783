/-
  Orders: slices.Clone at numbers and at values; rows that are a call's own.
-/
import Derived.Test.YtmnlaekcojblkaaWTouC
namespace Go.Proofs.Ytmnlaekcojblkaa
set_option maxRecDepth 100000
open Go.RowKit H
open Odr Tou
set_option linter.unusedVariables false
namespace H
theorem X.eqlNil {P : Program} {w : World} {f : Fr} {x y : Operand} {d : Option Tmp} {tx tz ty : TypeId} {pos : String} {aft : Array Edge} {g : Option (Nat × Bool)} {A : Option Addr} {n c e : Nat} (hx : ev f x = .slice A n c) (hy : ev f y = .slice none 0 0) (ht : P.underlying tx = some (.slice e)) : (execOp (ev f) ⟨d, .binOp .eql tx x y tz, ty, pos, aft, g⟩).run P w = .ok (.value (.bool A.isNone)) w :=
  X.bin hx hy (by simp [go_sem]) (by simp [binOp, show (Op.equal tx (.slice A n c) (.slice none 0 0)).run P w = .ok A.isNone w from run_equalIn_slice_nil w 9999 tx e A n c ht])
end H
theorem cloneI (A : Option Addr) (n c : Nat) (l : List Int) (w : World) (hr : Reads w w.heap.size 1 A n (nums .i64 l)) (hn : n ≤ 1000) : Calls Try.prog 72 #[.slice A n c] w fun e w' => ∃ A' c', e = .returned (.slice A' n c') ∧ w'.ownsRow w.heap.size 3 1 (.slice A' n c') n (nums .i64 l) ∧ Ext w w' := by
  have hl : l.length = n := by have := hr.1; simpa [nums] using this
  refine enter Try.func72 rfl (by kernel_rfl) ?_
  -- t4
  refine J.seq ?_
  refine J.region ?_
  refine L.va rfl (X.assign (by conv => lhs; whnf)) ?_
  refine L.nil ?_
  refine J.seq ?_
  refine J.seq ?_
  refine J.region ?_
  refine L.va rfl (X.move (by conv => lhs; whnf)) ?_
  refine L.va rfl (X.eqlNil rfl rfl Try.underlying29) ?_
  refine L.nil ?_
  -- cond
  rcases A with _ | a
  · obtain rfl : n = 0 := by
      apply Decidable.byContradiction
      intro h
      exact hr.some_ (by omega) rfl
    obtain rfl : l = [] := List.length_eq_zero_iff.1 hl
    refine J.iteT rfl ?_
    refine J.seq ?_
    refine J.region ?_
    refine L.va rfl (X.assign (by conv => lhs; whnf)) ?_
    refine L.nil ?_
    -- ret
    refine J.ret ?_
    refine thn_ret <| ?_
    refine fin1 ?_
    exact ⟨none, 0, rfl, own_nil _ _ _ _, Ext.refl _⟩
  · refine J.iteF rfl ?_
    refine J.skip ?_
    refine J.seq ?_
    refine J.region ?_
    -- buildSlice
    refine L.bslice (vs := []) rfl Evs.nil rfl rfl rfl rfl Try.underlying29 sz_3 zr_3 (by decide) ?_
    intro b1 w1 hb1 hs1 hk1 he1
    have ho1 : w1.ownsRow w.heap.size 3 1 (.slice (some ⟨b1, 0, none⟩) 0 0) 0 (nums .i64 []) := blk_own1 (q := 0) (l := []) hk1 (by omega) (Nat.zero_le _) rfl
    have z1 := he1.le
    refine L.va rfl (X.move (by conv => lhs; whnf)) ?_
    -- append
    refine L.appendQ (q := n) (ys := l) rfl rfl rfl Try.underlying29 el_3 (ho1) (hr.ext he1) (by omega) (by simp) (by unfold maxLen; omega) (by omega) ?_
    intro A2 c2 w2 ho2 hg2 hb2 hor2
    refine L.va rfl (X.assign (by conv => lhs; whnf)) ?_
    refine L.nil ?_
    -- ret
    refine J.ret ?_
    refine fin1 ?_
    exact ⟨A2, c2, rfl, ho2, he1.grw hg2 (by intro g hg; injection hg with hg; subst hg; show w.heap.size ≤ b1; omega)⟩
theorem cloneV (A : Option Addr) (n c : Nat) (l : List Vl) (w : World) (hr : Reads w w.heap.size 3 A n (l.flatMap Vl.vs)) (hn : n ≤ 1000) (hl : l.length = n) : Calls Try.prog 73 #[.slice A n c] w fun e w' => ∃ A' c', e = .returned (.slice A' n c') ∧ w'.ownsRow w.heap.size 102 3 (.slice A' n c') n (l.flatMap Vl.vs) ∧ Ext w w' := by
  refine enter Try.func73 rfl (by kernel_rfl) ?_
  -- t4
  refine J.seq ?_
  refine J.region ?_
  refine L.va rfl (X.assign (by conv => lhs; whnf)) ?_
  refine L.nil ?_
  refine J.seq ?_
  refine J.seq ?_
  refine J.region ?_
  refine L.va rfl (X.move (by conv => lhs; whnf)) ?_
  refine L.va rfl (X.eqlNil rfl rfl Try.underlying30) ?_
  refine L.nil ?_
  -- cond
  rcases A with _ | a
  · obtain rfl : n = 0 := by
      apply Decidable.byContradiction
      intro h
      exact hr.some_ (by omega) rfl
    obtain rfl : l = [] := List.length_eq_zero_iff.1 hl
    refine J.iteT rfl ?_
    refine J.seq ?_
    refine J.region ?_
    refine L.va rfl (X.assign (by conv => lhs; whnf)) ?_
    refine L.nil ?_
    -- ret
    refine J.ret ?_
    refine thn_ret <| ?_
    refine fin1 ?_
    exact ⟨none, 0, rfl, own_nil _ _ _ _, Ext.refl _⟩
  · refine J.iteF rfl ?_
    refine J.skip ?_
    refine J.seq ?_
    refine J.region ?_
    -- buildSlice
    refine L.bsliceR (ls := []) rfl Evs.nil rfl rfl rfl rfl Try.underlying30 sz_102 zr_102 (by decide) ?_
    intro b1 w1 hb1 hs1 hk1 he1
    have ho1 : w1.ownsRow w.heap.size 102 3 (.slice (some ⟨b1, 0, none⟩) 0 0) 0 (([] : List Vl).flatMap Vl.vs) := blk_own (size := 3) (q := 0) (c := 0) (l := []) hk1 (by omega) (Nat.le_refl _) (Nat.zero_le _) rfl
    have z1 := he1.le
    have hones : ((l.flatMap Vl.vs).all (·.oneCell')) = true := by
      rw [List.all_eq_true]
      intro v hv
      obtain ⟨x, _, hx⟩ := List.mem_flatMap.1 hv
      simp only [Vl.vs, List.mem_cons, List.not_mem_nil, or_false] at hx
      rcases hx with rfl | rfl | rfl <;> rfl
    refine L.va rfl (X.move (by conv => lhs; whnf)) ?_
    -- append
    refine L.appendV (q := n) (ys := l.flatMap Vl.vs) rfl rfl rfl Try.underlying30 el_102 (ho1) (hr.ext he1) (by first | rfl | exact strs_ones _ | assumption) (by omega) (by simp) (by unfold maxLen; omega) (by omega) ?_
    intro A2 c2 w2 ho2 hg2 hb2 hor2
    refine L.va rfl (X.assign (by conv => lhs; whnf)) ?_
    refine L.nil ?_
    -- ret
    refine J.ret ?_
    refine fin1 ?_
    exact ⟨A2, c2, rfl, ho2, he1.grw hg2 (by intro g hg; injection hg with hg; subst hg; show w.heap.size ≤ b1; omega)⟩
end Go.Proofs.Ytmnlaekcojblkaa
