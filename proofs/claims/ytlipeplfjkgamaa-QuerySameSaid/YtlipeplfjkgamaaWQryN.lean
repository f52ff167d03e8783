/-
  A query's plain form: query.Norm.
-/
import Derived.Test.YtlipeplfjkgamaaQryPlain
import Derived.Test.YtlipeplfjkgamaaWQryB
import Derived.Test.YtlipeplfjkgamaaWNrmG
import Derived.Test.YtlipeplfjkgamaaWClone
namespace Go.Proofs.Ytlipeplfjkgamaa
set_option maxRecDepth 100000
open Go.RowKit H
open Nrm (nrm)
set_option linter.unusedVariables false
theorem cloneC (A : Option Addr) (n c : Nat) (l : List (Int × Int)) (w : World) (hr : Reads w w.heap.size 2 A n (l.flatMap cV)) (hn : n ≤ 1000) (hl : l.length = n) : Calls Try.prog 86 #[.slice A n c] w fun e w' => ∃ A' c', e = .returned (.slice A' n c') ∧ w'.ownsRow w.heap.size 130 2 (.slice A' n c') n (l.flatMap cV) ∧ Ext w w' := by
  refine enter Try.func86 rfl (by kernel_rfl) ?_
  -- t4
  refine J.seq ?_
  refine J.region ?_
  refine L.va rfl (X.assign (by conv => lhs; whnf)) ?_
  refine L.nil ?_
  refine J.seq ?_
  refine J.seq ?_
  refine J.region ?_
  refine L.va rfl (X.move (by conv => lhs; whnf)) ?_
  refine L.va rfl (X.eqlNil rfl rfl Try.underlying52) ?_
  refine L.nil ?_
  -- cond
  rcases A with _ | a
  · obtain rfl : n = 0 := by
      apply Decidable.byContradiction
      intro h
      exact hr.some_ (by omega) rfl
    obtain rfl : l = [] := List.length_eq_zero_iff.1 hl
    refine J.iteT rfl ?_
    refine J.seq ?_
    refine J.region ?_
    refine L.va rfl (X.assign (by conv => lhs; whnf)) ?_
    refine L.nil ?_
    -- ret
    refine J.ret ?_
    refine thn_ret <| ?_
    refine fin1 ?_
    exact ⟨none, 0, rfl, own_nil _ _ _ _, Ext.refl _⟩
  · refine J.iteF rfl ?_
    refine J.skip ?_
    refine J.seq ?_
    refine J.region ?_
    -- buildSlice
    refine L.bsliceR (ls := []) rfl Evs.nil rfl rfl rfl rfl Try.underlying52 sz_130 zr_130 (by decide) ?_
    intro b1 w1 hb1 hs1 hk1 he1
    have ho1 : w1.ownsRow w.heap.size 130 2 (.slice (some ⟨b1, 0, none⟩) 0 0) 0 (([] : List (Int × Int)).flatMap cV) := blk_own (size := 2) (q := 0) (c := 0) (l := []) hk1 (by omega) (Nat.le_refl _) (Nat.zero_le _) rfl
    have z1 := he1.le
    have hones : ((l.flatMap cV).all (·.oneCell')) = true := by
      rw [List.all_eq_true]
      intro v hv
      obtain ⟨x, _, hx⟩ := List.mem_flatMap.1 hv
      simp only [cV, List.mem_cons, List.not_mem_nil, or_false] at hx
      rcases hx with rfl | rfl <;> rfl
    refine L.va rfl (X.move (by conv => lhs; whnf)) ?_
    -- append
    refine L.appendV (q := n) (ys := l.flatMap cV) rfl rfl rfl Try.underlying52 el_130 (ho1) (hr.ext he1) (by first | rfl | exact strs_ones _ | assumption) (by omega) (by simp) (by unfold maxLen; omega) (by omega) ?_
    intro A2 c2 w2 ho2 hg2 hb2 hor2
    refine L.va rfl (X.assign (by conv => lhs; whnf)) ?_
    refine L.nil ?_
    -- ret
    refine J.ret ?_
    refine fin1 ?_
    exact ⟨A2, c2, rfl, ho2, he1.grw hg2 (by intro g hg; injection hg with hg; subst hg; show w.heap.size ≤ b1; omega)⟩
theorem norm1 {x y : Int × Bool} {g : Nat} {w : World} (hg : Blk w g 98 (oV y).toArray) : Calls Try.prog 89 #[.agg (oV x).toArray, .pointer (some ⟨g, 0, none⟩)] w fun e w' => e = .returned (.bool (decide (x.1 = y.1))) ∧ Ext w w' := by
  refine enter Try.func89 rfl (by kernel_rfl) ?_
  refine J.seq ?_
  refine J.region ?_
  -- box
  refine L.boxA (l := [_, _]) rfl rfl ?_
  intro b1 w1 hb1 hs1 hk1 he1
  have hg1 := hg.ext he1
  have hk1 : Blk w1 b1 98 (oV x).toArray := hk1
  refine L.va rfl (X.assign (by conv => lhs; whnf)) ?_
  refine L.nil ?_
  refine J.seq ?_
  refine J.region ?_
  refine L.va rfl (X.fieldAddr rfl Try.underlying98 rfl sz_3 (by decide)) ?_
  refine L.va rfl (X.load rfl sc_3 (by first | exact Ld.blk hk1 rfl | exact Ld.blk hg1 rfl)) ?_
  refine L.va rfl (X.fieldAddr rfl Try.underlying98 rfl sz_3 (by decide)) ?_
  refine L.va rfl (X.load rfl sc_3 (by first | exact Ld.blk hk1 rfl | exact Ld.blk hg1 rfl)) ?_
  refine L.va rfl (X.eql rfl rfl) ?_
  refine L.va rfl (X.assign (by conv => lhs; whnf)) ?_
  refine L.nil ?_
  -- ret
  refine J.ret ?_
  refine fin1 ?_
  exact ⟨rfl, he1⟩
/-- the place of a column, or none -/
theorem idxF {A : Option Addr} {n c : Nat} {l : List (Int × Bool)} {y : Int × Bool} {g : Nat} {w : World} (hr : Reads w w.heap.size 2 A n (l.flatMap oV)) (hl : l.length = n) (hn : n ≤ maxLen) (hg : Blk w g 98 (oV y).toArray) : Calls Try.prog 176 #[.slice A n c, .func (.func 89) #[] #[.pointer (some ⟨g, 0, none⟩)]] w fun e w' => (∃ z : Int, e = .returned (.int .i64 z) ∧ (0 ≤ z ↔ hasC l y.1 = true)) ∧ Ext w w' := by
  unfold maxLen at hn
  refine enter Try.func176 rfl (by kernel_rfl) ?_
  refine J.seq ?_
  refine J.region ?_
  refine L.va rfl (X.assign (by conv => lhs; whnf)) ?_
  refine L.nil ?_
  refine J.seq ?_
  refine J.seq ?_
  refine J.region ?_
  refine L.va rfl (X.move (by conv => lhs; whnf)) ?_
  refine L.va rfl (X.len rfl Try.underlying22) ?_
  refine L.va rfl (X.move (by conv => lhs; whnf)) ?_
  refine L.nil ?_
  refine J.block ?_
  -- loop
  refine J.loop (X := Nat) [4, 5, 8, 9, 10, 11, 12, 13, 14, 15, 16, 17, 18] (fun i => [(8, .int .i64 (i : Int))]) (fun i w' => i ≤ n ∧ hasC (l.take i) y.1 = false ∧ Ext w w') (fun i => n - i) (0) (At1 (by first | rfl | exact at_int rfl (by omega) | exact at_slice rfl (by omega) | exact at_int rfl (by simp))) ?_ ?_
  · exact ⟨Nat.zero_le _, rfl, Ext.refl _⟩
  · rintro i g w3 ⟨hi, hP, he3⟩
    have z3 := he3.le
    have hr3 := hr.ext he3
    have hg3 := hg.ext he3
    refine J.seq ?_
    refine J.region ?_
    refine L.va rfl (X.lss rfl rfl) ?_
    refine L.nil ?_
    refine J.seq ?_
    -- cond
    refine J.dec rfl (fun hlt => ?_) (fun hlt => ?_)
    · have hin : i < n := by omega
      have hA := hr3.some_ (by omega)
      obtain ⟨x, hx⟩ : ∃ x, x = l.getD i o0 := ⟨_, rfl⟩
      have hgt := gtO (l := l) (i := i) (by omega)
      rw [← hx] at hgt
      -- t15
      refine J.skip ?_
      refine J.seq ?_
      refine J.block ?_
      refine J.seq ?_
      refine J.region ?_
      refine L.va rfl (X.move (by conv => lhs; whnf)) ?_
      refine L.va rfl (X.assign (by conv => lhs; whnf)) ?_
      refine L.nil ?_
      refine J.seq ?_
      refine J.region ?_
      refine L.va rfl (X.move (by conv => lhs; whnf)) ?_
      refine L.va rfl (X.move (by conv => lhs; whnf)) ?_
      refine L.va rfl (X.move (by conv => lhs; whnf)) ?_
      refine L.va rfl ((by first | exact X.indexAddrn rfl rfl Try.underlying22 sz_98 (by first | exact Option.some_ne_none _ | exact hA) (by omega) | exact X.indexAddr rfl rfl Try.underlying22 sz_98 (by first | exact Option.some_ne_none _ | exact hA) (by omega))) ?_
      refine L.va rfl (X.loadRow (cs := oV x) rfl hr3 (fun r u hu => flat_row oV_len hgt r u hu) (Nat.zero_lt_succ _) Try.underlying98 rfl (by kernel_rfl)) ?_
      -- callval
      refine L.callC rfl en_89 rfl rfl (norm1 (x := x) hg3) ?_
      rintro e w4 ⟨rfl, he4⟩
      refine ⟨_, rfl, ?_⟩
      have he04 := he3.trans he4
      have hst : l.take (i + 1) = l.take i ++ [x] := by rw [List.take_add_one, hgt]; rfl
      refine L.nil ?_
      -- cond
      by_cases hk : x.1 = y.1
      · rw [decide_eq_true hk]
        refine J.iteT rfl ?_
        refine J.seq ?_
        refine J.region ?_
        refine L.va rfl (X.move (by conv => lhs; whnf)) ?_
        refine L.va rfl (X.assign (by conv => lhs; whnf)) ?_
        refine L.nil ?_
        -- ret
        refine J.ret ?_
        refine inB_ret <|  thn_ret <|  thn_ret <|  inB_ret <|  thn_ret <| ?_
        refine fin1 ?_
        refine ⟨⟨_, rfl, ⟨fun _ => ?_, fun _ => Int.natCast_nonneg _⟩⟩, he04⟩
        exact hasC_iff.2 ⟨x, List.mem_of_getElem? hgt, hk⟩
      · rw [decide_eq_false hk]
        refine J.iteF rfl ?_
        refine J.skip ?_
        refine J.region ?_
        refine L.va rfl (X.add rfl rfl (by omega)) ?_
        refine L.va rfl (X.move (by conv => lhs; whnf)) ?_
        refine L.nil ?_
        -- loopend
        refine ⟨i + 1, At1 (by first | rfl | exact at_int rfl (by omega) | exact at_slice rfl (by omega) | exact at_int rfl (by simp)), (by (iterate 11 refine Agr.lk rfl ?_); exact Agr.lk rfl (Agr.hav rfl Agr.rfl')), ?_⟩
        refine ⟨⟨by omega, ?_, he04⟩, by omega⟩
        rw [hst, hasC_snoc, hP, decide_eq_false hk]
        rfl
    · have e : l.take i = l := List.take_of_length_le (by omega)
      rw [e] at hP
      refine J.exit ?_
      refine J.seq ?_
      refine J.region ?_
      refine L.va rfl (X.assign (by conv => lhs; whnf)) ?_
      refine L.nil ?_
      -- ret
      refine J.ret ?_
      refine fin1 ?_
      refine ⟨⟨_, rfl, ⟨fun h => absurd h (by decide), fun h => ?_⟩⟩, he3⟩
      rw [hP] at h
      cases h
theorem contF {A : Option Addr} {n c : Nat} {l : List (Int × Bool)} {y : Int × Bool} {g : Nat} {w : World} (hr : Reads w w.heap.size 2 A n (l.flatMap oV)) (hl : l.length = n) (hn : n ≤ maxLen) (hg : Blk w g 98 (oV y).toArray) : Calls Try.prog 88 #[.slice A n c, .func (.func 89) #[] #[.pointer (some ⟨g, 0, none⟩)]] w fun e w' => e = .returned (.bool (hasC l y.1)) ∧ Ext w w' := by
  refine enter Try.func88 rfl (by kernel_rfl) ?_
  refine J.seq ?_
  refine J.region ?_
  refine L.va rfl (X.assign (by conv => lhs; whnf)) ?_
  refine L.nil ?_
  refine J.seq ?_
  refine J.region ?_
  refine L.va rfl (X.move (by conv => lhs; whnf)) ?_
  refine L.va rfl (X.move (by conv => lhs; whnf)) ?_
  -- callfn slices.IndexFunc[[]bushel/api.Sort,bushel/api.Sort]
  refine L.call rfl en_176 rfl (idxF hr hl hn hg) ?_
  rintro e w1 ⟨⟨z, rfl, hz⟩, he1⟩
  refine ⟨_, rfl, ?_⟩
  refine L.va rfl (X.geq rfl rfl) ?_
  refine L.va rfl (X.assign (by conv => lhs; whnf)) ?_
  refine L.nil ?_
  -- ret
  refine J.ret ?_
  refine fin1 ?_
  refine ⟨?_, he1⟩
  have e : decide (z ≥ 0) = hasC l y.1 := by
    cases h : hasC l y.1
    · refine decide_eq_false fun k => ?_
      have := hz.1 k
      rw [h] at this
      cases this
    · exact decide_eq_true (hz.2 h)
  rw [← e]
  rfl
end Go.Proofs.Ytlipeplfjkgamaa
