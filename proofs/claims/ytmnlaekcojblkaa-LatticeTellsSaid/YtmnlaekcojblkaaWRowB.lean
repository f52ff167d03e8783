/-
  Rows compared: the whole; lists of numbers; which rows are light.
-/
import Derived.Test.YtmnlaekcojblkaaWRowA
namespace Go.Proofs.Ytmnlaekcojblkaa
set_option maxRecDepth 100000
open Go.RowKit H
open Flo
set_option linter.unusedVariables false
def eqI (a b : List Int) : Bool := eqL (fun x y => decide (x = y)) 0 a b
theorem eqI_self (a : List Int) : eqI a a = true := eqL_yes rfl (fun i _ => by simp)
theorem eqI_iff {a b : List Int} : eqI a b = true ↔ a = b := by
  constructor
  · intro h
    obtain ⟨h1, h2⟩ := eqL_ok h
    apply List.ext_getElem h1
    intro i k1 k2
    have := of_decide_eq_true (h2 i k1)
    simpa [List.getD, k1, k2] using this
  · rintro rfl; exact eqI_self a
theorem equalI (A1 : Option Addr) (n1 c1 : Nat) (A2 : Option Addr) (n2 c2 : Nat) (a b : List Int) (w : World) (h1 : Reads w w.heap.size 1 A1 n1 (nums .i64 a)) (h2 : Reads w w.heap.size 1 A2 n2 (nums .i64 b)) (hn1 : n1 ≤ maxLen) (hn2 : n2 ≤ maxLen) :
    Calls Try.prog 82 #[.slice A1 n1 c1, .slice A2 n2 c2] w fun e w' => e = .returned (.bool (eqI a b)) ∧ Ext w w' := by
  have l1 : a.length = n1 := by have := h1.1; simpa [nums] using this
  have l2 : b.length = n2 := by have := h2.1; simpa [nums] using this
  unfold maxLen at hn1 hn2
  refine enter Try.func82 rfl (by kernel_rfl) ?_
  refine J.seq ?_
  refine J.region ?_
  refine L.va rfl (X.assign (by conv => lhs; whnf)) ?_
  refine L.nil ?_
  refine J.seq ?_
  refine J.seq ?_
  refine J.region ?_
  refine L.va rfl (X.move (by conv => lhs; whnf)) ?_
  refine L.va rfl (X.len rfl Try.underlying29) ?_
  refine L.va rfl (X.move (by conv => lhs; whnf)) ?_
  refine L.va rfl (X.len rfl Try.underlying29) ?_
  refine L.va rfl (X.neq rfl rfl) ?_
  refine L.nil ?_
  -- cond
  refine J.ndec rfl (fun hne => ?_) (fun hne => ?_)
  · rw [show eqI a b = false from eqL_len (by omega)]
    refine J.seq ?_
    refine J.region ?_
    refine L.va rfl (X.assign (by conv => lhs; whnf)) ?_
    refine L.nil ?_
    -- ret
    refine J.ret ?_
    refine thn_ret <| ?_
    refine fin1 ?_
    exact ⟨rfl, Ext.refl _⟩
  · refine J.skip ?_
    refine J.seq ?_
    refine J.seq ?_
    refine J.region ?_
    refine L.va rfl (X.move (by conv => lhs; whnf)) ?_
    refine L.va rfl (X.len rfl Try.underlying29) ?_
    refine L.va rfl (X.move (by conv => lhs; whnf)) ?_
    refine L.nil ?_
    refine J.block ?_
    -- loop
    refine J.loop (X := Nat) [4, 5, 13, 14, 15, 16, 17, 18, 19, 20, 21, 22, 23, 24, 25] (fun i => [(13, .int .i64 (i : Int))]) (fun i w' => i ≤ n1 ∧ (∀ j, j < i → decide (a.getD j 0 = b.getD j 0) = true) ∧ Ext w w') (fun i => n1 - i) (0) (At1 (by first | rfl | exact at_int rfl (by omega) | exact at_slice rfl (by omega) | exact at_int rfl (by simp))) ?_ ?_
    · exact ⟨by omega, fun j hj => absurd hj (by omega), Ext.refl _⟩
    · rintro i g w2 ⟨hi, hP, he⟩
      have k1 := h1.ext he
      have k2 := h2.ext he
      refine J.seq ?_
      refine J.region ?_
      refine L.va rfl (X.lss rfl rfl) ?_
      refine L.nil ?_
      refine J.seq ?_
      -- cond
      refine J.dec rfl (fun hlt => ?_) (fun hlt => ?_)
      · have hA1 := k1.some_ (by omega)
        have hA2 := k2.some_ (by omega)
        refine J.skip ?_
        refine J.seq ?_
        refine J.block ?_
        refine J.seq ?_
        refine J.region ?_
        refine L.va rfl (X.move (by conv => lhs; whnf)) ?_
        refine L.va rfl (X.assign (by conv => lhs; whnf)) ?_
        refine L.nil ?_
        refine J.seq ?_
        -- draw
        refine J.quiet mixed (by kernel_rfl) ?_
        refine Qt.va rfl (fun w' hw => X.move (by conv => lhs; whnf)) ?_
        refine Qt.va rfl (fun w' hw => X.move (by conv => lhs; whnf)) ?_
        refine Qt.va rfl (fun w' hw => (by first | exact X.index1n rfl rfl Try.underlying29 sz_3 (by first | exact Option.some_ne_none _ | exact k1.some_ (by omega) | exact k2.some_ (by omega) | exact hA1 | exact hA2) (by omega) | exact X.index1 rfl rfl Try.underlying29 sz_3 (by first | exact Option.some_ne_none _ | exact k1.some_ (by omega) | exact k2.some_ (by omega) | exact hA1 | exact hA2) (by omega))) ?_
        refine Qt.va rfl (fun w' hw => X.load rfl sc_3 (by first | exact Ld.num (k1.ext hw) (by omega) | exact Ld.num (k2.ext hw) (by omega) | exact hA1 | exact hA2)) ?_
        refine Qt.va rfl (fun w' hw => X.move (by conv => lhs; whnf)) ?_
        refine Qt.va rfl (fun w' hw => X.move (by conv => lhs; whnf)) ?_
        refine Qt.va rfl (fun w' hw => (by first | exact X.index1n rfl rfl Try.underlying29 sz_3 (by first | exact Option.some_ne_none _ | exact k1.some_ (by omega) | exact k2.some_ (by omega) | exact hA1 | exact hA2) (by omega) | exact X.index1 rfl rfl Try.underlying29 sz_3 (by first | exact Option.some_ne_none _ | exact k1.some_ (by omega) | exact k2.some_ (by omega) | exact hA1 | exact hA2) (by omega))) ?_
        refine Qt.va rfl (fun w' hw => X.load rfl sc_3 (by first | exact Ld.num (k1.ext hw) (by omega) | exact Ld.num (k2.ext hw) (by omega) | exact hA1 | exact hA2)) ?_
        refine Qt.va rfl (fun w' hw => X.neq rfl rfl) ?_
        refine Qt.nil (fun w3 hq => ?_)
        replace k1 := k1.ext hq
        replace k2 := k2.ext hq
        -- cond
        refine J.ndec rfl (fun hd => ?_) (fun hd => ?_)
        · rw [show eqI a b = false from eqL_no (i := i) (by omega) (decide_eq_false hd)]
          refine J.seq ?_
          refine J.region ?_
          refine L.va rfl (X.assign (by conv => lhs; whnf)) ?_
          refine L.nil ?_
          -- ret
          refine J.ret ?_
          refine inB_ret <|  thn_ret <|  thn_ret <|  inB_ret <|  thn_ret <| ?_
          refine fin1 ?_
          exact ⟨rfl, he.trans hq⟩
        · skip
          refine J.skip ?_
          refine J.region ?_
          refine L.va rfl (X.add rfl rfl (by omega)) ?_
          refine L.va rfl (X.move (by conv => lhs; whnf)) ?_
          refine L.nil ?_
          -- loopend
          refine ⟨i + 1, At1 (by first | rfl | exact at_int rfl (by omega) | exact at_slice rfl (by omega) | exact at_int rfl (by simp)), (by (iterate 14 refine Agr.lk rfl ?_); exact Agr.lk rfl (Agr.hav rfl Agr.rfl')), ?_⟩
          refine ⟨⟨by omega, fun j hj => ?_, he.trans hq⟩, by omega⟩
          rcases Nat.lt_or_ge j i with h | h
          · exact hP j h
          · obtain rfl : j = i := by omega
            exact decide_eq_true hd
      · rw [show eqI a b = true from eqL_yes (by omega) (fun j hj => hP j (by omega))]
        refine J.exit ?_
        refine J.seq ?_
        refine J.region ?_
        refine L.va rfl (X.assign (by conv => lhs; whnf)) ?_
        refine L.nil ?_
        -- ret
        refine J.ret ?_
        refine fin1 ?_
        exact ⟨rfl, he⟩
theorem ints16 (A1 : Option Addr) (n1 c1 : Nat) (A2 : Option Addr) (n2 c2 : Nat) (a b : List Int) (w : World) (h1 : Reads w w.heap.size 1 A1 n1 (nums .i64 a)) (h2 : Reads w w.heap.size 1 A2 n2 (nums .i64 b)) (hn1 : n1 ≤ maxLen) (hn2 : n2 ≤ maxLen) :
    Calls Try.prog 28 #[.slice A1 n1 c1, .slice A2 n2 c2] w fun e w' => e = .returned (.bool (eqI a b)) ∧ Ext w w' := by
  have l1 : a.length = n1 := by have := h1.1; simpa [nums] using this
  have l2 : b.length = n2 := by have := h2.1; simpa [nums] using this
  unfold maxLen at hn1 hn2
  refine enter Try.func28 rfl (by kernel_rfl) ?_
  refine J.seq ?_
  refine J.region ?_
  refine L.va rfl (X.assign (by conv => lhs; whnf)) ?_
  refine L.nil ?_
  refine J.seq ?_
  refine J.seq ?_
  refine J.region ?_
  refine L.va rfl (X.move (by conv => lhs; whnf)) ?_
  refine L.va rfl (X.len rfl Try.underlying29) ?_
  refine L.va rfl (X.move (by conv => lhs; whnf)) ?_
  refine L.va rfl (X.len rfl Try.underlying29) ?_
  refine L.va rfl (X.neq rfl rfl) ?_
  refine L.nil ?_
  -- cond
  refine J.ndec rfl (fun hne => ?_) (fun hne => ?_)
  · rw [show eqI a b = false from eqL_len (by omega)]
    refine J.seq ?_
    refine J.region ?_
    refine L.va rfl (X.assign (by conv => lhs; whnf)) ?_
    refine L.nil ?_
    -- ret
    refine J.ret ?_
    refine thn_ret <| ?_
    refine fin1 ?_
    exact ⟨rfl, Ext.refl _⟩
  · refine J.skip ?_
    refine J.seq ?_
    refine J.seq ?_
    refine J.region ?_
    refine L.va rfl (X.assign (by conv => lhs; whnf)) ?_
    refine L.nil ?_
    refine J.block ?_
    -- loop
    refine J.loop (X := Nat) [4, 5, 11, 12, 13, 14, 15, 16, 17, 18, 19, 20, 21, 22, 23, 24, 25] (fun i => [(5, .int .i64 (i : Int))]) (fun i w' => i ≤ n1 ∧ (∀ j, j < i → decide (a.getD j 0 = b.getD j 0) = true) ∧ Ext w w') (fun i => n1 - i) (0) (At1 (by first | rfl | exact at_int rfl (by omega) | exact at_slice rfl (by omega) | exact at_int rfl (by simp))) ?_ ?_
    · exact ⟨by omega, fun j hj => absurd hj (by omega), Ext.refl _⟩
    · rintro i g w2 ⟨hi, hP, he⟩
      have k1 := h1.ext he
      have k2 := h2.ext he
      refine J.seq ?_
      refine J.seq ?_
      refine J.region ?_
      refine L.va rfl (X.move (by conv => lhs; whnf)) ?_
      refine L.va rfl (X.move (by conv => lhs; whnf)) ?_
      refine L.va rfl (X.len rfl Try.underlying29) ?_
      refine L.va rfl (X.lss rfl rfl) ?_
      refine L.nil ?_
      -- cond
      refine J.dec rfl (fun hlt => ?_) (fun hlt => ?_)
      · have hA1 := k1.some_ (by omega)
        have hA2 := k2.some_ (by omega)
        refine J.skip ?_
        refine J.seq ?_
        refine J.block ?_
        refine J.seq ?_
        -- draw
        refine J.quiet mixed (by kernel_rfl) ?_
        refine Qt.va rfl (fun w' hw => X.move (by conv => lhs; whnf)) ?_
        refine Qt.va rfl (fun w' hw => X.move (by conv => lhs; whnf)) ?_
        refine Qt.va rfl (fun w' hw => (by first | exact X.index1n rfl rfl Try.underlying29 sz_3 (by first | exact Option.some_ne_none _ | exact k1.some_ (by omega) | exact k2.some_ (by omega) | exact hA1 | exact hA2) (by omega) | exact X.index1 rfl rfl Try.underlying29 sz_3 (by first | exact Option.some_ne_none _ | exact k1.some_ (by omega) | exact k2.some_ (by omega) | exact hA1 | exact hA2) (by omega))) ?_
        refine Qt.va rfl (fun w' hw => X.load rfl sc_3 (by first | exact Ld.num (k1.ext hw) (by omega) | exact Ld.num (k2.ext hw) (by omega) | exact hA1 | exact hA2)) ?_
        refine Qt.va rfl (fun w' hw => X.move (by conv => lhs; whnf)) ?_
        refine Qt.va rfl (fun w' hw => X.move (by conv => lhs; whnf)) ?_
        refine Qt.va rfl (fun w' hw => (by first | exact X.index1n rfl rfl Try.underlying29 sz_3 (by first | exact Option.some_ne_none _ | exact k1.some_ (by omega) | exact k2.some_ (by omega) | exact hA1 | exact hA2) (by omega) | exact X.index1 rfl rfl Try.underlying29 sz_3 (by first | exact Option.some_ne_none _ | exact k1.some_ (by omega) | exact k2.some_ (by omega) | exact hA1 | exact hA2) (by omega))) ?_
        refine Qt.va rfl (fun w' hw => X.load rfl sc_3 (by first | exact Ld.num (k1.ext hw) (by omega) | exact Ld.num (k2.ext hw) (by omega) | exact hA1 | exact hA2)) ?_
        refine Qt.va rfl (fun w' hw => X.neq rfl rfl) ?_
        refine Qt.nil (fun w3 hq => ?_)
        replace k1 := k1.ext hq
        replace k2 := k2.ext hq
        -- cond
        refine J.ndec rfl (fun hd => ?_) (fun hd => ?_)
        · rw [show eqI a b = false from eqL_no (i := i) (by omega) (decide_eq_false hd)]
          refine J.seq ?_
          refine J.region ?_
          refine L.va rfl (X.assign (by conv => lhs; whnf)) ?_
          refine L.nil ?_
          -- ret
          refine J.ret ?_
          refine inB_ret <|  thn_ret <|  thn_ret <|  inB_ret <|  thn_ret <| ?_
          refine fin1 ?_
          exact ⟨rfl, he.trans hq⟩
        · skip
          refine J.skip ?_
          refine J.region ?_
          refine L.va rfl (X.move (by conv => lhs; whnf)) ?_
          refine L.va rfl (X.add rfl rfl (by omega)) ?_
          refine L.va rfl (X.assign (by conv => lhs; whnf)) ?_
          refine L.nil ?_
          -- loopend
          refine ⟨i + 1, At1 (by first | rfl | exact at_int rfl (by omega) | exact at_slice rfl (by omega) | exact at_int rfl (by simp)), (by (iterate 16 refine Agr.lk rfl ?_); exact Agr.lk rfl (Agr.hav rfl Agr.rfl')), ?_⟩
          refine ⟨⟨by omega, fun j hj => ?_, he.trans hq⟩, by omega⟩
          rcases Nat.lt_or_ge j i with h | h
          · exact hP j h
          · obtain rfl : j = i := by omega
            exact decide_eq_true hd
      · rw [show eqI a b = true from eqL_yes (by omega) (fun j hj => hP j (by omega))]
        refine J.exit ?_
        refine J.seq ?_
        refine J.region ?_
        refine L.va rfl (X.assign (by conv => lhs; whnf)) ?_
        refine L.nil ?_
        -- ret
        refine J.ret ?_
        refine fin1 ?_
        exact ⟨rfl, he⟩
def eqV (a b : List Vl) : Bool := eqL Vl.same Vl.z a b
theorem vs_len (v : Vl) : v.vs.length = 3 := rfl
def wfV (l : List Vl) : Prop := ∀ v ∈ l, v.x < 18446744073709551616
theorem wfV_at {l : List Vl} (h : wfV l) (i : Nat) : (l.getD i Vl.z).x < 18446744073709551616 := by
  rcases Nat.lt_or_ge i l.length with hi | hi
  · rw [List.getD, List.getElem?_eq_getElem hi]; exact h _ (List.getElem_mem _)
  · rw [List.getD, List.getElem?_eq_none hi]; decide
theorem gtV {l : List Vl} {i : Nat} (h : i < l.length) : l[i]? = some (l.getD i Vl.z) := by rw [List.getD, List.getElem?_eq_getElem h]; rfl
theorem equalV (A1 : Option Addr) (n1 c1 : Nat) (A2 : Option Addr) (n2 c2 : Nat) (a b : List Vl) (w : World) (h1 : Reads w w.heap.size 3 A1 n1 (a.flatMap Vl.vs)) (h2 : Reads w w.heap.size 3 A2 n2 (b.flatMap Vl.vs)) (hw1 : wfV a) (hw2 : wfV b) (l1 : a.length = n1) (l2 : b.length = n2) (hn1 : n1 ≤ maxLen) (hn2 : n2 ≤ maxLen) :
    Calls Try.prog 83 #[.slice A1 n1 c1, .slice A2 n2 c2, .func (.func 84) #[] #[]] w fun e w' => e = .returned (.bool (eqV a b)) ∧ Ext w w' := by
  unfold maxLen at hn1 hn2
  refine enter Try.func83 rfl (by kernel_rfl) ?_
  refine J.seq ?_
  refine J.region ?_
  refine L.va rfl (X.assign (by conv => lhs; whnf)) ?_
  refine L.nil ?_
  refine J.seq ?_
  refine J.seq ?_
  refine J.region ?_
  refine L.va rfl (X.move (by conv => lhs; whnf)) ?_
  refine L.va rfl (X.len rfl Try.underlying30) ?_
  refine L.va rfl (X.move (by conv => lhs; whnf)) ?_
  refine L.va rfl (X.len rfl Try.underlying30) ?_
  refine L.va rfl (X.neq rfl rfl) ?_
  refine L.nil ?_
  -- cond
  refine J.ndec rfl (fun hne => ?_) (fun hne => ?_)
  · rw [show eqV a b = false from eqL_len (by omega)]
    refine J.seq ?_
    refine J.region ?_
    refine L.va rfl (X.assign (by conv => lhs; whnf)) ?_
    refine L.nil ?_
    -- ret
    refine J.ret ?_
    refine thn_ret <| ?_
    refine fin1 ?_
    exact ⟨rfl, Ext.refl _⟩
  · refine J.skip ?_
    refine J.seq ?_
    refine J.seq ?_
    refine J.region ?_
    refine L.va rfl (X.move (by conv => lhs; whnf)) ?_
    refine L.va rfl (X.len rfl Try.underlying30) ?_
    refine L.va rfl (X.move (by conv => lhs; whnf)) ?_
    refine L.nil ?_
    refine J.block ?_
    -- loop
    refine J.loop (X := Nat) [6, 7, 8, 9, 17, 18, 19, 20, 21, 22, 23, 24, 25, 26, 27, 28, 29, 30, 31] (fun i => [(17, .int .i64 (i : Int))]) (fun i w' => i ≤ n1 ∧ (∀ j, j < i → (a.getD j Vl.z).same (b.getD j Vl.z) = true) ∧ Ext w w') (fun i => n1 - i) (0) (At1 (by first | rfl | exact at_int rfl (by omega) | exact at_slice rfl (by omega) | exact at_int rfl (by simp))) ?_ ?_
    · exact ⟨by omega, fun j hj => absurd hj (by omega), Ext.refl _⟩
    · rintro i g w2 ⟨hi, hP, he⟩
      have k1 := h1.ext he
      have k2 := h2.ext he
      have z2 := he.le
      refine J.seq ?_
      refine J.region ?_
      refine L.va rfl (X.lss rfl rfl) ?_
      refine L.nil ?_
      refine J.seq ?_
      -- cond
      refine J.dec rfl (fun hlt => ?_) (fun hlt => ?_)
      · have hA1 := k1.some_ (by omega)
        have hA2 := k2.some_ (by omega)
        -- t21
        refine J.skip ?_
        refine J.seq ?_
        refine J.block ?_
        refine J.seq ?_
        refine J.region ?_
        refine L.va rfl (X.move (by conv => lhs; whnf)) ?_
        refine L.va rfl ((by first | exact X.indexAddrn rfl rfl Try.underlying30 sz_102 (by first | exact Option.some_ne_none _ | exact hA1 | exact hA2) (by omega) | exact X.indexAddr rfl rfl Try.underlying30 sz_102 (by first | exact Option.some_ne_none _ | exact hA1 | exact hA2) (by omega))) ?_
        refine L.va rfl (X.loadRow (cs := (a.getD i Vl.z).vs) rfl k1 (fun r u hu => flat_row vs_len (gtV (by omega)) r u hu) (Nat.zero_lt_succ _) Try.underlying102 rfl (by kernel_rfl)) ?_
        -- alloc
        refine L.alloc rfl zr_102 ?_
        intro b3 w3 hb3 hs3 hk3 he3
        refine L.va rfl (X.assign (by conv => lhs; whnf)) ?_
        -- store
        refine L.storeAgg (vs := [_, _, _]) rfl rfl rfl rfl sz_102 (hk3) rfl ?_
        intro w4 hk4 hg4 hs4
        have he4 : Ext w2 w4 := he3.grw hg4 (by intro g hg; injection hg with hg; omega)
        have hk4 : Blk w4 b3 102 (a.getD i Vl.z).vs.toArray := hk4
        have k4 := k2.ext he4
        -- t25
        refine L.nil ?_
        refine J.seq ?_
        refine J.region ?_
        refine L.va rfl (X.move (by conv => lhs; whnf)) ?_
        refine L.va rfl (X.move (by conv => lhs; whnf)) ?_
        refine L.va rfl ((by first | exact X.indexAddrn rfl rfl Try.underlying30 sz_102 (by first | exact Option.some_ne_none _ | exact hA1 | exact hA2) (by omega) | exact X.indexAddr rfl rfl Try.underlying30 sz_102 (by first | exact Option.some_ne_none _ | exact hA1 | exact hA2) (by omega))) ?_
        refine L.va rfl (X.loadRow (cs := (b.getD i Vl.z).vs) rfl k4 (fun r u hu => flat_row vs_len (gtV (by omega)) r u hu) (Nat.zero_lt_succ _) Try.underlying102 rfl (by kernel_rfl)) ?_
        -- alloc
        refine L.alloc rfl zr_102 ?_
        intro b5 w5 hb5 hs5 hk5 he5
        have hk45 := hk4.ext he5
        have zb := hk4.lt
        -- store
        refine L.storeAgg (vs := [_, _, _]) rfl rfl rfl rfl sz_102 (hk5) rfl ?_
        intro w6 hk6 hg6 hs6
        have he6 : Ext w4 w6 := he5.grw hg6 (by intro g hg; injection hg with hg; omega)
        have hk6 : Blk w6 b5 102 (b.getD i Vl.z).vs.toArray := hk6
        have hk46 : Blk w6 b3 102 (a.getD i Vl.z).vs.toArray := hk45.grown hg6 (by intro e; injection e with e; omega)
        have he06 := he.trans (he4.trans he6)
        refine L.nil ?_
        refine J.seq ?_
        refine J.region ?_
        refine L.va rfl (X.move (by conv => lhs; whnf)) ?_
        refine L.va rfl ((by first | exact X.loadAgg rfl (range_l hk6) Try.underlying102 rfl (by kernel_rfl) | exact X.loadAgg rfl (range_blk hk6) Try.underlying102 rfl (by kernel_rfl) | exact X.loadAgg rfl (range_l hk46) Try.underlying102 rfl (by kernel_rfl) | exact X.loadAgg rfl (range_blk hk46) Try.underlying102 rfl (by kernel_rfl))) ?_
        refine L.va rfl ((by first | exact X.loadAgg rfl (range_l hk6) Try.underlying102 rfl (by kernel_rfl) | exact X.loadAgg rfl (range_blk hk6) Try.underlying102 rfl (by kernel_rfl) | exact X.loadAgg rfl (range_l hk46) Try.underlying102 rfl (by kernel_rfl) | exact X.loadAgg rfl (range_blk hk46) Try.underlying102 rfl (by kernel_rfl))) ?_
        -- callval
        refine L.callV rfl en_84 rfl rfl (dsame (a.getD i Vl.z) (b.getD i Vl.z) w6 (wfV_at hw1 i) (wfV_at hw2 i)) ?_
        rintro e w7 ⟨rfl, he7⟩
        refine ⟨_, rfl, ?_⟩
        have he07 := he06.trans he7
        refine L.va rfl (X.not rfl) ?_
        refine L.nil ?_
        -- cond
        by_cases hd : (a.getD i Vl.z).same (b.getD i Vl.z) = true
        · rw [hd]
          refine J.iteF rfl ?_
          refine J.skip ?_
          refine J.region ?_
          refine L.va rfl (X.add rfl rfl (by omega)) ?_
          refine L.va rfl (X.move (by conv => lhs; whnf)) ?_
          refine L.nil ?_
          -- loopend
          refine ⟨i + 1, At1 (by first | rfl | exact at_int rfl (by omega) | exact at_slice rfl (by omega) | exact at_int rfl (by simp)), (by (iterate 18 refine Agr.lk rfl ?_); exact Agr.lk rfl (Agr.hav rfl Agr.rfl')), ?_⟩
          refine ⟨⟨by omega, fun j hj => ?_, he07⟩, by omega⟩
          rcases Nat.lt_or_ge j i with h | h
          · exact hP j h
          · obtain rfl : j = i := by omega
            exact hd
        · have hd : (a.getD i Vl.z).same (b.getD i Vl.z) = false := by simpa using hd
          rw [show eqV a b = false from eqL_no (i := i) (by omega) hd, hd]
          refine J.iteT rfl ?_
          refine J.seq ?_
          refine J.region ?_
          refine L.va rfl (X.assign (by conv => lhs; whnf)) ?_
          refine L.nil ?_
          -- ret
          refine J.ret ?_
          refine inB_ret <|  thn_ret <|  thn_ret <|  inB_ret <|  thn_ret <| ?_
          refine fin1 ?_
          exact ⟨rfl, he07⟩
      · rw [show eqV a b = true from eqL_yes (by omega) (fun j hj => hP j (by omega))]
        refine J.exit ?_
        refine J.seq ?_
        refine J.region ?_
        refine L.va rfl (X.assign (by conv => lhs; whnf)) ?_
        refine L.nil ?_
        -- ret
        refine J.ret ?_
        refine fin1 ?_
        exact ⟨rfl, he⟩
/-- a row -/
structure Rw where
  (Ac : Option Addr) (nc cc : Nat) (c : List Int) (Av : Option Addr) (nv cv : Nat) (v : List Vl)
namespace Rw
abbrev vs (r : Rw) : List Value := [.slice r.Ac r.nc r.cc, .slice r.Av r.nv r.cv]
abbrev val (r : Rw) : Value := .agg r.vs.toArray
structure At (r : Rw) (N : Nat) (w : World) : Prop where
  hc : Reads w N 1 r.Ac r.nc (nums .i64 r.c)
  hv : Reads w N 3 r.Av r.nv (r.v.flatMap Vl.vs)
  hw : wfV r.v
  lv : r.v.length = r.nv
  n1 : r.nc ≤ maxLen
  n2 : r.nv ≤ maxLen
theorem At.ext {r : Rw} {N : Nat} {w w' : World} (h : r.At N w) (he : Ext w w') : r.At N w' := ⟨h.hc.ext he, h.hv.ext he, h.hw, h.lv, h.n1, h.n2⟩
theorem At.more {r : Rw} {N N' : Nat} {w : World} (h : r.At N w) (hN : N ≤ N') : r.At N' w := ⟨h.hc.more hN, h.hv.more hN, h.hw, h.lv, h.n1, h.n2⟩
theorem At.lc {r : Rw} {N : Nat} {w : World} (h : r.At N w) : r.c.length = r.nc := by have := h.hc.1; simpa [nums] using this
def same (a b : Rw) : Bool := eqI a.c b.c && eqV a.v b.v
end Rw
theorem osame (a b : Rw) (w : World) (ha : a.At w.heap.size w) (hb : b.At w.heap.size w) : Calls Try.prog 25 #[a.val, b.val] w fun e w' => e = .returned (.bool (a.same b)) ∧ Ext w w' := by
  refine enter Try.func25 rfl (by kernel_rfl) ?_
  refine J.seq ?_
  refine J.region ?_
  -- box
  refine L.boxA (l := [_, _]) rfl rfl ?_
  intro b1 w1 hb1 hs1 hk1 he1
  -- box
  refine L.boxA (l := [_, _]) rfl rfl ?_
  intro b2 w2 hb2 hs2 hk2 he2
  have hk12 := hk1.ext he2
  have he := he1.trans he2
  have ha2 := (ha.ext he).more he.le
  have hb2' := (hb.ext he).more he.le
  refine L.va rfl (X.assign (by conv => lhs; whnf)) ?_
  refine L.nil ?_
  refine J.seq ?_
  refine J.region ?_
  refine L.va rfl (X.fieldAddr rfl Try.underlying32 rfl sz_29 (by decide)) ?_
  refine L.va rfl (X.load rfl sc_29 (by first | exact Ld.blk hk2 rfl | exact Ld.blk hk12 rfl)) ?_
  refine L.va rfl (X.fieldAddr rfl Try.underlying32 rfl sz_29 (by decide)) ?_
  refine L.va rfl (X.load rfl sc_29 (by first | exact Ld.blk hk2 rfl | exact Ld.blk hk12 rfl)) ?_
  -- callfn slices.Equal[[]int,int]
  refine L.call rfl en_82 rfl (equalI a.Ac a.nc a.cc b.Ac b.nc b.cc a.c b.c w2 ha2.hc hb2'.hc ha2.n1 hb2'.n1) ?_
  rintro e w3 ⟨rfl, he3⟩
  refine ⟨_, rfl, ?_⟩
  replace hk2 := hk2.ext he3
  replace hk12 := hk12.ext he3
  refine L.va rfl (X.move (by conv => lhs; whnf)) ?_
  -- case t10
  by_cases hi : eqI a.c b.c = true
  · rw [hi]
    have e : a.same b = eqV a.v b.v := by unfold Rw.same; rw [hi, Bool.true_and]
    rw [e]
    refine L.caseBT (k := 10) rfl (by rfl) ?_
    refine L.va rfl (X.fieldAddr rfl Try.underlying32 rfl sz_30 (by decide)) ?_
    refine L.va rfl (X.load rfl sc_30 (by first | exact Ld.blk hk2 rfl | exact Ld.blk hk12 rfl)) ?_
    refine L.va rfl (X.fieldAddr rfl Try.underlying32 rfl sz_30 (by decide)) ?_
    refine L.va rfl (X.load rfl sc_30 (by first | exact Ld.blk hk2 rfl | exact Ld.blk hk12 rfl)) ?_
    -- callfn slices.EqualFunc[[]bushel/api.Val,[]bushel/api.Val,bushel/api.Val,bushel/api.Val]
    refine L.call rfl en_83 rfl (equalV a.Av a.nv a.cv b.Av b.nv b.cv a.v b.v w3 ((ha2.ext he3).more he3.le).hv ((hb2'.ext he3).more he3.le).hv ha.hw hb.hw ha.lv hb.lv ha.n2 hb.n2) ?_
    rintro e w4 ⟨rfl, he4⟩
    refine ⟨_, rfl, ?_⟩
    refine L.va rfl (X.pickT rfl (by conv => lhs; whnf)) ?_
    refine L.va rfl (X.assign (by conv => lhs; whnf)) ?_
    refine L.nil ?_
    -- ret
    refine J.ret ?_
    refine fin1 ?_
    exact ⟨rfl, (he.trans he3).trans he4⟩
  · have hi : eqI a.c b.c = false := by simpa using hi
    rw [hi]
    have e : a.same b = false := by unfold Rw.same; rw [hi, Bool.false_and]
    rw [e]
    refine L.caseBF (k := 10) rfl (by rfl) ?_
    refine L.no rfl ?_
    refine L.no rfl ?_
    refine L.no rfl ?_
    refine L.no rfl ?_
    refine L.no rfl ?_
    refine L.va rfl (X.pickF rfl (by conv => lhs; whnf)) ?_
    refine L.va rfl (X.assign (by conv => lhs; whnf)) ?_
    refine L.nil ?_
    -- ret
    refine J.ret ?_
    refine fin1 ?_
    exact ⟨rfl, he.trans he3⟩
end Go.Proofs.Ytmnlaekcojblkaa
