/-
  Lists compared: texts, dimensions, sets.
-/
import Derived.Test.YtlipeplfjkgamaaWSchG
import Derived.Test.YtlipeplfjkgamaaAux
namespace Go.Proofs.Ytlipeplfjkgamaa
set_option maxRecDepth 100000
open Go.RowKit H
set_option linter.unusedVariables false
theorem lst_eq {α : Type} (d : α) {a b : List α} (h : a.length = b.length) (hP : ∀ j, j < a.length → a.getD j d = b.getD j d) : a = b := by
  apply List.ext_getElem h
  intro i h1 h2
  have := hP i h1
  simpa [List.getD, h1, h2] using this
theorem lst_ne {α : Type} (d : α) {a b : List α} {i : Nat} (h : ¬ a.getD i d = b.getD i d) : ¬ a = b := fun e => h (by rw [e])
theorem numeq_any (A1 : Option Addr) (n1 c1 : Nat) (A2 : Option Addr) (n2 c2 : Nat) (l1 l2 : List Int) (w : World) (h1 : Reads w w.heap.size 1 A1 n1 (nums .u32 l1)) (h2 : Reads w w.heap.size 1 A2 n2 (nums .u32 l2)) (hn1 : n1 ≤ 1000) (hn2 : n2 ≤ 1000) :
    Calls Try.prog 202 #[.slice A1 n1 c1, .slice A2 n2 c2] w fun e w' => e = .returned (.bool (decide (l1 = l2))) ∧ Ext w w' := by
  have g1 : l1.length = n1 := by have := h1.1; simpa [nums] using this
  have g2 : l2.length = n2 := by have := h2.1; simpa [nums] using this
  refine enter Try.func202 rfl (by kernel_rfl) ?_
  refine J.seq ?_
  refine J.region ?_
  refine L.va rfl (X.assign (by conv => lhs; whnf)) ?_
  refine L.nil ?_
  refine J.seq ?_
  refine J.seq ?_
  refine J.region ?_
  refine L.va rfl (X.move (by conv => lhs; whnf)) ?_
  refine L.va rfl (X.len rfl Try.underlying47) ?_
  refine L.va rfl (X.move (by conv => lhs; whnf)) ?_
  refine L.va rfl (X.len rfl Try.underlying47) ?_
  refine L.va rfl (X.neq rfl rfl) ?_
  refine L.nil ?_
  -- cond
  refine J.ndec rfl (fun hne => ?_) (fun hne => ?_)
  · rw [show decide (l1 = l2) = false from decide_eq_false (fun e => by rw [e] at g1; omega)]
    refine J.seq ?_
    refine J.region ?_
    refine L.va rfl (X.assign (by conv => lhs; whnf)) ?_
    refine L.nil ?_
    -- ret
    refine J.ret ?_
    refine thn_ret <| ?_
    refine fin1 ?_
    exact ⟨rfl, Ext.refl _⟩
  · obtain rfl : n1 = n2 := by omega
    refine J.skip ?_
    refine J.seq ?_
    refine J.seq ?_
    refine J.region ?_
    refine L.va rfl (X.move (by conv => lhs; whnf)) ?_
    refine L.va rfl (X.len rfl Try.underlying47) ?_
    refine L.va rfl (X.move (by conv => lhs; whnf)) ?_
    refine L.nil ?_
    refine J.block ?_
    -- loop
    refine J.loop (X := Nat) [4, 5, 13, 14, 15, 16, 17, 18, 19, 20, 21, 22, 23, 24, 25] (fun i => [(13, .int .i64 (i : Int))]) (fun i w' => i ≤ n1 ∧ (∀ j, j < i → l1.getD j 0 = l2.getD j 0) ∧ Ext w w') (fun i => n1 - i) (0) (At1 (by first | rfl | exact at_int rfl (by omega) | exact at_slice rfl (by omega) | exact at_int rfl (by simp))) ?_ ?_
    · exact ⟨by omega, fun j hj => absurd hj (by omega), Ext.refl _⟩
    · rintro i g w2 ⟨hi, hP, he⟩
      have k1 := h1.ext he
      have k2 := h2.ext he
      refine J.seq ?_
      refine J.region ?_
      refine L.va rfl (X.lss rfl rfl) ?_
      refine L.nil ?_
      refine J.seq ?_
      -- cond
      refine J.dec rfl (fun hlt => ?_) (fun hlt => ?_)
      · have hi1 : i < l1.length := by omega
        have hi2 : i < l2.length := by omega
        refine J.skip ?_
        refine J.seq ?_
        refine J.block ?_
        refine J.seq ?_
        refine J.region ?_
        refine L.va rfl (X.move (by conv => lhs; whnf)) ?_
        refine L.va rfl (X.assign (by conv => lhs; whnf)) ?_
        refine L.nil ?_
        refine J.seq ?_
        -- draw
        refine J.quiet mixed (by kernel_rfl) ?_
        refine Qt.va rfl (fun w' hw => X.move (by conv => lhs; whnf)) ?_
        refine Qt.va rfl (fun w' hw => X.move (by conv => lhs; whnf)) ?_
        refine Qt.va rfl (fun w' hw => (by first | exact X.index1n rfl rfl Try.underlying47 sz_50 (by first | exact Option.some_ne_none _ | exact k1.some_ (by omega) | exact k2.some_ (by omega)) (by omega) | exact X.index1 rfl rfl Try.underlying47 sz_50 (by first | exact Option.some_ne_none _ | exact k1.some_ (by omega) | exact k2.some_ (by omega)) (by omega))) ?_
        refine Qt.va rfl (fun w' hw => X.load rfl sc_50 (by first | exact Ld.num (k1.ext hw) (by omega) | exact Ld.num (k2.ext hw) (by omega))) ?_
        refine Qt.va rfl (fun w' hw => X.move (by conv => lhs; whnf)) ?_
        refine Qt.va rfl (fun w' hw => X.move (by conv => lhs; whnf)) ?_
        refine Qt.va rfl (fun w' hw => (by first | exact X.index1n rfl rfl Try.underlying47 sz_50 (by first | exact Option.some_ne_none _ | exact k1.some_ (by omega) | exact k2.some_ (by omega)) (by omega) | exact X.index1 rfl rfl Try.underlying47 sz_50 (by first | exact Option.some_ne_none _ | exact k1.some_ (by omega) | exact k2.some_ (by omega)) (by omega))) ?_
        refine Qt.va rfl (fun w' hw => X.load rfl sc_50 (by first | exact Ld.num (k1.ext hw) (by omega) | exact Ld.num (k2.ext hw) (by omega))) ?_
        refine Qt.va rfl (fun w' hw => X.neq rfl rfl) ?_
        refine Qt.nil (fun w3 hq => ?_)
        replace k1 := k1.ext hq
        replace k2 := k2.ext hq
        -- cond
        by_cases hd : l1.getD i 0 = l2.getD i 0
        · refine J.ndecF rfl (by simpa using hd) ?_
          refine J.skip ?_
          refine J.region ?_
          refine L.va rfl (X.add rfl rfl (by omega)) ?_
          refine L.va rfl (X.move (by conv => lhs; whnf)) ?_
          refine L.nil ?_
          -- loopend
          refine ⟨i + 1, At1 (by first | rfl | exact at_int rfl (by omega) | exact at_slice rfl (by omega) | exact at_int rfl (by simp)), (by (iterate 14 refine Agr.lk rfl ?_); exact Agr.lk rfl (Agr.hav rfl Agr.rfl')), ?_⟩
          refine ⟨⟨by omega, fun j hj => ?_, he.trans hq⟩, by omega⟩
          rcases Nat.lt_or_ge j i with h | h
          · exact hP j h
          · obtain rfl : j = i := by omega
            exact hd
        · rw [show decide (l1 = l2) = false from decide_eq_false (lst_ne 0 hd)]
          refine J.ndecT rfl (by simpa using hd) ?_
          refine J.seq ?_
          refine J.region ?_
          refine L.va rfl (X.assign (by conv => lhs; whnf)) ?_
          refine L.nil ?_
          -- ret
          refine J.ret ?_
          refine inB_ret <|  thn_ret <|  thn_ret <|  inB_ret <|  thn_ret <| ?_
          refine fin1 ?_
          exact ⟨rfl, he.trans hq⟩
      · rw [show decide (l1 = l2) = true from decide_eq_true (lst_eq 0 (by omega) (fun j hj => hP j (by omega)))]
        refine J.exit ?_
        refine J.seq ?_
        refine J.region ?_
        refine L.va rfl (X.assign (by conv => lhs; whnf)) ?_
        refine L.nil ?_
        -- ret
        refine J.ret ?_
        refine fin1 ?_
        exact ⟨rfl, he⟩
theorem two_dim : Two Try.prog 128 9 3 := ⟨by kernel_rfl, by kernel_rfl, by kernel_rfl, by kernel_rfl⟩
theorem dne {a b : ByteArray × Int} : (!(decide (a.1 = b.1) && (a.2 == b.2))) = decide (¬ a = b) := by
  obtain ⟨a1, a2⟩ := a
  obtain ⟨b1, b2⟩ := b
  by_cases h1 : a1 = b1 <;> by_cases h2 : a2 = b2 <;> simp [h1, h2]
theorem dneF {a b : ByteArray × Int} (h : a = b) : (!(decide (a.1 = b.1) && (a.2 == b.2))) = false := by rw [dne]; exact decide_eq_false (fun k => k h)
theorem dneT {a b : ByteArray × Int} (h : ¬ a = b) : (!(decide (a.1 = b.1) && (a.2 == b.2))) = true := by rw [dne]; exact decide_eq_true h
theorem rmasks_any (A1 : Option Addr) (n1 c1 : Nat) (A2 : Option Addr) (n2 c2 : Nat) (l1 l2 : List Int) (w : World) (h1 : Reads w w.heap.size 1 A1 n1 (nums .u32 l1)) (h2 : Reads w w.heap.size 1 A2 n2 (nums .u32 l2)) (hn1 : n1 ≤ 1000) (hn2 : n2 ≤ 1000) :
    Calls Try.prog 45 #[.slice A1 n1 c1, .slice A2 n2 c2] w fun e w' => e = .returned (.bool (decide (l1 = l2))) ∧ Ext w w' := by
  have g1 : l1.length = n1 := by have := h1.1; simpa [nums] using this
  have g2 : l2.length = n2 := by have := h2.1; simpa [nums] using this
  refine enter Try.func45 rfl (by kernel_rfl) ?_
  refine J.seq ?_
  refine J.region ?_
  refine L.va rfl (X.assign (by conv => lhs; whnf)) ?_
  refine L.nil ?_
  refine J.seq ?_
  refine J.seq ?_
  refine J.region ?_
  refine L.va rfl (X.move (by conv => lhs; whnf)) ?_
  refine L.va rfl (X.len rfl Try.underlying47) ?_
  refine L.va rfl (X.move (by conv => lhs; whnf)) ?_
  refine L.va rfl (X.len rfl Try.underlying47) ?_
  refine L.va rfl (X.neq rfl rfl) ?_
  refine L.nil ?_
  -- cond
  refine J.ndec rfl (fun hne => ?_) (fun hne => ?_)
  · rw [show decide (l1 = l2) = false from decide_eq_false (fun e => by rw [e] at g1; omega)]
    refine J.seq ?_
    refine J.region ?_
    refine L.va rfl (X.assign (by conv => lhs; whnf)) ?_
    refine L.nil ?_
    -- ret
    refine J.ret ?_
    refine thn_ret <| ?_
    refine fin1 ?_
    exact ⟨rfl, Ext.refl _⟩
  · obtain rfl : n1 = n2 := by omega
    refine J.skip ?_
    refine J.seq ?_
    refine J.seq ?_
    refine J.region ?_
    refine L.va rfl (X.assign (by conv => lhs; whnf)) ?_
    refine L.nil ?_
    refine J.block ?_
    -- loop
    refine J.loop (X := Nat) [4, 5, 11, 12, 13, 14, 15, 16, 17, 18, 19, 20, 21, 22, 23, 24, 25] (fun i => [(5, .int .i64 (i : Int))]) (fun i w' => i ≤ n1 ∧ (∀ j, j < i → l1.getD j 0 = l2.getD j 0) ∧ Ext w w') (fun i => n1 - i) (0) (At1 (by first | rfl | exact at_int rfl (by omega) | exact at_slice rfl (by omega) | exact at_int rfl (by simp))) ?_ ?_
    · exact ⟨by omega, fun j hj => absurd hj (by omega), Ext.refl _⟩
    · rintro i g w2 ⟨hi, hP, he⟩
      have k1 := h1.ext he
      have k2 := h2.ext he
      refine J.seq ?_
      refine J.seq ?_
      refine J.region ?_
      refine L.va rfl (X.move (by conv => lhs; whnf)) ?_
      refine L.va rfl (X.move (by conv => lhs; whnf)) ?_
      refine L.va rfl (X.len rfl Try.underlying47) ?_
      refine L.va rfl (X.lss rfl rfl) ?_
      refine L.nil ?_
      -- cond
      refine J.dec rfl (fun hlt => ?_) (fun hlt => ?_)
      · have hi1 : i < l1.length := by omega
        have hi2 : i < l2.length := by omega
        refine J.skip ?_
        refine J.seq ?_
        refine J.block ?_
        refine J.seq ?_
        -- draw
        refine J.quiet mixed (by kernel_rfl) ?_
        refine Qt.va rfl (fun w' hw => X.move (by conv => lhs; whnf)) ?_
        refine Qt.va rfl (fun w' hw => X.move (by conv => lhs; whnf)) ?_
        refine Qt.va rfl (fun w' hw => (by first | exact X.index1n rfl rfl Try.underlying47 sz_50 (by first | exact Option.some_ne_none _ | exact k1.some_ (by omega) | exact k2.some_ (by omega)) (by omega) | exact X.index1 rfl rfl Try.underlying47 sz_50 (by first | exact Option.some_ne_none _ | exact k1.some_ (by omega) | exact k2.some_ (by omega)) (by omega))) ?_
        refine Qt.va rfl (fun w' hw => X.load rfl sc_50 (by first | exact Ld.num (k1.ext hw) (by omega) | exact Ld.num (k2.ext hw) (by omega))) ?_
        refine Qt.va rfl (fun w' hw => X.move (by conv => lhs; whnf)) ?_
        refine Qt.va rfl (fun w' hw => X.move (by conv => lhs; whnf)) ?_
        refine Qt.va rfl (fun w' hw => (by first | exact X.index1n rfl rfl Try.underlying47 sz_50 (by first | exact Option.some_ne_none _ | exact k1.some_ (by omega) | exact k2.some_ (by omega)) (by omega) | exact X.index1 rfl rfl Try.underlying47 sz_50 (by first | exact Option.some_ne_none _ | exact k1.some_ (by omega) | exact k2.some_ (by omega)) (by omega))) ?_
        refine Qt.va rfl (fun w' hw => X.load rfl sc_50 (by first | exact Ld.num (k1.ext hw) (by omega) | exact Ld.num (k2.ext hw) (by omega))) ?_
        refine Qt.va rfl (fun w' hw => X.neq rfl rfl) ?_
        refine Qt.nil (fun w3 hq => ?_)
        replace k1 := k1.ext hq
        replace k2 := k2.ext hq
        -- cond
        by_cases hd : l1.getD i 0 = l2.getD i 0
        · refine J.ndecF rfl (by simpa using hd) ?_
          refine J.skip ?_
          refine J.region ?_
          refine L.va rfl (X.move (by conv => lhs; whnf)) ?_
          refine L.va rfl (X.add rfl rfl (by omega)) ?_
          refine L.va rfl (X.assign (by conv => lhs; whnf)) ?_
          refine L.nil ?_
          -- loopend
          refine ⟨i + 1, At1 (by first | rfl | exact at_int rfl (by omega) | exact at_slice rfl (by omega) | exact at_int rfl (by simp)), (by (iterate 16 refine Agr.lk rfl ?_); exact Agr.lk rfl (Agr.hav rfl Agr.rfl')), ?_⟩
          refine ⟨⟨by omega, fun j hj => ?_, he.trans hq⟩, by omega⟩
          rcases Nat.lt_or_ge j i with h | h
          · exact hP j h
          · obtain rfl : j = i := by omega
            exact hd
        · rw [show decide (l1 = l2) = false from decide_eq_false (lst_ne 0 hd)]
          refine J.ndecT rfl (by simpa using hd) ?_
          refine J.seq ?_
          refine J.region ?_
          refine L.va rfl (X.assign (by conv => lhs; whnf)) ?_
          refine L.nil ?_
          -- ret
          refine J.ret ?_
          refine inB_ret <|  thn_ret <|  thn_ret <|  inB_ret <|  thn_ret <| ?_
          refine fin1 ?_
          exact ⟨rfl, he.trans hq⟩
      · rw [show decide (l1 = l2) = true from decide_eq_true (lst_eq 0 (by omega) (fun j hj => hP j (by omega)))]
        refine J.exit ?_
        refine J.seq ?_
        refine J.region ?_
        refine L.va rfl (X.assign (by conv => lhs; whnf)) ?_
        refine L.nil ?_
        -- ret
        refine J.ret ?_
        refine fin1 ?_
        exact ⟨rfl, he⟩
end Go.Proofs.Ytlipeplfjkgamaa
