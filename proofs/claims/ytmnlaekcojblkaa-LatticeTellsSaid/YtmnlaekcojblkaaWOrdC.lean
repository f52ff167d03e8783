/-
  Orders: who is ahead, of floats, values and bytes.
-/
import Derived.Test.YtmnlaekcojblkaaWOrdB
namespace Go.Proofs.Ytmnlaekcojblkaa
set_option maxRecDepth 100000
open Go.RowKit H
open Byts Cod Flo Odr
set_option linter.unusedVariables false
theorem less03 (a b : Nat) (w : World) (ha : a < 18446744073709551616) (hb : b < 18446744073709551616) : Calls Try.prog 130 #[.float .f64 a, .float .f64 b] w fun e w' => e = .returned (.bool (decide (keyF a < keyF b))) ∧ Ext w w' := by
  have k1 := (keyF_bd a).2
  have k2 := (keyF_bd b).2
  refine enter Try.func130 rfl (by kernel_rfl) ?_
  refine J.seq ?_
  refine J.region ?_
  refine L.va rfl (X.assign (by conv => lhs; whnf)) ?_
  refine L.nil ?_
  refine J.seq ?_
  refine J.seq ?_
  refine J.region ?_
  refine L.va rfl (X.move (by conv => lhs; whnf)) ?_
  -- callfn bushel/bushelref03.Kind
  refine L.call rfl en_168 rfl (kind03 a w) ?_
  rintro e w1 ⟨rfl, he1⟩
  refine ⟨_, rfl, ?_⟩
  refine L.va rfl (X.eql rfl rfl) ?_
  refine L.va rfl (X.move (by conv => lhs; whnf)) ?_
  -- case t8
  refine L.caseDec (k := 8) rfl (fun h1 => ?_) (fun h1 => ?_)
  · rw [kind3] at h1
    rw [decide_eq_false (by rw [keyF_nan h1]; omega)]
    refine L.no rfl ?_
    refine L.no rfl ?_
    refine L.no rfl ?_
    refine L.va rfl (X.pickT rfl (by conv => lhs; whnf)) ?_
    refine L.nil ?_
    -- cond
    refine J.iteT rfl ?_
    refine J.seq ?_
    refine J.region ?_
    refine L.va rfl (X.move (by conv => lhs; whnf)) ?_
    -- callfn bushel/bushelref03.Kind
    refine L.call rfl en_168 rfl (kind03 a w1) ?_
    rintro e w2 ⟨rfl, he2⟩
    refine ⟨_, rfl, ?_⟩
    rw [(kind3 a).2 h1]
    refine L.va rfl (X.neq rfl rfl) ?_
    refine L.va rfl (X.assign (by conv => lhs; whnf)) ?_
    refine L.nil ?_
    -- ret
    refine J.ret ?_
    refine thn_ret <| ?_
    refine fin1 ?_
    exact ⟨rfl, he1.trans he2⟩
  · refine L.va rfl (X.move (by conv => lhs; whnf)) ?_
    -- callfn bushel/bushelref03.Kind
    refine L.call rfl en_168 rfl (kind03 b w1) ?_
    rintro e w2 ⟨rfl, he2⟩
    refine ⟨_, rfl, ?_⟩
    have hna : ¬ nanF a := fun h => h1 ((kind3 a).2 h)
    refine L.va rfl (X.eql rfl rfl) ?_
    refine L.va rfl (X.pickF rfl (by conv => lhs; whnf)) ?_
    refine L.nil ?_
    -- cond
    refine J.dec rfl (fun h2 => ?_) (fun h2 => ?_)
    · rw [kind3] at h2
      rw [decide_eq_true (by rw [keyF_nan h2]; exact keyF_num hna)]
      refine J.seq ?_
      refine J.region ?_
      refine L.va rfl (X.move (by conv => lhs; whnf)) ?_
      -- callfn bushel/bushelref03.Kind
      refine L.call rfl en_168 rfl (kind03 a w2) ?_
      rintro e w3 ⟨rfl, he3⟩
      refine ⟨_, rfl, ?_⟩
      have hd : decide (kindF a = 3) = false := decide_eq_false h1
      obtain ⟨kk, hkk⟩ : ∃ kk, kk = kindF a := ⟨_, rfl⟩
      rw [← hkk] at hd ⊢
      refine L.va rfl (X.neq rfl rfl) ?_
      refine L.va rfl (X.assign (by conv => lhs; whnf)) ?_
      refine L.nil ?_
      -- ret
      refine J.ret ?_
      refine thn_ret <| ?_
      refine fin1 ?_
      exact ⟨by show Ending.returned (.bool !decide (kk = 3)) = _; rw [hd]; rfl, (he1.trans he2).trans he3⟩
    · rw [kind3] at h2
      have hl := keyF_lt hna h2
      refine J.skip ?_
      refine J.seq ?_
      refine J.region ?_
      refine L.va rfl (X.move (by conv => lhs; whnf)) ?_
      refine L.va rfl (X.move (by conv => lhs; whnf)) ?_
      refine L.va rfl (X.lssF rfl rfl) ?_
      refine L.va rfl (X.move (by conv => lhs; whnf)) ?_
      -- case t19
      refine L.caseDec (k := 19) rfl (fun h3 => ?_) (fun h3 => ?_)
      · rw [decide_eq_true (hl.2 (.inl h3))]
        refine L.no rfl ?_
        refine L.no rfl ?_
        refine L.no rfl ?_
        refine L.no rfl ?_
        refine L.no rfl ?_
        refine L.no rfl ?_
        refine L.no rfl ?_
        refine L.no rfl ?_
        refine L.no rfl ?_
        refine L.no rfl ?_
        refine L.no rfl ?_
        refine L.no rfl ?_
        refine L.va rfl (X.pickT rfl (by conv => lhs; whnf)) ?_
        refine L.va rfl (X.assign (by conv => lhs; whnf)) ?_
        refine L.nil ?_
        -- ret
        refine J.ret ?_
        refine fin1 ?_
        exact ⟨rfl, he1.trans he2⟩
      · refine L.va rfl (X.move (by conv => lhs; whnf)) ?_
        refine L.va rfl (X.move (by conv => lhs; whnf)) ?_
        refine L.va rfl (X.eqlF rfl rfl) ?_
        refine L.va rfl (X.move (by conv => lhs; whnf)) ?_
        -- case t23
        refine L.caseDec (k := 23) rfl (fun h4 => ?_) (fun h4 => ?_)
        · refine L.va rfl (X.move (by conv => lhs; whnf)) ?_
          -- callfn bushel/bushelref03.Below
          refine L.call rfl en_169 rfl (below03 a w2 ha) ?_
          rintro e _ ⟨rfl, rfl⟩
          refine ⟨_, rfl, ?_⟩
          refine L.va rfl (X.pickT rfl (by conv => lhs; whnf)) ?_
          refine L.va rfl (X.move (by conv => lhs; whnf)) ?_
          -- case t27
          by_cases h5 : belowF a = true
          · rw [h5]
            refine L.caseBT (k := 27) rfl (by rfl) ?_
            refine L.va rfl (X.move (by conv => lhs; whnf)) ?_
            -- callfn bushel/bushelref03.Below
            refine L.call rfl en_169 rfl (below03 b w2 hb) ?_
            rintro e _ ⟨rfl, rfl⟩
            refine ⟨_, rfl, ?_⟩
            refine L.va rfl (X.not rfl) ?_
            refine L.va rfl (X.pickT rfl (by conv => lhs; whnf)) ?_
            refine L.va rfl (X.pickF rfl (by conv => lhs; whnf)) ?_
            refine L.va rfl (X.assign (by conv => lhs; whnf)) ?_
            refine L.nil ?_
            -- ret
            refine J.ret ?_
            refine fin1 ?_
            refine ⟨?_, he1.trans he2⟩
            cases h6 : belowF b
            · rw [decide_eq_true (hl.2 (.inr ⟨h4, h5, h6⟩))]; rfl
            · rw [decide_eq_false (fun h => (hl.1 h).elim h3 (fun k => by rw [h6] at k; cases k.2.2))]; rfl
          · have h5 : belowF a = false := by simpa using h5
            rw [h5, decide_eq_false (fun h => (hl.1 h).elim h3 (fun k => by rw [h5] at k; cases k.2.1))]
            refine L.caseBF (k := 27) rfl (by rfl) ?_
            refine L.no rfl ?_
            refine L.no rfl ?_
            refine L.no rfl ?_
            refine L.va rfl (X.pickF rfl (by conv => lhs; whnf)) ?_
            refine L.va rfl (X.pickF rfl (by conv => lhs; whnf)) ?_
            refine L.va rfl (X.assign (by conv => lhs; whnf)) ?_
            refine L.nil ?_
            -- ret
            refine J.ret ?_
            refine fin1 ?_
            exact ⟨rfl, he1.trans he2⟩
        · rw [decide_eq_false (fun h => (hl.1 h).elim h3 (fun k => h4 k.1))]
          refine L.no rfl ?_
          refine L.no rfl ?_
          refine L.va rfl (X.pickF rfl (by conv => lhs; whnf)) ?_
          refine L.va rfl (X.move (by conv => lhs; whnf)) ?_
          refine L.no rfl ?_
          refine L.no rfl ?_
          refine L.no rfl ?_
          refine L.va rfl (X.pickF rfl (by conv => lhs; whnf)) ?_
          refine L.va rfl (X.pickF rfl (by conv => lhs; whnf)) ?_
          refine L.va rfl (X.assign (by conv => lhs; whnf)) ?_
          refine L.nil ?_
          -- ret
          refine J.ret ?_
          refine fin1 ?_
          exact ⟨rfl, he1.trans he2⟩
theorem ahead33 (a b : Vl) (w : World) (ha : a.x < 18446744073709551616) (hb : b.x < 18446744073709551616) : Calls Try.prog 78 #[a.val, b.val] w fun e w' => e = .returned (.bool (aheadV a b)) ∧ Ext w w' := by
  obtain ⟨ar, an, ax⟩ := a
  obtain ⟨br, bn, bx⟩ := b
  dsimp only at ha hb
  refine enter Try.func78 rfl (by kernel_rfl) ?_
  refine J.seq ?_
  refine J.region ?_
  -- box
  refine L.boxA (l := [_, _, _]) rfl rfl ?_
  intro b1 w1 hb1 hs1 hk1 he1
  -- box
  refine L.boxA (l := [_, _, _]) rfl rfl ?_
  intro b2 w2 hb2 hs2 hk2 he2
  have hk12 := hk1.ext he2
  have he := he1.trans he2
  have hc : (ar = true ∧ br = true) ∨ (ar = false ∧ br = false) ∨ (ar = true ∧ br = false) ∨ (ar = false ∧ br = true) := by cases ar <;> cases br <;> simp
  rcases hc with ⟨rfl, rfl⟩ | ⟨rfl, rfl⟩ | ⟨rfl, rfl⟩ | ⟨rfl, rfl⟩
  · refine L.va rfl (X.assign (by conv => lhs; whnf)) ?_
    refine L.nil ?_
    refine J.seq ?_
    refine J.seq ?_
    refine J.region ?_
    refine L.va rfl (X.fieldAddr rfl Try.underlying102 rfl sz_4 (by decide)) ?_
    refine L.va rfl (X.load rfl sc_4 (by first | exact Ld.blk hk2 rfl | exact Ld.blk hk12 rfl)) ?_
    refine L.va rfl (X.fieldAddr rfl Try.underlying102 rfl sz_4 (by decide)) ?_
    refine L.va rfl (X.load rfl sc_4 (by first | exact Ld.blk hk2 rfl | exact Ld.blk hk12 rfl)) ?_
    refine L.va rfl (X.neqB rfl rfl Try.underlying4) ?_
    refine L.nil ?_
    -- cond
    refine J.iteF rfl ?_
    refine J.skip ?_
    refine J.seq ?_
    refine J.seq ?_
    refine J.region ?_
    refine L.va rfl (X.fieldAddr rfl Try.underlying102 rfl sz_4 (by decide)) ?_
    refine L.va rfl (X.load rfl sc_4 (by first | exact Ld.blk hk2 rfl | exact Ld.blk hk12 rfl)) ?_
    refine L.nil ?_
    -- cond
    refine J.iteT rfl ?_
    refine J.seq ?_
    refine J.region ?_
    refine L.va rfl (X.fieldAddr rfl Try.underlying102 rfl sz_100 (by decide)) ?_
    refine L.va rfl (X.load rfl sc_100 (by first | exact Ld.blk hk2 rfl | exact Ld.blk hk12 rfl)) ?_
    refine L.va rfl (X.fieldAddr rfl Try.underlying102 rfl sz_100 (by decide)) ?_
    refine L.va rfl (X.load rfl sc_100 (by first | exact Ld.blk hk2 rfl | exact Ld.blk hk12 rfl)) ?_
    -- callfn bushel/bushelref03.Less
    refine L.call rfl en_130 rfl (less03 ax bx w2 ha hb) ?_
    rintro e w3 ⟨rfl, he3⟩
    refine ⟨_, rfl, ?_⟩
    refine L.va rfl (X.assign (by conv => lhs; whnf)) ?_
    refine L.nil ?_
    -- ret
    refine J.ret ?_
    refine thn_ret <| ?_
    refine fin1 ?_
    exact ⟨rfl, he.trans he3⟩
  · refine L.va rfl (X.assign (by conv => lhs; whnf)) ?_
    refine L.nil ?_
    refine J.seq ?_
    refine J.seq ?_
    refine J.region ?_
    refine L.va rfl (X.fieldAddr rfl Try.underlying102 rfl sz_4 (by decide)) ?_
    refine L.va rfl (X.load rfl sc_4 (by first | exact Ld.blk hk2 rfl | exact Ld.blk hk12 rfl)) ?_
    refine L.va rfl (X.fieldAddr rfl Try.underlying102 rfl sz_4 (by decide)) ?_
    refine L.va rfl (X.load rfl sc_4 (by first | exact Ld.blk hk2 rfl | exact Ld.blk hk12 rfl)) ?_
    refine L.va rfl (X.neqB rfl rfl Try.underlying4) ?_
    refine L.nil ?_
    -- cond
    refine J.iteF rfl ?_
    refine J.skip ?_
    refine J.seq ?_
    refine J.seq ?_
    refine J.region ?_
    refine L.va rfl (X.fieldAddr rfl Try.underlying102 rfl sz_4 (by decide)) ?_
    refine L.va rfl (X.load rfl sc_4 (by first | exact Ld.blk hk2 rfl | exact Ld.blk hk12 rfl)) ?_
    refine L.nil ?_
    -- cond
    refine J.iteF rfl ?_
    refine J.skip ?_
    refine J.seq ?_
    refine J.region ?_
    refine L.va rfl (X.fieldAddr rfl Try.underlying102 rfl sz_2 (by decide)) ?_
    refine L.va rfl (X.load rfl sc_2 (by first | exact Ld.blk hk2 rfl | exact Ld.blk hk12 rfl)) ?_
    refine L.va rfl (X.fieldAddr rfl Try.underlying102 rfl sz_2 (by decide)) ?_
    refine L.va rfl (X.load rfl sc_2 (by first | exact Ld.blk hk2 rfl | exact Ld.blk hk12 rfl)) ?_
    refine L.va rfl (X.lss rfl rfl) ?_
    refine L.va rfl (X.assign (by conv => lhs; whnf)) ?_
    refine L.nil ?_
    -- ret
    refine J.ret ?_
    refine fin1 ?_
    exact ⟨rfl, he⟩
  · refine L.va rfl (X.assign (by conv => lhs; whnf)) ?_
    refine L.nil ?_
    refine J.seq ?_
    refine J.seq ?_
    refine J.region ?_
    refine L.va rfl (X.fieldAddr rfl Try.underlying102 rfl sz_4 (by decide)) ?_
    refine L.va rfl (X.load rfl sc_4 (by first | exact Ld.blk hk2 rfl | exact Ld.blk hk12 rfl)) ?_
    refine L.va rfl (X.fieldAddr rfl Try.underlying102 rfl sz_4 (by decide)) ?_
    refine L.va rfl (X.load rfl sc_4 (by first | exact Ld.blk hk2 rfl | exact Ld.blk hk12 rfl)) ?_
    refine L.va rfl (X.neqB rfl rfl Try.underlying4) ?_
    refine L.nil ?_
    -- cond
    refine J.iteT rfl ?_
    refine J.seq ?_
    refine J.region ?_
    refine L.va rfl (X.fieldAddr rfl Try.underlying102 rfl sz_4 (by decide)) ?_
    refine L.va rfl (X.load rfl sc_4 (by first | exact Ld.blk hk2 rfl | exact Ld.blk hk12 rfl)) ?_
    refine L.va rfl (X.not rfl) ?_
    refine L.va rfl (X.assign (by conv => lhs; whnf)) ?_
    refine L.nil ?_
    -- ret
    refine J.ret ?_
    refine thn_ret <| ?_
    refine fin1 ?_
    exact ⟨rfl, he⟩
  · refine L.va rfl (X.assign (by conv => lhs; whnf)) ?_
    refine L.nil ?_
    refine J.seq ?_
    refine J.seq ?_
    refine J.region ?_
    refine L.va rfl (X.fieldAddr rfl Try.underlying102 rfl sz_4 (by decide)) ?_
    refine L.va rfl (X.load rfl sc_4 (by first | exact Ld.blk hk2 rfl | exact Ld.blk hk12 rfl)) ?_
    refine L.va rfl (X.fieldAddr rfl Try.underlying102 rfl sz_4 (by decide)) ?_
    refine L.va rfl (X.load rfl sc_4 (by first | exact Ld.blk hk2 rfl | exact Ld.blk hk12 rfl)) ?_
    refine L.va rfl (X.neqB rfl rfl Try.underlying4) ?_
    refine L.nil ?_
    -- cond
    refine J.iteT rfl ?_
    refine J.seq ?_
    refine J.region ?_
    refine L.va rfl (X.fieldAddr rfl Try.underlying102 rfl sz_4 (by decide)) ?_
    refine L.va rfl (X.load rfl sc_4 (by first | exact Ld.blk hk2 rfl | exact Ld.blk hk12 rfl)) ?_
    refine L.va rfl (X.not rfl) ?_
    refine L.va rfl (X.assign (by conv => lhs; whnf)) ?_
    refine L.nil ?_
    -- ret
    refine J.ret ?_
    refine thn_ret <| ?_
    refine fin1 ?_
    exact ⟨rfl, he⟩
theorem lessB_at : ∀ {u v : List Int} {i : Nat}, i < u.length → i < v.length → (∀ j, j < i → u.getD j 0 = v.getD j 0) → u.getD i 0 ≠ v.getD i 0 → lessB u v = decide (u.getD i 0 < v.getD i 0)
  | [], _, i, h, _, _, _ => absurd h (by simp)
  | _ :: _, [], i, _, h, _, _ => absurd h (by simp)
  | a :: u, b :: v, 0, _, _, _, h => by
    have h : a ≠ b := h
    show (if a ≠ b then decide (a < b) else _) = _
    rw [if_pos h]
    rfl
  | a :: u, b :: v, i + 1, h1, h2, hP, h => by
    have h0 : a = b := hP 0 (by omega)
    show (if a ≠ b then _ else lessB u v) = _
    rw [if_neg (fun k => k h0)]
    exact lessB_at (i := i) (by simpa using h1) (by simpa using h2) (fun j hj => hP (j + 1) (by omega)) h
theorem lessB_end : ∀ {u v : List Int}, (∀ j, j < u.length → j < v.length → u.getD j 0 = v.getD j 0) → lessB u v = decide (u.length < v.length)
  | u, [], _ => by rw [lessB_nil]; simp
  | [], b :: v, _ => by simp [lessB]
  | a :: u, b :: v, hP => by
    have h0 : a = b := hP 0 (by simp) (by simp)
    show (if a ≠ b then _ else lessB u v) = _
    rw [if_neg (fun k => k h0), lessB_end fun j h1 h2 => hP (j + 1) (by simpa using h1) (by simpa using h2)]
    simp
theorem code_Less (A1 : Option Addr) (n1 c1 : Nat) (A2 : Option Addr) (n2 c2 : Nat) (u v : List Int) (w : World) (h1 : Reads w w.heap.size 1 A1 n1 (nums .u8 u)) (h2 : Reads w w.heap.size 1 A2 n2 (nums .u8 v)) (hn1 : n1 ≤ maxLen) (hn2 : n2 ≤ maxLen) :
    Calls Try.prog 81 #[.slice A1 n1 c1, .slice A2 n2 c2] w fun e w' => e = .returned (.bool (lessB u v)) ∧ Ext w w' := by
  have l1 : u.length = n1 := by have := h1.1; simpa [nums] using this
  have l2 : v.length = n2 := by have := h2.1; simpa [nums] using this
  unfold maxLen at hn1 hn2
  refine enter Try.func81 rfl (by kernel_rfl) ?_
  -- t10
  refine J.seq ?_
  refine J.region ?_
  refine L.va rfl (X.assign (by conv => lhs; whnf)) ?_
  refine L.nil ?_
  refine J.seq ?_
  refine J.seq ?_
  refine J.region ?_
  refine L.va rfl (X.move (by conv => lhs; whnf)) ?_
  refine L.va rfl (X.len rfl Try.underlying33) ?_
  refine L.va rfl (X.move (by conv => lhs; whnf)) ?_
  refine L.va rfl (X.len rfl Try.underlying33) ?_
  refine L.va rfl (X.min2 rfl rfl) ?_
  refine L.va rfl (X.move (by conv => lhs; whnf)) ?_
  refine L.nil ?_
  refine J.block ?_
  -- loop
  refine J.loop (X := Nat) [4, 5, 11, 12, 13, 14, 15, 16, 17, 18, 19, 20, 21, 22, 23, 24, 25, 26, 27, 28, 29, 30, 31, 32] (fun i => [(11, .int .i64 (i : Int))]) (fun i w' => i ≤ n1 ∧ i ≤ n2 ∧ (∀ j, j < i → u.getD j 0 = v.getD j 0) ∧ Ext w w') (fun i => n1 - i) (0) (At1 (by first | rfl | exact at_int rfl (by omega) | exact at_slice rfl (by omega) | exact at_int rfl (by simp))) ?_ ?_
  · exact ⟨Nat.zero_le _, Nat.zero_le _, fun j hj => absurd hj (by omega), Ext.refl _⟩
  · rintro i g w2 ⟨hi, hi2, hP, he⟩
    have k1 := h1.ext he
    have k2 := h2.ext he
    refine J.seq ?_
    refine J.region ?_
    refine L.va rfl (X.lss rfl rfl) ?_
    refine L.nil ?_
    refine J.seq ?_
    -- cond
    refine J.dec rfl (fun hlt => ?_) (fun hlt => ?_)
    · have hA1 := k1.some_ (by omega)
      have hA2 := k2.some_ (by omega)
      refine J.skip ?_
      refine J.seq ?_
      refine J.block ?_
      refine J.seq ?_
      refine J.region ?_
      refine L.va rfl (X.move (by conv => lhs; whnf)) ?_
      refine L.va rfl (X.assign (by conv => lhs; whnf)) ?_
      refine L.nil ?_
      refine J.seq ?_
      -- draw
      refine J.quiet mixed (by kernel_rfl) ?_
      refine Qt.va rfl (fun w' hw => X.move (by conv => lhs; whnf)) ?_
      refine Qt.va rfl (fun w' hw => X.move (by conv => lhs; whnf)) ?_
      refine Qt.va rfl (fun w' hw => (by first | exact X.index1n rfl rfl Try.underlying33 sz_5 (by first | exact Option.some_ne_none _ | exact k1.some_ (by omega) | exact k2.some_ (by omega) | exact hA1 | exact hA2) (by omega) | exact X.index1 rfl rfl Try.underlying33 sz_5 (by first | exact Option.some_ne_none _ | exact k1.some_ (by omega) | exact k2.some_ (by omega) | exact hA1 | exact hA2) (by omega))) ?_
      refine Qt.va rfl (fun w' hw => X.load rfl sc_5 (by first | exact Ld.num (k1.ext hw) (by omega) | exact Ld.num (k2.ext hw) (by omega) | exact hA1 | exact hA2)) ?_
      refine Qt.va rfl (fun w' hw => X.move (by conv => lhs; whnf)) ?_
      refine Qt.va rfl (fun w' hw => X.move (by conv => lhs; whnf)) ?_
      refine Qt.va rfl (fun w' hw => (by first | exact X.index1n rfl rfl Try.underlying33 sz_5 (by first | exact Option.some_ne_none _ | exact k1.some_ (by omega) | exact k2.some_ (by omega) | exact hA1 | exact hA2) (by omega) | exact X.index1 rfl rfl Try.underlying33 sz_5 (by first | exact Option.some_ne_none _ | exact k1.some_ (by omega) | exact k2.some_ (by omega) | exact hA1 | exact hA2) (by omega))) ?_
      refine Qt.va rfl (fun w' hw => X.load rfl sc_5 (by first | exact Ld.num (k1.ext hw) (by omega) | exact Ld.num (k2.ext hw) (by omega) | exact hA1 | exact hA2)) ?_
      refine Qt.va rfl (fun w' hw => X.neq rfl rfl) ?_
      refine Qt.nil (fun w3 hq => ?_)
      replace k1 := k1.ext hq
      replace k2 := k2.ext hq
      -- cond
      refine J.ndec rfl (fun hd => ?_) (fun hd => ?_)
      · rw [lessB_at (i := i) (by omega) (by omega) hP hd]
        refine J.seq ?_
        -- draw
        refine J.quiet mixed (by kernel_rfl) ?_
        refine Qt.va rfl (fun w' hw => X.move (by conv => lhs; whnf)) ?_
        refine Qt.va rfl (fun w' hw => X.move (by conv => lhs; whnf)) ?_
        refine Qt.va rfl (fun w' hw => (by first | exact X.index1n rfl rfl Try.underlying33 sz_5 (by first | exact Option.some_ne_none _ | exact k1.some_ (by omega) | exact k2.some_ (by omega) | exact hA1 | exact hA2) (by omega) | exact X.index1 rfl rfl Try.underlying33 sz_5 (by first | exact Option.some_ne_none _ | exact k1.some_ (by omega) | exact k2.some_ (by omega) | exact hA1 | exact hA2) (by omega))) ?_
        refine Qt.va rfl (fun w' hw => X.load rfl sc_5 (by first | exact Ld.num (k1.ext hw) (by omega) | exact Ld.num (k2.ext hw) (by omega) | exact hA1 | exact hA2)) ?_
        refine Qt.va rfl (fun w' hw => X.move (by conv => lhs; whnf)) ?_
        refine Qt.va rfl (fun w' hw => X.move (by conv => lhs; whnf)) ?_
        refine Qt.va rfl (fun w' hw => (by first | exact X.index1n rfl rfl Try.underlying33 sz_5 (by first | exact Option.some_ne_none _ | exact k1.some_ (by omega) | exact k2.some_ (by omega) | exact hA1 | exact hA2) (by omega) | exact X.index1 rfl rfl Try.underlying33 sz_5 (by first | exact Option.some_ne_none _ | exact k1.some_ (by omega) | exact k2.some_ (by omega) | exact hA1 | exact hA2) (by omega))) ?_
        refine Qt.va rfl (fun w' hw => X.load rfl sc_5 (by first | exact Ld.num (k1.ext hw) (by omega) | exact Ld.num (k2.ext hw) (by omega) | exact hA1 | exact hA2)) ?_
        refine Qt.va rfl (fun w' hw => X.lss rfl rfl) ?_
        refine Qt.va rfl (fun w' hw => X.assign (by conv => lhs; whnf)) ?_
        refine Qt.nil (fun w4 hq4 => ?_)
        replace k1 := k1.ext hq4
        replace k2 := k2.ext hq4
        -- ret
        refine J.ret ?_
        refine inB_ret <|  thn_ret <|  thn_ret <|  inB_ret <|  thn_ret <| ?_
        refine fin1 ?_
        exact ⟨rfl, (he.trans hq).trans hq4⟩
      · skip
        refine J.skip ?_
        refine J.region ?_
        refine L.va rfl (X.add rfl rfl (by omega)) ?_
        refine L.va rfl (X.move (by conv => lhs; whnf)) ?_
        refine L.nil ?_
        -- loopend
        refine ⟨i + 1, At1 (by first | rfl | exact at_int rfl (by omega) | exact at_slice rfl (by omega) | exact at_int rfl (by simp)), (by (iterate 14 refine Agr.lk rfl ?_); exact Agr.lk rfl (Agr.hav rfl Agr.rfl')), ?_⟩
        refine ⟨⟨by omega, by omega, fun j hj => ?_, he.trans hq⟩, by omega⟩
        rcases Nat.lt_or_ge j i with h | h
        · exact hP j h
        · obtain rfl : j = i := by omega
          exact hd
    · rw [lessB_end fun j k1 k2 => hP j (by omega), l1, l2]
      refine J.exit ?_
      refine J.seq ?_
      refine J.region ?_
      refine L.va rfl (X.move (by conv => lhs; whnf)) ?_
      refine L.va rfl (X.len rfl Try.underlying33) ?_
      refine L.va rfl (X.move (by conv => lhs; whnf)) ?_
      refine L.va rfl (X.len rfl Try.underlying33) ?_
      refine L.va rfl (X.lss rfl rfl) ?_
      refine L.va rfl (X.assign (by conv => lhs; whnf)) ?_
      refine L.nil ?_
      -- ret
      refine J.ret ?_
      refine fin1 ?_
      exact ⟨congrArg (fun b => Ending.returned (.bool b)) (decide_eq_decide.2 Int.ofNat_lt), he⟩
end Go.Proofs.Ytmnlaekcojblkaa
