/-
  Manifests compared.
-/
import Derived.Test.YtlohbkcedpkjaaaDoorWManA
namespace Go.Proofs.YtlohbkcedpkjaaaDoor
set_option maxRecDepth 100000
open Go.RowKit H
set_option linter.unusedVariables false
namespace Man
theorem two_root : Two Tryd.prog 59 3 3 := ⟨by kernel_rfl, by kernel_rfl, by kernel_rfl, by kernel_rfl⟩
def r0 : Int × Int := (0, 0)
theorem lst_eq {α : Type} (d : α) {a b : List α} (h : a.length = b.length) (hP : ∀ j, j < a.length → a.getD j d = b.getD j d) : a = b := by
  apply List.ext_getElem h
  intro i h1 h2
  have := hP i h1
  simpa [List.getD, h1, h2] using this
theorem lst_ne {α : Type} (d : α) {a b : List α} {i : Nat} (h : ¬ a.getD i d = b.getD i d) : ¬ a = b := fun e => h (by rw [e])
theorem rneF {a b : Int × Int} (h : a = b) : (!((a.1 == b.1) && (a.2 == b.2))) = false := by subst h; simp
theorem rneT {a b : Int × Int} (h : ¬ a = b) : (!((a.1 == b.1) && (a.2 == b.2))) = true := by
  rcases a with ⟨a1, a2⟩; rcases b with ⟨b1, b2⟩
  simp only [Prod.mk.injEq, not_and] at h
  by_cases h1 : a1 = b1
  · simp [h1, h h1]
  · simp [h1]
theorem gt_ {l : List (Int × Int)} {i : Nat} (h : i < l.length) : l[i]? = some (l.getD i r0) := by simp [List.getD, h]
theorem equal_ {w : World} {N : Nat} (hN : N ≤ w.heap.size) (A1 : Option Addr) (c1 : Nat) (A2 : Option Addr) (c2 : Nat) (l1 l2 : List (Int × Int)) (h1 : Reads w N 2 A1 l1.length (l1.flatMap rV)) (h2 : Reads w N 2 A2 l2.length (l2.flatMap rV)) (hn1 : l1.length ≤ 1000000) (hn2 : l2.length ≤ 1000000) :
    Calls Tryd.prog 39 #[.slice A1 l1.length c1, .slice A2 l2.length c2] w fun e w' => e = .returned (.bool (decide (l1 = l2))) ∧ Ext w w' := by
  refine enter Tryd.func39 rfl (by kernel_rfl) ?_
  refine J.seq ?_
  refine J.region ?_
  refine L.va rfl (X.assign (by conv => lhs; whnf)) ?_
  refine L.nil ?_
  refine J.seq ?_
  refine J.seq ?_
  refine J.region ?_
  refine L.va rfl (X.move (by conv => lhs; whnf)) ?_
  refine L.va rfl (X.len rfl Tryd.underlying28) ?_
  refine L.va rfl (X.move (by conv => lhs; whnf)) ?_
  refine L.va rfl (X.len rfl Tryd.underlying28) ?_
  refine L.va rfl (X.neq rfl rfl) ?_
  refine L.nil ?_
  -- cond
  refine J.ndec rfl (fun hne => ?_) (fun hne => ?_)
  · rw [show decide (l1 = l2) = false from decide_eq_false (fun e => by rw [e] at hne; exact hne rfl)]
    refine J.seq ?_
    refine J.region ?_
    refine L.va rfl (X.assign (by conv => lhs; whnf)) ?_
    refine L.nil ?_
    -- ret
    refine J.ret ?_
    refine thn_ret <| ?_
    refine fin1 ?_
    exact ⟨rfl, Ext.refl _⟩
  · refine J.skip ?_
    refine J.seq ?_
    refine J.seq ?_
    refine J.region ?_
    refine L.va rfl (X.move (by conv => lhs; whnf)) ?_
    refine L.va rfl (X.len rfl Tryd.underlying28) ?_
    refine L.va rfl (X.move (by conv => lhs; whnf)) ?_
    refine L.nil ?_
    refine J.block ?_
    -- loop
    refine J.loop (X := Nat) [4, 5, 13, 14, 15, 16, 17, 18, 19, 20, 21, 22, 23, 24, 25] (fun i => [(13, .int .i64 (i : Int))]) (fun i w' => i ≤ l1.length ∧ (∀ j, j < i → l1.getD j r0 = l2.getD j r0) ∧ Ext w w') (fun i => l1.length - i) (0) (At1 (by first | rfl | exact at_int rfl (by omega) | exact at_slice rfl (by omega) | exact at_int rfl (by simp))) ?_ ?_
    · exact ⟨by omega, fun j hj => absurd hj (by omega), Ext.refl _⟩
    · rintro i g w2 ⟨hi, hP, he⟩
      have z := he.le
      have k1 := h1.low (Below.mono he hN) (Nat.le_refl _)
      have k2 := h2.low (Below.mono he hN) (Nat.le_refl _)
      refine J.seq ?_
      refine J.region ?_
      refine L.va rfl (X.lss rfl rfl) ?_
      refine L.nil ?_
      refine J.seq ?_
      -- cond
      refine J.dec rfl (fun hlt => ?_) (fun hlt => ?_)
      · have hi1 : i < l1.length := by omega
        have hi2 : i < l2.length := by omega
        have hA1 := k1.some_ (by omega)
        have hA2 := k2.some_ (by omega)
        have q1 := fun (w' : World) (hw : Ext w2 w') => k1.low (Below.mono hw (by omega)) (Nat.le_refl _)
        have q2 := fun (w' : World) (hw : Ext w2 w') => k2.low (Below.mono hw (by omega)) (Nat.le_refl _)
        refine J.skip ?_
        refine J.seq ?_
        refine J.block ?_
        refine J.seq ?_
        refine J.region ?_
        refine L.va rfl (X.move (by conv => lhs; whnf)) ?_
        refine L.va rfl (X.assign (by conv => lhs; whnf)) ?_
        refine L.nil ?_
        refine J.seq ?_
        -- draw
        refine J.quiet mixed (by kernel_rfl) ?_
        -- t19
        -- t23
        -- t24
        refine Qt.va rfl (fun w' hw => X.move (by conv => lhs; whnf)) ?_
        refine Qt.va rfl (fun w' hw => X.move (by conv => lhs; whnf)) ?_
        refine Qt.va rfl (fun w' hw => (by first | exact X.indexAddrn rfl rfl Tryd.underlying28 sz_59 (by first | exact Option.some_ne_none _ | exact hA1 | exact hA2) (by omega) | exact X.indexAddr rfl rfl Tryd.underlying28 sz_59 (by first | exact Option.some_ne_none _ | exact hA1 | exact hA2) (by omega))) ?_
        refine Qt.va rfl (fun w' hw => X.loadRow (cs := rV (l1.getD i r0)) rfl (q1 w' hw) (fun r u hu => flat_row rV_len (gt_ hi1) r u hu) (Nat.zero_lt_succ _) Tryd.underlying59 rfl (by kernel_rfl)) ?_
        refine Qt.va rfl (fun w' hw => X.move (by conv => lhs; whnf)) ?_
        refine Qt.va rfl (fun w' hw => X.move (by conv => lhs; whnf)) ?_
        refine Qt.va rfl (fun w' hw => (by first | exact X.indexAddrn rfl rfl Tryd.underlying28 sz_59 (by first | exact Option.some_ne_none _ | exact hA1 | exact hA2) (by omega) | exact X.indexAddr rfl rfl Tryd.underlying28 sz_59 (by first | exact Option.some_ne_none _ | exact hA1 | exact hA2) (by omega))) ?_
        refine Qt.va rfl (fun w' hw => X.loadRow (cs := rV (l2.getD i r0)) rfl (q2 w' hw) (fun r u hu => flat_row rV_len (gt_ hi2) r u hu) (Nat.zero_lt_succ _) Tryd.underlying59 rfl (by kernel_rfl)) ?_
        refine Qt.va rfl (fun w' hw => X.neqTwo two_root rfl rfl sc_3 sc_3 (eq_int Tryd.underlying3) (eq_int Tryd.underlying3)) ?_
        refine Qt.nil (fun w3 hq => ?_)
        -- cond
        by_cases hd : l1.getD i r0 = l2.getD i r0
        · rw [rneF hd]
          refine J.iteF rfl ?_
          refine J.skip ?_
          refine J.region ?_
          refine L.va rfl (X.add rfl rfl (by omega)) ?_
          refine L.va rfl (X.move (by conv => lhs; whnf)) ?_
          refine L.nil ?_
          -- loopend
          refine ⟨i + 1, At1 (by first | rfl | exact at_int rfl (by omega) | exact at_slice rfl (by omega) | exact at_int rfl (by simp)), (by (iterate 14 refine Agr.lk rfl ?_); exact Agr.lk rfl (Agr.hav rfl Agr.rfl')), ?_⟩
          refine ⟨⟨by omega, fun j hj => ?_, he.trans hq⟩, by omega⟩
          rcases Nat.lt_or_ge j i with h | h
          · exact hP j h
          · obtain rfl : j = i := by omega
            exact hd
        · rw [show decide (l1 = l2) = false from decide_eq_false (lst_ne r0 hd)]
          rw [rneT hd]
          refine J.iteT rfl ?_
          refine J.seq ?_
          refine J.region ?_
          refine L.va rfl (X.assign (by conv => lhs; whnf)) ?_
          refine L.nil ?_
          -- ret
          refine J.ret ?_
          refine inB_ret <|  thn_ret <|  thn_ret <|  inB_ret <|  thn_ret <| ?_
          refine fin1 ?_
          exact ⟨rfl, he.trans hq⟩
      · rw [show decide (l1 = l2) = true from decide_eq_true (lst_eq r0 (by omega) (fun j hj => hP j (by omega)))]
        refine J.exit ?_
        refine J.seq ?_
        refine J.region ?_
        refine L.va rfl (X.assign (by conv => lhs; whnf)) ?_
        refine L.nil ?_
        -- ret
        refine J.ret ?_
        refine fin1 ?_
        exact ⟨rfl, he⟩
/-- two manifests are the same -/
def eqm (a b : M) : Prop := a.v = b.v ∧ a.e = b.e ∧ a.b = b.b ∧ a.s = b.s ∧ a.r = b.r
instance (a b : M) : Decidable (eqm a b) := by unfold eqm; infer_instance
theorem eqm_no {a b : M} (h : ¬ a.v = b.v ∨ ¬ a.e = b.e ∨ ¬ a.b = b.b ∨ ¬ a.s = b.s ∨ ¬ a.r = b.r) : decide (eqm a b) = false := decide_eq_false (fun ⟨h1, h2, h3, h4, h5⟩ => by
  rcases h with h | h | h | h | h
  · exact h h1
  · exact h h2
  · exact h h3
  · exact h h4
  · exact h h5)
theorem eqm_self (a : M) : decide (eqm a a) = true := decide_eq_true ⟨rfl, rfl, rfl, rfl, rfl⟩
theorem same_ {w : World} {N : Nat} (hN : N ≤ w.heap.size) (a b : M) (A1 : Option Addr) (c1 : Nat) (A2 : Option Addr) (c2 : Nat) (h1 : Reads w N 2 A1 a.r.length (a.r.flatMap rV)) (h2 : Reads w N 2 A2 b.r.length (b.r.flatMap rV)) (hn1 : a.r.length ≤ 1000000) (hn2 : b.r.length ≤ 1000000) :
    Calls Tryd.prog 18 #[val a A1 c1, val b A2 c2] w fun e w' => e = .returned (.bool (decide (eqm a b))) ∧ Ext w w' := by
  refine enter Tryd.func18 rfl (by kernel_rfl) ?_
  refine J.seq ?_
  refine J.region ?_
  -- box
  refine L.boxA (l := [_, _, _, _, _]) rfl rfl ?_
  intro b1 w1 hb1 hs1 hk1 he1
  -- box
  refine L.boxA (l := [_, _, _, _, _]) rfl rfl ?_
  intro b2 w2 hb2 hs2 hk2 he2
  have hk12 := hk1.ext he2
  have he02 := he1.trans he2
  have k1 := h1.low (Below.mono he02 hN) (Nat.le_refl _)
  have k2 := h2.low (Below.mono he02 hN) (Nat.le_refl _)
  have z2 := he02.le
  refine L.va rfl (X.assign (by conv => lhs; whnf)) ?_
  refine L.nil ?_
  refine J.seq ?_
  refine J.region ?_
  refine L.va rfl (X.fieldAddr rfl Tryd.underlying30 rfl sz_22 (by decide)) ?_
  refine L.va rfl (X.load rfl sc_22 (by first | exact Ld.blk hk2 rfl | exact Ld.blk hk12 rfl)) ?_
  refine L.va rfl (X.fieldAddr rfl Tryd.underlying30 rfl sz_22 (by decide)) ?_
  refine L.va rfl (X.load rfl sc_22 (by first | exact Ld.blk hk2 rfl | exact Ld.blk hk12 rfl)) ?_
  refine L.va rfl (X.eql rfl rfl) ?_
  refine L.va rfl (X.move (by conv => lhs; whnf)) ?_
  -- case t10
  refine L.caseDec (k := 10) rfl (fun g1 => ?_) (fun g1 => ?_)
  rotate_left
  · rw [eqm_no (.inl g1)]
    refine L.no rfl ?_
    refine L.no rfl ?_
    refine L.no rfl ?_
    refine L.no rfl ?_
    refine L.no rfl ?_
    refine L.va rfl (X.pickF rfl (by conv => lhs; whnf)) ?_
    refine L.va rfl (X.move (by conv => lhs; whnf)) ?_
    refine L.no rfl ?_
    refine L.no rfl ?_
    refine L.no rfl ?_
    refine L.no rfl ?_
    refine L.no rfl ?_
    refine L.va rfl (X.pickF rfl (by conv => lhs; whnf)) ?_
    refine L.va rfl (X.move (by conv => lhs; whnf)) ?_
    refine L.no rfl ?_
    refine L.no rfl ?_
    refine L.no rfl ?_
    refine L.no rfl ?_
    refine L.no rfl ?_
    refine L.va rfl (X.pickF rfl (by conv => lhs; whnf)) ?_
    refine L.va rfl (X.move (by conv => lhs; whnf)) ?_
    refine L.no rfl ?_
    refine L.no rfl ?_
    refine L.no rfl ?_
    refine L.no rfl ?_
    refine L.no rfl ?_
    refine L.va rfl (X.pickF rfl (by conv => lhs; whnf)) ?_
    refine L.va rfl (X.assign (by conv => lhs; whnf)) ?_
    refine L.nil ?_
    -- ret
    refine J.ret ?_
    refine fin1 ?_
    exact ⟨rfl, he02⟩
  refine L.va rfl (X.fieldAddr rfl Tryd.underlying30 rfl sz_22 (by decide)) ?_
  refine L.va rfl (X.load rfl sc_22 (by first | exact Ld.blk hk2 rfl | exact Ld.blk hk12 rfl)) ?_
  refine L.va rfl (X.fieldAddr rfl Tryd.underlying30 rfl sz_22 (by decide)) ?_
  refine L.va rfl (X.load rfl sc_22 (by first | exact Ld.blk hk2 rfl | exact Ld.blk hk12 rfl)) ?_
  refine L.va rfl (X.eql rfl rfl) ?_
  refine L.va rfl (X.pickT rfl (by conv => lhs; whnf)) ?_
  refine L.va rfl (X.move (by conv => lhs; whnf)) ?_
  -- case t17
  refine L.caseDec (k := 17) rfl (fun g2 => ?_) (fun g2 => ?_)
  rotate_left
  · rw [eqm_no (.inr (.inl g2))]
    refine L.no rfl ?_
    refine L.no rfl ?_
    refine L.no rfl ?_
    refine L.no rfl ?_
    refine L.no rfl ?_
    refine L.va rfl (X.pickF rfl (by conv => lhs; whnf)) ?_
    refine L.va rfl (X.move (by conv => lhs; whnf)) ?_
    refine L.no rfl ?_
    refine L.no rfl ?_
    refine L.no rfl ?_
    refine L.no rfl ?_
    refine L.no rfl ?_
    refine L.va rfl (X.pickF rfl (by conv => lhs; whnf)) ?_
    refine L.va rfl (X.move (by conv => lhs; whnf)) ?_
    refine L.no rfl ?_
    refine L.no rfl ?_
    refine L.no rfl ?_
    refine L.no rfl ?_
    refine L.no rfl ?_
    refine L.va rfl (X.pickF rfl (by conv => lhs; whnf)) ?_
    refine L.va rfl (X.assign (by conv => lhs; whnf)) ?_
    refine L.nil ?_
    -- ret
    refine J.ret ?_
    refine fin1 ?_
    exact ⟨rfl, he02⟩
  refine L.va rfl (X.fieldAddr rfl Tryd.underlying30 rfl sz_22 (by decide)) ?_
  refine L.va rfl (X.load rfl sc_22 (by first | exact Ld.blk hk2 rfl | exact Ld.blk hk12 rfl)) ?_
  refine L.va rfl (X.fieldAddr rfl Tryd.underlying30 rfl sz_22 (by decide)) ?_
  refine L.va rfl (X.load rfl sc_22 (by first | exact Ld.blk hk2 rfl | exact Ld.blk hk12 rfl)) ?_
  refine L.va rfl (X.eql rfl rfl) ?_
  refine L.va rfl (X.pickT rfl (by conv => lhs; whnf)) ?_
  refine L.va rfl (X.move (by conv => lhs; whnf)) ?_
  -- case t24
  refine L.caseDec (k := 24) rfl (fun g3 => ?_) (fun g3 => ?_)
  rotate_left
  · rw [eqm_no (.inr (.inr (.inl g3)))]
    refine L.no rfl ?_
    refine L.no rfl ?_
    refine L.no rfl ?_
    refine L.no rfl ?_
    refine L.no rfl ?_
    refine L.va rfl (X.pickF rfl (by conv => lhs; whnf)) ?_
    refine L.va rfl (X.move (by conv => lhs; whnf)) ?_
    refine L.no rfl ?_
    refine L.no rfl ?_
    refine L.no rfl ?_
    refine L.no rfl ?_
    refine L.no rfl ?_
    refine L.va rfl (X.pickF rfl (by conv => lhs; whnf)) ?_
    refine L.va rfl (X.assign (by conv => lhs; whnf)) ?_
    refine L.nil ?_
    -- ret
    refine J.ret ?_
    refine fin1 ?_
    exact ⟨rfl, he02⟩
  refine L.va rfl (X.fieldAddr rfl Tryd.underlying30 rfl sz_3 (by decide)) ?_
  refine L.va rfl (X.load rfl sc_3 (by first | exact Ld.blk hk2 rfl | exact Ld.blk hk12 rfl)) ?_
  refine L.va rfl (X.fieldAddr rfl Tryd.underlying30 rfl sz_3 (by decide)) ?_
  refine L.va rfl (X.load rfl sc_3 (by first | exact Ld.blk hk2 rfl | exact Ld.blk hk12 rfl)) ?_
  refine L.va rfl (X.eql rfl rfl) ?_
  refine L.va rfl (X.pickT rfl (by conv => lhs; whnf)) ?_
  refine L.va rfl (X.move (by conv => lhs; whnf)) ?_
  -- case t31
  refine L.caseDec (k := 31) rfl (fun g4 => ?_) (fun g4 => ?_)
  rotate_left
  · rw [eqm_no (.inr (.inr (.inr (.inl g4))))]
    refine L.no rfl ?_
    refine L.no rfl ?_
    refine L.no rfl ?_
    refine L.no rfl ?_
    refine L.no rfl ?_
    refine L.va rfl (X.pickF rfl (by conv => lhs; whnf)) ?_
    refine L.va rfl (X.assign (by conv => lhs; whnf)) ?_
    refine L.nil ?_
    -- ret
    refine J.ret ?_
    refine fin1 ?_
    exact ⟨rfl, he02⟩
  refine L.va rfl (X.fieldAddr rfl Tryd.underlying30 rfl sz_28 (by decide)) ?_
  refine L.va rfl (X.load rfl sc_28 (by first | exact Ld.blk hk2 rfl | exact Ld.blk hk12 rfl)) ?_
  refine L.va rfl (X.fieldAddr rfl Tryd.underlying30 rfl sz_28 (by decide)) ?_
  refine L.va rfl (X.load rfl sc_28 (by first | exact Ld.blk hk2 rfl | exact Ld.blk hk12 rfl)) ?_
  -- callfn slices.Equal[[]bushel/api.Root,bushel/api.Root]
  refine L.call rfl en_39 rfl (equal_ (by omega) A1 c1 A2 c2 a.r b.r k1 k2 hn1 hn2) ?_
  rintro e w3 ⟨rfl, he3⟩
  refine ⟨_, rfl, ?_⟩
  have e : decide (eqm a b) = decide (a.r = b.r) := by
    by_cases hr : a.r = b.r
    · rw [decide_eq_true hr]; exact decide_eq_true ⟨g1, g2, g3, g4, hr⟩
    · rw [decide_eq_false hr]; exact eqm_no (.inr (.inr (.inr (.inr hr))))
  rw [e]
  refine L.va rfl (X.pickT rfl (by conv => lhs; whnf)) ?_
  refine L.va rfl (X.assign (by conv => lhs; whnf)) ?_
  refine L.nil ?_
  -- ret
  refine J.ret ?_
  refine fin1 ?_
  exact ⟨rfl, he02.trans he3⟩
theorem rsame_ {w : World} {N : Nat} (hN : N ≤ w.heap.size) (a b : M) (A1 : Option Addr) (c1 : Nat) (A2 : Option Addr) (c2 : Nat) (h1 : Reads w N 2 A1 a.r.length (a.r.flatMap rV)) (h2 : Reads w N 2 A2 b.r.length (b.r.flatMap rV)) (hn1 : a.r.length ≤ 1000000) (hn2 : b.r.length ≤ 1000000) :
    Calls Tryd.prog 12 #[val a A1 c1, val b A2 c2] w fun e w' => e = .returned (.bool (decide (eqm a b))) ∧ Ext w w' := by
  refine enter Tryd.func12 rfl (by kernel_rfl) ?_
  refine J.seq ?_
  refine J.region ?_
  -- box
  refine L.boxA (l := [_, _, _, _, _]) rfl rfl ?_
  intro b1 w1 hb1 hs1 hk1 he1
  -- box
  refine L.boxA (l := [_, _, _, _, _]) rfl rfl ?_
  intro b2 w2 hb2 hs2 hk2 he2
  have hk12 := hk1.ext he2
  have he02 := he1.trans he2
  have k1 := h1.low (Below.mono he02 hN) (Nat.le_refl _)
  have k2 := h2.low (Below.mono he02 hN) (Nat.le_refl _)
  have z2 := he02.le
  refine L.va rfl (X.assign (by conv => lhs; whnf)) ?_
  refine L.nil ?_
  refine J.seq ?_
  refine J.seq ?_
  refine J.region ?_
  refine L.va rfl (X.fieldAddr rfl Tryd.underlying30 rfl sz_22 (by decide)) ?_
  refine L.va rfl (X.load rfl sc_22 (by first | exact Ld.blk hk2 rfl | exact Ld.blk hk12 rfl)) ?_
  refine L.va rfl (X.fieldAddr rfl Tryd.underlying30 rfl sz_22 (by decide)) ?_
  refine L.va rfl (X.load rfl sc_22 (by first | exact Ld.blk hk2 rfl | exact Ld.blk hk12 rfl)) ?_
  refine L.va rfl (X.neq rfl rfl) ?_
  refine L.va rfl (X.move (by conv => lhs; whnf)) ?_
  -- case t11
  refine L.caseNdec (k := 11) rfl (fun g1 => ?_) (fun g1 => ?_)
  · refine L.no rfl ?_
    refine L.no rfl ?_
    refine L.no rfl ?_
    refine L.no rfl ?_
    refine L.no rfl ?_
    refine L.va rfl (X.pickT rfl (by conv => lhs; whnf)) ?_
    refine L.va rfl (X.move (by conv => lhs; whnf)) ?_
    refine L.no rfl ?_
    refine L.no rfl ?_
    refine L.no rfl ?_
    refine L.no rfl ?_
    refine L.no rfl ?_
    refine L.va rfl (X.pickT rfl (by conv => lhs; whnf)) ?_
    refine L.va rfl (X.move (by conv => lhs; whnf)) ?_
    refine L.no rfl ?_
    refine L.no rfl ?_
    refine L.no rfl ?_
    refine L.no rfl ?_
    refine L.no rfl ?_
    refine L.va rfl (X.pickT rfl (by conv => lhs; whnf)) ?_
    refine L.va rfl (X.move (by conv => lhs; whnf)) ?_
    refine L.no rfl ?_
    refine L.no rfl ?_
    refine L.no rfl ?_
    refine L.no rfl ?_
    refine L.no rfl ?_
    refine L.no rfl ?_
    refine L.no rfl ?_
    refine L.va rfl (X.pickT rfl (by conv => lhs; whnf)) ?_
    refine L.nil ?_
    -- cond
    refine J.iteT rfl ?_
    rw [eqm_no (by first | exact .inl g1 | exact .inr (.inl g1) | exact .inr (.inr (.inl g1)) | exact .inr (.inr (.inr (.inl g1))) | exact .inr (.inr (.inr (.inr (fun e => by rw [e] at g1; exact g1 rfl)))))]
    refine J.seq ?_
    refine J.region ?_
    refine L.va rfl (X.assign (by conv => lhs; whnf)) ?_
    refine L.nil ?_
    -- ret
    refine J.ret ?_
    refine thn_ret <| ?_
    refine fin1 ?_
    exact ⟨rfl, he02⟩
  refine L.va rfl (X.fieldAddr rfl Tryd.underlying30 rfl sz_22 (by decide)) ?_
  refine L.va rfl (X.load rfl sc_22 (by first | exact Ld.blk hk2 rfl | exact Ld.blk hk12 rfl)) ?_
  refine L.va rfl (X.fieldAddr rfl Tryd.underlying30 rfl sz_22 (by decide)) ?_
  refine L.va rfl (X.load rfl sc_22 (by first | exact Ld.blk hk2 rfl | exact Ld.blk hk12 rfl)) ?_
  refine L.va rfl (X.neq rfl rfl) ?_
  refine L.va rfl (X.pickF rfl (by conv => lhs; whnf)) ?_
  refine L.va rfl (X.move (by conv => lhs; whnf)) ?_
  -- case t18
  refine L.caseNdec (k := 18) rfl (fun g2 => ?_) (fun g2 => ?_)
  · refine L.no rfl ?_
    refine L.no rfl ?_
    refine L.no rfl ?_
    refine L.no rfl ?_
    refine L.no rfl ?_
    refine L.va rfl (X.pickT rfl (by conv => lhs; whnf)) ?_
    refine L.va rfl (X.move (by conv => lhs; whnf)) ?_
    refine L.no rfl ?_
    refine L.no rfl ?_
    refine L.no rfl ?_
    refine L.no rfl ?_
    refine L.no rfl ?_
    refine L.va rfl (X.pickT rfl (by conv => lhs; whnf)) ?_
    refine L.va rfl (X.move (by conv => lhs; whnf)) ?_
    refine L.no rfl ?_
    refine L.no rfl ?_
    refine L.no rfl ?_
    refine L.no rfl ?_
    refine L.no rfl ?_
    refine L.no rfl ?_
    refine L.no rfl ?_
    refine L.va rfl (X.pickT rfl (by conv => lhs; whnf)) ?_
    refine L.nil ?_
    -- cond
    refine J.iteT rfl ?_
    rw [eqm_no (by first | exact .inl g2 | exact .inr (.inl g2) | exact .inr (.inr (.inl g2)) | exact .inr (.inr (.inr (.inl g2))) | exact .inr (.inr (.inr (.inr (fun e => by rw [e] at g2; exact g2 rfl)))))]
    refine J.seq ?_
    refine J.region ?_
    refine L.va rfl (X.assign (by conv => lhs; whnf)) ?_
    refine L.nil ?_
    -- ret
    refine J.ret ?_
    refine thn_ret <| ?_
    refine fin1 ?_
    exact ⟨rfl, he02⟩
  refine L.va rfl (X.fieldAddr rfl Tryd.underlying30 rfl sz_22 (by decide)) ?_
  refine L.va rfl (X.load rfl sc_22 (by first | exact Ld.blk hk2 rfl | exact Ld.blk hk12 rfl)) ?_
  refine L.va rfl (X.fieldAddr rfl Tryd.underlying30 rfl sz_22 (by decide)) ?_
  refine L.va rfl (X.load rfl sc_22 (by first | exact Ld.blk hk2 rfl | exact Ld.blk hk12 rfl)) ?_
  refine L.va rfl (X.neq rfl rfl) ?_
  refine L.va rfl (X.pickF rfl (by conv => lhs; whnf)) ?_
  refine L.va rfl (X.move (by conv => lhs; whnf)) ?_
  -- case t25
  refine L.caseNdec (k := 25) rfl (fun g3 => ?_) (fun g3 => ?_)
  · refine L.no rfl ?_
    refine L.no rfl ?_
    refine L.no rfl ?_
    refine L.no rfl ?_
    refine L.no rfl ?_
    refine L.va rfl (X.pickT rfl (by conv => lhs; whnf)) ?_
    refine L.va rfl (X.move (by conv => lhs; whnf)) ?_
    refine L.no rfl ?_
    refine L.no rfl ?_
    refine L.no rfl ?_
    refine L.no rfl ?_
    refine L.no rfl ?_
    refine L.no rfl ?_
    refine L.no rfl ?_
    refine L.va rfl (X.pickT rfl (by conv => lhs; whnf)) ?_
    refine L.nil ?_
    -- cond
    refine J.iteT rfl ?_
    rw [eqm_no (by first | exact .inl g3 | exact .inr (.inl g3) | exact .inr (.inr (.inl g3)) | exact .inr (.inr (.inr (.inl g3))) | exact .inr (.inr (.inr (.inr (fun e => by rw [e] at g3; exact g3 rfl)))))]
    refine J.seq ?_
    refine J.region ?_
    refine L.va rfl (X.assign (by conv => lhs; whnf)) ?_
    refine L.nil ?_
    -- ret
    refine J.ret ?_
    refine thn_ret <| ?_
    refine fin1 ?_
    exact ⟨rfl, he02⟩
  refine L.va rfl (X.fieldAddr rfl Tryd.underlying30 rfl sz_3 (by decide)) ?_
  refine L.va rfl (X.load rfl sc_3 (by first | exact Ld.blk hk2 rfl | exact Ld.blk hk12 rfl)) ?_
  refine L.va rfl (X.fieldAddr rfl Tryd.underlying30 rfl sz_3 (by decide)) ?_
  refine L.va rfl (X.load rfl sc_3 (by first | exact Ld.blk hk2 rfl | exact Ld.blk hk12 rfl)) ?_
  refine L.va rfl (X.neq rfl rfl) ?_
  refine L.va rfl (X.pickF rfl (by conv => lhs; whnf)) ?_
  refine L.va rfl (X.move (by conv => lhs; whnf)) ?_
  -- case t32
  refine L.caseNdec (k := 32) rfl (fun g4 => ?_) (fun g4 => ?_)
  · refine L.no rfl ?_
    refine L.no rfl ?_
    refine L.no rfl ?_
    refine L.no rfl ?_
    refine L.no rfl ?_
    refine L.no rfl ?_
    refine L.no rfl ?_
    refine L.va rfl (X.pickT rfl (by conv => lhs; whnf)) ?_
    refine L.nil ?_
    -- cond
    refine J.iteT rfl ?_
    rw [eqm_no (by first | exact .inl g4 | exact .inr (.inl g4) | exact .inr (.inr (.inl g4)) | exact .inr (.inr (.inr (.inl g4))) | exact .inr (.inr (.inr (.inr (fun e => by rw [e] at g4; exact g4 rfl)))))]
    refine J.seq ?_
    refine J.region ?_
    refine L.va rfl (X.assign (by conv => lhs; whnf)) ?_
    refine L.nil ?_
    -- ret
    refine J.ret ?_
    refine thn_ret <| ?_
    refine fin1 ?_
    exact ⟨rfl, he02⟩
  refine L.va rfl (X.fieldAddr rfl Tryd.underlying30 rfl sz_28 (by decide)) ?_
  refine L.va rfl (X.load rfl sc_28 (by first | exact Ld.blk hk2 rfl | exact Ld.blk hk12 rfl)) ?_
  refine L.va rfl (X.len rfl Tryd.underlying28) ?_
  refine L.va rfl (X.fieldAddr rfl Tryd.underlying30 rfl sz_28 (by decide)) ?_
  refine L.va rfl (X.load rfl sc_28 (by first | exact Ld.blk hk2 rfl | exact Ld.blk hk12 rfl)) ?_
  refine L.va rfl (X.len rfl Tryd.underlying28) ?_
  refine L.va rfl (X.neq rfl rfl) ?_
  refine L.va rfl (X.pickF rfl (by conv => lhs; whnf)) ?_
  refine L.nil ?_
  -- cond
  refine J.ndec rfl (fun g5 => ?_) (fun g5 => ?_)
  · rw [eqm_no (by first | exact .inl g5 | exact .inr (.inl g5) | exact .inr (.inr (.inl g5)) | exact .inr (.inr (.inr (.inl g5))) | exact .inr (.inr (.inr (.inr (fun e => by rw [e] at g5; exact g5 rfl)))))]
    refine J.seq ?_
    refine J.region ?_
    refine L.va rfl (X.assign (by conv => lhs; whnf)) ?_
    refine L.nil ?_
    -- ret
    refine J.ret ?_
    refine thn_ret <| ?_
    refine fin1 ?_
    exact ⟨rfl, he02⟩
  have e : decide (eqm a b) = decide (a.r = b.r) := by
    by_cases hr : a.r = b.r
    · rw [decide_eq_true hr]; exact decide_eq_true ⟨g1, g2, g3, g4, hr⟩
    · rw [decide_eq_false hr]; exact eqm_no (.inr (.inr (.inr (.inr hr))))
  rw [e]
  refine J.skip ?_
  refine J.seq ?_
  refine J.seq ?_
  refine J.region ?_
  refine L.va rfl (X.assign (by conv => lhs; whnf)) ?_
  refine L.nil ?_
  refine J.block ?_
  -- loop
  refine J.loop (X := Nat) [4, 5, 41, 42, 43, 44, 45, 46, 47, 48, 49, 50, 51, 52, 53, 54, 55, 56, 57, 58] (fun i => [(5, .int .i64 (i : Int))]) (fun i w' => i ≤ a.r.length ∧ (∀ j, j < i → a.r.getD j r0 = b.r.getD j r0) ∧ Ext w2 w') (fun i => a.r.length - i) (0) (At1 (by first | rfl | exact at_int rfl (by omega) | exact at_slice rfl (by omega) | exact at_int rfl (by simp))) ?_ ?_
  · exact ⟨by omega, fun j hj => absurd hj (by omega), Ext.refl _⟩
  · rintro i g w3 ⟨hi, hP, he⟩
    have z := he.le
    have k1 := k1.low (Below.mono he (by omega)) (Nat.le_refl _)
    have k2 := k2.low (Below.mono he (by omega)) (Nat.le_refl _)
    have hk13 := hk12.ext he
    have hk23 := hk2.ext he
    refine J.seq ?_
    refine J.seq ?_
    refine J.region ?_
    refine L.va rfl (X.move (by conv => lhs; whnf)) ?_
    refine L.va rfl (X.fieldAddr rfl Tryd.underlying30 rfl sz_28 (by decide)) ?_
    refine L.va rfl (X.load rfl sc_28 (by first | exact Ld.blk hk13 rfl | exact Ld.blk hk23 rfl)) ?_
    refine L.va rfl (X.len rfl Tryd.underlying28) ?_
    refine L.va rfl (X.lss rfl rfl) ?_
    refine L.nil ?_
    -- cond
    refine J.dec rfl (fun hlt => ?_) (fun hlt => ?_)
    · have hi1 : i < a.r.length := by omega
      have hi2 : i < b.r.length := by omega
      have hA1 := k1.some_ (by omega)
      have hA2 := k2.some_ (by omega)
      have q1 := fun (w' : World) (hw : Ext w3 w') => k1.low (Below.mono hw (by omega)) (Nat.le_refl _)
      have q2 := fun (w' : World) (hw : Ext w3 w') => k2.low (Below.mono hw (by omega)) (Nat.le_refl _)
      refine J.skip ?_
      refine J.seq ?_
      refine J.block ?_
      refine J.seq ?_
      -- draw
      refine J.quiet mixed (by kernel_rfl) ?_
      -- t52
      -- t57
      -- t58
      refine Qt.va rfl (fun w' hw => X.fieldAddr rfl Tryd.underlying30 rfl sz_28 (by decide)) ?_
      refine Qt.va rfl (fun w' hw => X.load rfl sc_28 (by first | exact Ld.blk (hk13.ext hw) rfl | exact Ld.blk (hk23.ext hw) rfl | exact hA1 | exact hA2)) ?_
      refine Qt.va rfl (fun w' hw => X.move (by conv => lhs; whnf)) ?_
      refine Qt.va rfl (fun w' hw => (by first | exact X.indexAddrn rfl rfl Tryd.underlying28 sz_59 (by first | exact Option.some_ne_none _ | exact hA1 | exact hA2) (by omega) | exact X.indexAddr rfl rfl Tryd.underlying28 sz_59 (by first | exact Option.some_ne_none _ | exact hA1 | exact hA2) (by omega))) ?_
      refine Qt.va rfl (fun w' hw => X.loadRow (cs := rV (a.r.getD i r0)) rfl (q1 w' hw) (fun r u hu => flat_row rV_len (gt_ hi1) r u hu) (Nat.zero_lt_succ _) Tryd.underlying59 rfl (by kernel_rfl)) ?_
      refine Qt.va rfl (fun w' hw => X.fieldAddr rfl Tryd.underlying30 rfl sz_28 (by decide)) ?_
      refine Qt.va rfl (fun w' hw => X.load rfl sc_28 (by first | exact Ld.blk (hk13.ext hw) rfl | exact Ld.blk (hk23.ext hw) rfl | exact hA1 | exact hA2)) ?_
      refine Qt.va rfl (fun w' hw => X.move (by conv => lhs; whnf)) ?_
      refine Qt.va rfl (fun w' hw => (by first | exact X.indexAddrn rfl rfl Tryd.underlying28 sz_59 (by first | exact Option.some_ne_none _ | exact hA1 | exact hA2) (by omega) | exact X.indexAddr rfl rfl Tryd.underlying28 sz_59 (by first | exact Option.some_ne_none _ | exact hA1 | exact hA2) (by omega))) ?_
      refine Qt.va rfl (fun w' hw => X.loadRow (cs := rV (b.r.getD i r0)) rfl (q2 w' hw) (fun r u hu => flat_row rV_len (gt_ hi2) r u hu) (Nat.zero_lt_succ _) Tryd.underlying59 rfl (by kernel_rfl)) ?_
      refine Qt.va rfl (fun w' hw => X.neqTwo two_root rfl rfl sc_3 sc_3 (eq_int Tryd.underlying3) (eq_int Tryd.underlying3)) ?_
      refine Qt.nil (fun w4 hq => ?_)
      replace hk13 := hk13.ext hq
      replace hk23 := hk23.ext hq
      -- cond
      by_cases hd : a.r.getD i r0 = b.r.getD i r0
      · rw [rneF hd]
        refine J.iteF rfl ?_
        refine J.skip ?_
        refine J.region ?_
        refine L.va rfl (X.move (by conv => lhs; whnf)) ?_
        refine L.va rfl (X.add rfl rfl (by omega)) ?_
        refine L.va rfl (X.assign (by conv => lhs; whnf)) ?_
        refine L.nil ?_
        -- loopend
        refine ⟨i + 1, At1 (by first | rfl | exact at_int rfl (by omega) | exact at_slice rfl (by omega) | exact at_int rfl (by simp)), (by (iterate 19 refine Agr.lk rfl ?_); exact Agr.lk rfl (Agr.hav rfl Agr.rfl')), ?_⟩
        refine ⟨⟨by omega, fun j hj => ?_, he.trans hq⟩, by omega⟩
        rcases Nat.lt_or_ge j i with h | h
        · exact hP j h
        · obtain rfl : j = i := by omega
          exact hd
      · rw [show decide (a.r = b.r) = false from decide_eq_false (lst_ne r0 hd)]
        rw [rneT hd]
        refine J.iteT rfl ?_
        refine J.seq ?_
        refine J.region ?_
        refine L.va rfl (X.assign (by conv => lhs; whnf)) ?_
        refine L.nil ?_
        -- ret
        refine J.ret ?_
        refine inB_ret <|  thn_ret <|  thn_ret <|  inB_ret <|  thn_ret <| ?_
        refine fin1 ?_
        exact ⟨rfl, he02.trans (he.trans hq)⟩
    · rw [show decide (a.r = b.r) = true from decide_eq_true (lst_eq r0 (by omega) (fun j hj => hP j (by omega)))]
      refine J.exit ?_
      refine J.seq ?_
      refine J.region ?_
      refine L.va rfl (X.assign (by conv => lhs; whnf)) ?_
      refine L.nil ?_
      -- ret
      refine J.ret ?_
      refine fin1 ?_
      exact ⟨rfl, he02.trans he⟩
end Man
end Go.Proofs.YtlohbkcedpkjaaaDoor
