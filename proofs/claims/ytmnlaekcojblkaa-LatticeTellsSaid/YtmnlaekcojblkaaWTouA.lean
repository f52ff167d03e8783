/-
  Tourneys: the best places so far, a heap for container/heap.
-/
import Derived.Test.YtmnlaekcojblkaaWOrdG
import Derived.Test.YtmnlaekcojblkaaTouPlainB
import Derived.Test.YtmnlaekcojblkaaWHeapK
namespace Go.Proofs.Ytmnlaekcojblkaa
set_option maxRecDepth 100000
open Go.RowKit H
open Odr Tou HeapK
set_option linter.unusedVariables false
namespace Bys
def ks (s : Bys) : List (List Int) := s.l.map By.l
theorem ks_at (s : Bys) (i : Nat) : s.ks.getD i [] = (s.l.getD i by0).l := by
  unfold ks
  rw [List.getD, List.getD, List.getElem?_map]
  cases s.l[i]? <;> rfl
theorem ahead_eq (s : Bys) (a b : Nat) : s.ahead a b = ahL s.ks a b := by unfold Bys.ahead ahL; rw [ks_at, ks_at]
end Bys
theorem taheadI (s : Bys) (x y : Int) (w : World) (h : s.At w.heap.size w) (hx : 0 ≤ x ∧ x < (s.n : Int)) (hy : 0 ≤ y ∧ y < (s.n : Int)) : Calls Try.prog 88 #[s.val, .int .i64 x, .int .i64 y] w fun e w' => e = .returned (.bool (ahL s.ks x.toNat y.toNat)) ∧ Ext w w' := by
  obtain ⟨a, rfl⟩ := Int.eq_ofNat_of_zero_le hx.1
  obtain ⟨b, rfl⟩ := Int.eq_ofNat_of_zero_le hy.1
  have := tahead s a b w h (by omega) (by omega)
  rw [Bys.ahead_eq] at this
  exact this
/-- what a change of the heap touches -/
def Tch (d : Nat) (a : Option Addr × Nat) (g : Nat) : Prop := g = d ∨ Value.ownBlock (.slice a.1 0 a.2) = some g
theorem own_n (A : Option Addr) (n m c : Nat) : Value.ownBlock (.slice A n c) = Value.ownBlock (.slice A m c) := by cases A <;> rfl
theorem tch_own {d n : Nat} {a : Option Addr × Nat} {g : Nat} (h : Value.ownBlock (.slice a.1 n a.2) = some g) : Tch d a g := .inr ((own_n _ _ _ _).trans h)
/-- keys, and a heap of places -/
structure Bq (s : Bys) (N d : Nat) (a : Option Addr × Nat) (w : World) (l : List Int) : Prop where
  hb : Blk w d 112 #[s.val, .slice a.1 l.length a.2]
  hf : w.ownsRow N 3 1 (.slice a.1 l.length a.2) l.length (nums .i64 l)
  hs : s.At N w
  hd : N ≤ d
  el : ∀ x ∈ l, 0 ≤ x ∧ x < (s.n : Int)
  bn : s.n ≤ 900000
  bl : l.length ≤ s.n
namespace Bq
variable {s : Bys} {N d : Nat} {a : Option Addr × Nat} {w w' : World} {l : List Int}
theorem ext (h : Bq s N d a w l) (he : Ext w w') : Bq s N d a w' l := ⟨h.hb.ext he, h.hf.ext he, h.hs.ext he, h.hd, h.el, h.bn, h.bl⟩
theorem lo (h : Bq s N d a w l) : N ≤ w.heap.size := Nat.le_trans h.hd (Nat.le_of_lt h.hb.lt)
theorem at_ (h : Bq s N d a w l) {i : Nat} (hi : i < l.length) : 0 ≤ l.getD i 0 ∧ l.getD i 0 < (s.n : Int) := h.el _ (getD_mem hi)
theorem tch_ge (h : Bq s N d a w l) : ∀ g, Tch d a g → N ≤ g := by
  rintro g (rfl | hg)
  · exact h.hd
  · exact (h.hf.lt g ((own_n _ _ _ _).trans hg)).1
theorem chg {S : Nat → Prop} (h : Bq s N d a w l) (hC : Chg S w w') (h1 : ∀ g, Tch d a g → ¬ S g) (h2 : ∀ g, S g → N ≤ g) : Bq s N d a w' l :=
  ⟨hC.blk h.hb (h1 d (.inl rfl)), hC.own h.hf (fun g hg => h1 g (tch_own hg)), h.hs.below (hC.below h.lo h2), h.hd, h.el, h.bn, h.bl⟩
theorem len_ (h : Bq s N d a w l) : Calls Try.prog 86 #[.pointer (some ⟨d, 0, none⟩)] w fun e w' => e = .returned (.int .i64 (l.length : Int)) ∧ w = w' := by
  have hb := h.hb
  refine enter Try.func86 rfl (by kernel_rfl) ?_
  refine J.seq ?_
  refine J.region ?_
  refine L.va rfl (X.assign (by conv => lhs; whnf)) ?_
  refine L.nil ?_
  refine J.seq ?_
  refine J.region ?_
  refine L.va rfl (X.move (by conv => lhs; whnf)) ?_
  refine L.va rfl (X.nilCheck rfl) ?_
  refine L.va rfl (X.fieldAddr rfl Try.underlying112 rfl sz_29 (by decide)) ?_
  refine L.va rfl (X.load rfl sc_29 (by first | exact Ld.blk hb rfl)) ?_
  refine L.va rfl (X.len rfl Try.underlying29) ?_
  refine L.va rfl (X.assign (by conv => lhs; whnf)) ?_
  refine L.nil ?_
  -- ret
  refine J.ret ?_
  refine fin1 ?_
  exact ⟨rfl, rfl⟩
theorem less_ (h : Bq s N d a w l) {i k : Nat} (hi : i < l.length) (hk : k < l.length) : Calls Try.prog 256 #[.pointer (some ⟨d, 0, none⟩), .int .i64 (i : Int), .int .i64 (k : Int)] w fun e w' => e = .returned (.bool (ahL s.ks (l.getD k 0).toNat (l.getD i 0).toNat)) ∧ Ext w w' := by
  have hb := h.hb
  have hr := Reads.of_own h.hf
  have hA := hr.some_ (by omega)
  have c1 := fun (w' : World) (hw : Ext w w') => taheadI s (l.getD k 0) (l.getD i 0) w' ((h.hs.ext hw).more (Nat.le_trans h.lo hw.le)) (h.at_ hk) (h.at_ hi)
  refine enter Try.func256 rfl (by kernel_rfl) ?_
  refine J.seq ?_
  refine J.region ?_
  refine L.va rfl (X.assign (by conv => lhs; whnf)) ?_
  refine L.nil ?_
  refine J.seq ?_
  -- draw
  refine J.quiet mixed (by kernel_rfl) ?_
  refine Qt.va rfl (fun w' hw => X.move (by conv => lhs; whnf)) ?_
  refine Qt.va rfl (fun w' hw => X.nilCheck rfl) ?_
  refine Qt.va rfl (fun w' hw => X.fieldAddr rfl Try.underlying112 rfl sz_38 (by decide)) ?_
  refine Qt.va rfl (fun w' hw => X.load rfl sc_38 (by first | exact Ld.blk (hb.ext hw) rfl | exact Ld.num (hr.ext hw) (by omega) | exact hA)) ?_
  refine Qt.va rfl (fun w' hw => X.move (by conv => lhs; whnf)) ?_
  refine Qt.va rfl (fun w' hw => X.nilCheck rfl) ?_
  refine Qt.va rfl (fun w' hw => X.fieldAddr rfl Try.underlying112 rfl sz_29 (by decide)) ?_
  refine Qt.va rfl (fun w' hw => X.load rfl sc_29 (by first | exact Ld.blk (hb.ext hw) rfl | exact Ld.num (hr.ext hw) (by omega) | exact hA)) ?_
  refine Qt.va rfl (fun w' hw => X.move (by conv => lhs; whnf)) ?_
  refine Qt.va rfl (fun w' hw => (by first | exact X.index1n rfl rfl Try.underlying29 sz_3 (by first | exact Option.some_ne_none _ | exact hr.some_ (by omega) | exact hA) (by omega) | exact X.index1 rfl rfl Try.underlying29 sz_3 (by first | exact Option.some_ne_none _ | exact hr.some_ (by omega) | exact hA) (by omega))) ?_
  refine Qt.va rfl (fun w' hw => X.load rfl sc_3 (by first | exact Ld.blk (hb.ext hw) rfl | exact Ld.num (hr.ext hw) (by omega) | exact hA)) ?_
  refine Qt.va rfl (fun w' hw => X.move (by conv => lhs; whnf)) ?_
  refine Qt.va rfl (fun w' hw => X.nilCheck rfl) ?_
  refine Qt.va rfl (fun w' hw => X.fieldAddr rfl Try.underlying112 rfl sz_29 (by decide)) ?_
  refine Qt.va rfl (fun w' hw => X.load rfl sc_29 (by first | exact Ld.blk (hb.ext hw) rfl | exact Ld.num (hr.ext hw) (by omega) | exact hA)) ?_
  refine Qt.va rfl (fun w' hw => X.move (by conv => lhs; whnf)) ?_
  refine Qt.va rfl (fun w' hw => (by first | exact X.index1n rfl rfl Try.underlying29 sz_3 (by first | exact Option.some_ne_none _ | exact hr.some_ (by omega) | exact hA) (by omega) | exact X.index1 rfl rfl Try.underlying29 sz_3 (by first | exact Option.some_ne_none _ | exact hr.some_ (by omega) | exact hA) (by omega))) ?_
  refine Qt.va rfl (fun w' hw => X.load rfl sc_3 (by first | exact Ld.blk (hb.ext hw) rfl | exact Ld.num (hr.ext hw) (by omega) | exact hA)) ?_
  -- callfn bushel/tourney.ahead
  refine Qt.call rfl en_88 rfl (fun w' hw => calls_ext hw (c1 w' hw)) ?_
  refine Qt.va rfl (fun w' hw => X.assign (by conv => lhs; whnf)) ?_
  refine Qt.nil (fun w1 hq => ?_)
  replace hb := hb.ext hq
  replace hr := hr.ext hq
  -- ret
  refine J.ret ?_
  refine fin1 ?_
  exact ⟨rfl, hq⟩
theorem swap_ (h : Bq s N d a w l) {i k : Nat} (hi : i < l.length) (hk : k < l.length) : Calls Try.prog 259 #[.pointer (some ⟨d, 0, none⟩), .int .i64 (i : Int), .int .i64 (k : Int)] w fun e w' => e = .returned (.tuple #[]) ∧ Bq s N d a w' (swp l i k) ∧ Chg (Tch d a) w w' := by
  have hb := h.hb
  have hr := Reads.of_own h.hf
  have hA := hr.some_ (by omega)
  refine enter Try.func259 rfl (by kernel_rfl) ?_
  -- draw
  refine J.draw (ℓ := 1000000) (S := (fun w' => Blk w' d 112 #[s.val, .slice a.1 l.length a.2])) mixed (fun w1 hSE hS_h => ?_)
  have hS : ((fun w' => Blk w' d 112 #[s.val, .slice a.1 l.length a.2])) w1 := hb.ext hSE
  have hr1 := hr.ext hSE
  have hoX := h.hf.ext hSE
  have hG : w.grownBy w1 (Value.ownBlock (.slice a.1 l.length a.2)) := grown_ext hSE
  refine D.va 0 rfl (by kernel_rfl) (fun _ _ _ h => h) rfl (fun w' hw => X.move (by conv => lhs; whnf)) hS ?_
  refine D.va 1 rfl (by kernel_rfl) (fun _ _ _ h => h) rfl (fun w' hw => X.nilCheck rfl) hS ?_
  refine D.va 2 rfl (by kernel_rfl) (fun _ _ _ h => h) rfl (fun w' hw => X.fieldAddr rfl Try.underlying112 rfl sz_29 (by decide)) hS ?_
  refine D.va 3 rfl (by kernel_rfl) (fun _ _ _ h => h) rfl (fun w' hw => X.load rfl sc_29 (by first | exact hA | exact Ld.blk hw rfl)) hS ?_
  refine D.va 4 rfl (by kernel_rfl) (fun _ _ _ h => h) rfl (fun w' hw => X.move (by conv => lhs; whnf)) hS ?_
  refine D.va 5 rfl (by kernel_rfl) (fun _ _ _ h => h) rfl (fun w' hw => X.move (by conv => lhs; whnf)) hS ?_
  refine D.va 6 rfl (by kernel_rfl) (fun _ _ _ h => h) rfl (fun w' hw => X.nilCheck rfl) hS ?_
  refine D.va 7 rfl (by kernel_rfl) (fun _ _ _ h => h) rfl (fun w' hw => X.fieldAddr rfl Try.underlying112 rfl sz_29 (by decide)) hS ?_
  refine D.va 8 rfl (by kernel_rfl) (fun _ _ _ h => h) rfl (fun w' hw => X.load rfl sc_29 (by first | exact hA | exact Ld.blk hw rfl)) hS ?_
  refine D.va 9 rfl (by kernel_rfl) (fun _ _ _ h => h) rfl (fun w' hw => X.move (by conv => lhs; whnf)) hS ?_
  refine D.va 10 rfl (by kernel_rfl) (fun _ _ _ h => h) rfl (fun w' hw => X.move (by conv => lhs; whnf)) hS ?_
  refine D.va 11 rfl (by kernel_rfl) (fun _ _ _ h => h) rfl (fun w' hw => X.nilCheck rfl) hS ?_
  refine D.va 12 rfl (by kernel_rfl) (fun _ _ _ h => h) rfl (fun w' hw => X.fieldAddr rfl Try.underlying112 rfl sz_29 (by decide)) hS ?_
  refine D.va 13 rfl (by kernel_rfl) (fun _ _ _ h => h) rfl (fun w' hw => X.load rfl sc_29 (by first | exact hA | exact Ld.blk hw rfl)) hS ?_
  refine D.va 14 rfl (by kernel_rfl) (fun _ _ _ h => h) rfl (fun w' hw => X.move (by conv => lhs; whnf)) hS ?_
  refine D.va 15 rfl (by kernel_rfl) (fun _ _ _ h => h) rfl (fun w' hw => (by first | exact X.index1n rfl rfl Try.underlying29 sz_3 (by first | exact Option.some_ne_none _ | exact hA) (by omega) | exact X.index1 rfl rfl Try.underlying29 sz_3 (by first | exact Option.some_ne_none _ | exact hA) (by omega))) hS ?_
  refine D.va 17 rfl (by kernel_rfl) (fun _ _ _ h => h) rfl (fun w' hw => X.move (by conv => lhs; whnf)) hS ?_
  refine D.va 18 rfl (by kernel_rfl) (fun _ _ _ h => h) rfl (fun w' hw => X.nilCheck rfl) hS ?_
  refine D.va 19 rfl (by kernel_rfl) (fun _ _ _ h => h) rfl (fun w' hw => X.fieldAddr rfl Try.underlying112 rfl sz_29 (by decide)) hS ?_
  refine D.va 20 rfl (by kernel_rfl) (fun _ _ _ h => h) rfl (fun w' hw => X.load rfl sc_29 (by first | exact hA | exact Ld.blk hw rfl)) hS ?_
  refine D.va 21 rfl (by kernel_rfl) (fun _ _ _ h => h) rfl (fun w' hw => X.move (by conv => lhs; whnf)) hS ?_
  refine D.va 22 rfl (by kernel_rfl) (fun _ _ _ h => h) rfl (fun w' hw => (by first | exact X.index1n rfl rfl Try.underlying29 sz_3 (by first | exact Option.some_ne_none _ | exact hA) (by omega) | exact X.index1 rfl rfl Try.underlying29 sz_3 (by first | exact Option.some_ne_none _ | exact hA) (by omega))) hS ?_
  refine D.two 16 23 (by kernel_rfl) rfl rfl ?_ ?_
  · refine L.va rfl (X.load rfl sc_3 (Ld.num hr1 hk)) ?_
    refine L.nil ?_
    refine ⟨fun _ => hS, ?_⟩
    refine D.one 23 (by kernel_rfl) rfl ?_
    refine L.va rfl (X.load rfl sc_3 (Ld.num hr1 hi)) ?_
    refine L.nil ?_
    refine ⟨fun _ => hS, ?_⟩
    refine D.va 24 rfl (by kernel_rfl) (fun _ _ _ h => h) rfl (fun w' hw => (by first | exact X.index1n rfl rfl Try.underlying29 sz_3 (by first | exact Option.some_ne_none _ | exact hA) (by omega) | exact X.index1 rfl rfl Try.underlying29 sz_3 (by first | exact Option.some_ne_none _ | exact hA) (by omega))) hS ?_
    refine D.one 25 (by kernel_rfl) rfl ?_
    refine L.storeON rfl rfl (by conv => lhs; whnf) sz_3 (hoX) (by omega) ?_
    intro w2 hoY hg2 hb2 hs2
    have hS1 := hS.grown hg2 (fun e ↦ own_blk_ne hoX hS (by decide) e.symm)
    refine L.nil ?_
    refine ⟨fun _ => hS1, ?_⟩
    replace hG := grb_trans hG hg2
    replace hoX := hoY
    refine D.va 26 rfl (by kernel_rfl) (fun _ _ _ h => h) rfl (fun w' hw => (by first | exact X.index1n rfl rfl Try.underlying29 sz_3 (by first | exact Option.some_ne_none _ | exact hA) (by omega) | exact X.index1 rfl rfl Try.underlying29 sz_3 (by first | exact Option.some_ne_none _ | exact hA) (by omega))) hS1 ?_
    refine D.one 27 (by kernel_rfl) rfl ?_
    refine L.storeON rfl rfl (by conv => lhs; whnf) sz_3 (hoX) (by omega) ?_
    intro w2 hoY hg2 hb2 hs2
    have hS2 := hS1.grown hg2 (fun e ↦ own_blk_ne hoX hS1 (by decide) e.symm)
    refine L.nil ?_
    refine ⟨fun _ => hS2, ?_⟩
    replace hG := grb_trans hG hg2
    replace hoX := hoY
    refine D.done (by kernel_rfl) ?_
    refine fin0 (.inr rfl) ?_
    have hC : Chg (Tch d a) w _ := .of_grown hG (fun g hg => tch_own hg)
    have hz := h.hs
    have hln : (swp l i k).length = l.length := swp_length _ _ _
    have hw : (l.set i (l.getD k 0)).set k (l.getD i 0) = swp l i k := rfl
    refine ⟨rfl, ⟨by rw [hln]; exact hS2, by rw [hln]; exact hoX, h.hs.below (hC.below h.lo h.tch_ge), h.hd, fun x hx ↦ h.el x ((swp_perm l hi hk).mem_iff.1 hx), h.bn, by rw [hln]; exact h.bl⟩, hC⟩
  · refine L.va rfl (X.load rfl sc_3 (Ld.num hr1 hi)) ?_
    refine L.nil ?_
    refine ⟨fun _ => hS, ?_⟩
    refine D.one 16 (by kernel_rfl) rfl ?_
    refine L.va rfl (X.load rfl sc_3 (Ld.num hr1 hk)) ?_
    refine L.nil ?_
    refine ⟨fun _ => hS, ?_⟩
    refine D.va 24 rfl (by kernel_rfl) (fun _ _ _ h => h) rfl (fun w' hw => (by first | exact X.index1n rfl rfl Try.underlying29 sz_3 (by first | exact Option.some_ne_none _ | exact hA) (by omega) | exact X.index1 rfl rfl Try.underlying29 sz_3 (by first | exact Option.some_ne_none _ | exact hA) (by omega))) hS ?_
    refine D.one 25 (by kernel_rfl) rfl ?_
    refine L.storeON rfl rfl (by conv => lhs; whnf) sz_3 (hoX) (by omega) ?_
    intro w2 hoY hg2 hb2 hs2
    have hS1 := hS.grown hg2 (fun e ↦ own_blk_ne hoX hS (by decide) e.symm)
    refine L.nil ?_
    refine ⟨fun _ => hS1, ?_⟩
    replace hG := grb_trans hG hg2
    replace hoX := hoY
    refine D.va 26 rfl (by kernel_rfl) (fun _ _ _ h => h) rfl (fun w' hw => (by first | exact X.index1n rfl rfl Try.underlying29 sz_3 (by first | exact Option.some_ne_none _ | exact hA) (by omega) | exact X.index1 rfl rfl Try.underlying29 sz_3 (by first | exact Option.some_ne_none _ | exact hA) (by omega))) hS1 ?_
    refine D.one 27 (by kernel_rfl) rfl ?_
    refine L.storeON rfl rfl (by conv => lhs; whnf) sz_3 (hoX) (by omega) ?_
    intro w2 hoY hg2 hb2 hs2
    have hS2 := hS1.grown hg2 (fun e ↦ own_blk_ne hoX hS1 (by decide) e.symm)
    refine L.nil ?_
    refine ⟨fun _ => hS2, ?_⟩
    replace hG := grb_trans hG hg2
    replace hoX := hoY
    refine D.done (by kernel_rfl) ?_
    refine fin0 (.inr rfl) ?_
    have hC : Chg (Tch d a) w _ := .of_grown hG (fun g hg => tch_own hg)
    have hz := h.hs
    have hln : (swp l i k).length = l.length := swp_length _ _ _
    have hw : (l.set i (l.getD k 0)).set k (l.getD i 0) = swp l i k := rfl
    refine ⟨rfl, ⟨by rw [hln]; exact hS2, by rw [hln]; exact hoX, h.hs.below (hC.below h.lo h.tch_ge), h.hd, fun x hx ↦ h.el x ((swp_perm l hi hk).mem_iff.1 hx), h.bn, by rw [hln]; exact h.bl⟩, hC⟩
theorem push_ (h : Bq s N d a w l) (hlt : l.length < s.n) {x : Int} (hx : 0 ≤ x ∧ x < (s.n : Int)) : Calls Try.prog 258 #[.pointer (some ⟨d, 0, none⟩), .iface 3 (.int .i64 x)] w fun e w' =>
    e = .returned (.tuple #[]) ∧ ∃ a', Bq s N d a' w' (l ++ [x]) ∧ Chg (Tch d a) w w' ∧ ∀ g, g < w.heap.size → Tch d a' g → Tch d a g := by
  have hb := h.hb
  have hbn := h.bn
  have hlo := h.lo
  refine enter Try.func258 rfl (by kernel_rfl) ?_
  -- draw
  refine J.draw (ℓ := 11) (S := (fun w' => Blk w' d 112 #[s.val, .slice a.1 l.length a.2])) mixed (fun w1 hSE hS_h => ?_)
  have hS : ((fun w' => Blk w' d 112 #[s.val, .slice a.1 l.length a.2])) w1 := hb.ext hSE
  -- t8
  refine D.va 0 rfl (by kernel_rfl) (fun _ _ _ h => h) rfl (fun w' hw => X.move (by conv => lhs; whnf)) hS ?_
  refine D.va 1 rfl (by kernel_rfl) (fun _ _ _ h => h) rfl (fun w' hw => X.move (by conv => lhs; whnf)) hS ?_
  refine D.va 2 rfl (by kernel_rfl) (fun _ _ _ h => h) rfl (fun w' hw => X.nilCheck rfl) hS ?_
  refine D.va 3 rfl (by kernel_rfl) (fun _ _ _ h => h) rfl (fun w' hw => X.fieldAddr rfl Try.underlying112 rfl sz_29 (by decide)) hS ?_
  refine D.va 4 rfl (by kernel_rfl) (fun _ _ _ h => h) rfl (fun w' hw => X.load rfl sc_29 (Ld.blk hw rfl)) hS ?_
  refine D.va 5 rfl (by kernel_rfl) (fun _ _ _ h => h) rfl (fun w' hw => X.move (by conv => lhs; whnf)) hS ?_
  refine D.va 6 rfl (by kernel_rfl) (fun _ _ _ h => h) rfl (fun w' hw => X.assert rfl Try.underlying3 rfl) hS ?_
  -- buildSlice
  refine D.one 7 (by kernel_rfl) rfl ?_
  refine L.bslice (vs := [_]) rfl (Evs.cons (by conv => lhs; whnf) Evs.nil) rfl rfl rfl rfl Try.underlying29 sz_3 zr_3 (by decide) ?_
  intro b2 w2 hb2 hs2 hk2 he2
  have hS1 := hS.ext he2
  refine L.nil ?_
  refine ⟨fun _ => hS1, ?_⟩
  have hf2 := (h.hf.ext hSE).ext he2
  have z2 := (hSE.trans he2).le
  -- append
  refine D.one 8 (by kernel_rfl) rfl ?_
  refine L.appendQ (q := l.length + 1) (ys := l ++ [x]) rfl rfl rfl Try.underlying29 el_3 (hf2) (blk_readsN (sz := 1) (q := 1) (l := nums .i64 [x]) hk2 hk2.lt rfl) (by omega) (by simp) (by unfold maxLen; omega) (by omega) ?_
  intro A3 c3 w3 ho3 hg3 hb3 hor3
  have hS2 := hS1.grown hg3 (fun e ↦ own_blk_ne hf2 hS1 (by decide) e.symm)
  refine L.nil ?_
  refine ⟨fun _ => hS2, ?_⟩
  refine D.va 9 rfl (by kernel_rfl) (fun _ _ _ h => h) rfl (fun w' hw => X.nilCheck rfl) hS2 ?_
  refine D.va 10 rfl (by kernel_rfl) (fun _ _ _ h => h) rfl (fun w' hw => X.fieldAddr rfl Try.underlying112 rfl sz_29 (by decide)) hS2 ?_
  -- store
  refine D.one 11 (by kernel_rfl) rfl ?_
  refine L.store rfl rfl (by conv => lhs; whnf) rfl sz_29 (hS2) (by first | decide | exact Nat.le_of_ble_eq_true rfl) ?_
  intro w4 hk4 hg4 hs4
  refine L.nil ?_
  refine ⟨fun h => absurd rfl h, ?_⟩
  refine D.done (by kernel_rfl) ?_
  -- end
  refine fin0 (.inr rfl) ?_
  have hl : (l ++ [x]).length = l.length + 1 := by simp
  have k1 : Chg (Tch d a) w w2 := .of_ext (hSE.trans he2)
  have k2 : Chg (Tch d a) w2 w3 := .of_grown hg3 (fun g hg => tch_own hg)
  have k3 : Chg (Tch d a) w3 w4 := .of_grown hg4 (fun g hg => .inl (by injection hg with hg; exact hg.symm))
  have hC := (k1.trans k2 (fun _ _ hh => hh)).trans k3 (fun _ _ hh => hh)
  refine ⟨rfl, (A3, c3), ⟨by rw [hl]; exact hk4, by rw [hl]; exact ho3.kept hg4 (.inr (own_blk_ne ho3 hS2 (by decide))), h.hs.below (hC.below hlo h.tch_ge), h.hd, ?_, hbn, by rw [hl]; exact hlt⟩, hC, ?_⟩
  · intro y hy
    rcases List.mem_append.1 hy with hy | hy
    · exact h.el y hy
    · rw [List.mem_singleton] at hy
      rw [hy]; exact hx
  · intro g hgw hg
    rcases hg with hg | hg
    · exact .inl hg
    · replace hg := (own_n A3 (l.length + 1) 0 c3).trans hg
      rcases hor3 with e | e
      · rw [e] at hg; exact tch_own hg
      · rw [e] at hg
        injection hg with hg
        omega
theorem pop_ (h : Bq s N d a w l) (hpos : 0 < l.length) : Calls Try.prog 257 #[.pointer (some ⟨d, 0, none⟩)] w fun e w' =>
    e = .returned (.iface 3 (.int .i64 (l.getD (l.length - 1) 0))) ∧ Bq s N d a w' (l.take (l.length - 1)) ∧ Chg (Tch d a) w w' := by
  have hb := h.hb
  have hr := Reads.of_own h.hf
  have hc := own_le' h.hf
  have hbn := h.bn
  have hbl := h.bl
  refine enter Try.func257 rfl (by kernel_rfl) ?_
  -- t17
  -- t16
  -- t24
  refine J.seq ?_
  refine J.region ?_
  refine L.va rfl (X.assign (by conv => lhs; whnf)) ?_
  refine L.nil ?_
  refine J.seq ?_
  refine J.region ?_
  refine L.va rfl (X.move (by conv => lhs; whnf)) ?_
  refine L.va rfl (X.nilCheck rfl) ?_
  refine L.va rfl (X.fieldAddr rfl Try.underlying112 rfl sz_29 (by decide)) ?_
  refine L.va rfl (X.load rfl sc_29 (by first | exact Ld.num hr (by omega) | exact Ld.blk hb rfl)) ?_
  refine L.va rfl (X.len rfl Try.underlying29) ?_
  refine L.va rfl (X.sub rfl rfl (by omega)) ?_
  refine L.va rfl (X.assign (by conv => lhs; whnf)) ?_
  refine L.nil ?_
  refine J.seq ?_
  refine J.region ?_
  refine L.va rfl (X.move (by conv => lhs; whnf)) ?_
  refine L.va rfl (X.nilCheck rfl) ?_
  refine L.va rfl (X.fieldAddr rfl Try.underlying112 rfl sz_29 (by decide)) ?_
  refine L.va rfl (X.load rfl sc_29 (by first | exact Ld.num hr (by omega) | exact Ld.blk hb rfl)) ?_
  refine L.va rfl (X.move (by conv => lhs; whnf)) ?_
  refine L.va rfl (X.index1n (j := l.length - 1) rfl (show Value.int .i64 ((l.length : Int) - 1) = _ from by rw [show ((l.length : Int) - 1) = ((l.length - 1 : Nat) : Int) by omega]) Try.underlying29 sz_3 (hr.some_ (by omega)) (by omega)) ?_
  refine L.va rfl (X.load rfl sc_3 (Ld.num hr (j := l.length - 1) (by omega))) ?_
  refine L.va rfl (X.assign (by conv => lhs; whnf)) ?_
  refine L.nil ?_
  refine J.seq ?_
  refine J.region ?_
  refine L.va rfl (X.move (by conv => lhs; whnf)) ?_
  refine L.va rfl (X.move (by conv => lhs; whnf)) ?_
  refine L.va rfl (X.nilCheck rfl) ?_
  refine L.va rfl (X.fieldAddr rfl Try.underlying112 rfl sz_29 (by decide)) ?_
  refine L.va rfl (X.load rfl sc_29 (by first | exact Ld.num hr (by omega) | exact Ld.blk hb rfl)) ?_
  refine L.va rfl (X.move (by conv => lhs; whnf)) ?_
  refine L.va rfl (X.sliceTon (j := l.length - 1) rfl (show Value.int .i64 ((l.length : Int) - 1) = _ from by rw [show ((l.length : Int) - 1) = ((l.length - 1 : Nat) : Int) by omega]) Try.underlying29 sz_3 (by omega)) ?_
  refine L.va rfl (X.nilCheck rfl) ?_
  refine L.va rfl (X.fieldAddr rfl Try.underlying112 rfl sz_29 (by decide)) ?_
  -- store
  refine L.store rfl rfl (by conv => lhs; whnf) rfl sz_29 (hb) (by first | decide | exact Nat.le_of_ble_eq_true rfl) ?_
  intro w1 hk1 hg1 hs1
  refine L.nil ?_
  refine J.seq ?_
  refine J.region ?_
  refine L.va rfl (X.move (by conv => lhs; whnf)) ?_
  refine L.va rfl (X.mkI rfl Try.underlying3 rfl) ?_
  refine L.va rfl (X.assign (by conv => lhs; whnf)) ?_
  refine L.nil ?_
  -- ret
  refine J.ret ?_
  refine fin1 ?_
  have hl : (l.take (l.length - 1)).length = l.length - 1 := by simp
  have hC : Chg (Tch d a) w w1 := .of_grown hg1 (fun g hg => .inl (by injection hg with hg; exact hg.symm))
  refine ⟨rfl, ⟨by rw [hl]; exact hk1, ?_, h.hs.below (hC.below h.lo h.tch_ge), h.hd, fun x hx => h.el x (List.mem_of_mem_take hx), hbn, by omega⟩, hC⟩
  rw [hl]
  exact (own_cutN h.hf (by omega)).kept hg1 (.inr (own_blk_ne (own_cutN h.hf (show l.length - 1 ≤ l.length by omega)) hb (by decide)))
theorem kit (s : Bys) (N d : Nat) (a : Option Addr × Nat) : HeapM 110 (.pointer (some ⟨d, 0, none⟩)) (kap (ahL s.ks) s.n) (Tch d a) (Bq s N d a) where
  ext := fun h he => h.ext he
  big := fun h => Nat.le_trans h.bl h.bn
  len := fun h => ⟨_, _, mtd_ptr (by unfold Has; kernel_rfl) Try.underlying110 en_86, h.len_⟩
  less := fun {w l i k} h hi hk => ⟨_, _, mtd_ptr (by unfold Has; kernel_rfl) Try.underlying110 en_256, by
    have e : decide (kap (ahL s.ks) s.n (l.getD i 0) < kap (ahL s.ks) s.n (l.getD k 0)) = ahL s.ks (l.getD k 0).toNat (l.getD i 0).toNat := by
      have h1 := h.at_ hi
      have h2 := h.at_ hk
      have := (ahL_ord s.ks).lt_iff (n := s.n) (a := (l.getD k 0).toNat) (b := (l.getD i 0).toNat) (by omega) (by omega)
      rw [← kap_lt] at this
      cases q : ahL s.ks (l.getD k 0).toNat (l.getD i 0).toNat with
      | true => rw [q] at this; exact decide_eq_true (this.2 rfl)
      | false => rw [q] at this; exact decide_eq_false (fun hh => by cases this.1 hh)
    rw [e]
    exact h.less_ hi hk⟩
  swap := fun h hi hk => ⟨_, _, mtd_ptr (by unfold Has; kernel_rfl) Try.underlying110 en_259, h.swap_ hi hk⟩
  pop := fun h hpos => ⟨_, _, mtd_ptr (by unfold Has; kernel_rfl) Try.underlying110 en_257, h.pop_ hpos⟩
theorem hpush (h : Bq s N d a w l) (hlt : l.length < s.n) {x : Int} (hx : 0 ≤ x ∧ x < (s.n : Int)) : Calls Try.prog 87 #[.iface 110 (.pointer (some ⟨d, 0, none⟩)), .iface 3 (.int .i64 x)] w fun e w' =>
    e = .returned (.tuple #[]) ∧ ∃ a', Bq s N d a' w' (siftUk (kap (ahL s.ks) s.n) (l.length + 1) (l ++ [x]) l.length) ∧ Chg (Tch d a) w w' ∧ ∀ g, g < w.heap.size → Tch d a' g → Tch d a g :=
  HeapM.push_ (kit s N d) h ⟨_, _, mtd_ptr (by unfold Has; kernel_rfl) Try.underlying110 en_258, h.push_ hlt hx⟩
end Bq
end Go.Proofs.Ytmnlaekcojblkaa
