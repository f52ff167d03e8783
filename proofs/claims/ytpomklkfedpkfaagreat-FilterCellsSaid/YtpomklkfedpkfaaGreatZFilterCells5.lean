import Derived.Lib.SliceRun
import Derived.Test.YtpomklkfedpkfaaGreatZFilterCells4
/-
  What the law leans on, part 5: SrtIE, SrtID, SrtIF, WNrmA, WNrmB, WNrmC, WFilA.
-/
namespace Go.Proofs.YtpomklkfedpkfaaGreat
set_option maxRecDepth 100000
open Go.RowKit H
open Srt
set_option linter.unusedVariables false
theorem parteqI (A : Option Addr) (n c N a b p : Nat) (l : List Int) (w : World) (ho : w.ownsRow N 3 1 (.slice A n c) n (nums .i64 l)) (hb : b ≤ n) (hn : n ≤ 900000) (hp : a ≤ p ∧ p < b) :
  Calls Tryz.prog 94 #[.slice A n c, .int .i64 (a : Int), .int .i64 (b : Int), .int .i64 (p : Int)] w fun e w' => ∃ (l' : List Int) (q : Nat), e = .returned (.int .i64 (q : Int)) ∧ SwI w w' A n c N a b l l' ∧ a < q ∧ q ≤ b ∧ (∀ k, a ≤ k → k < q → l'.getD k 0 ≤ l.getD p 0) ∧ ∀ k, q ≤ k → k < b → l.getD p 0 < l'.getD k 0 := by
 have hl : l.length = n := by have := ho.1; simpa [nums] using this
 have hA := (Reads.of_own ho).some_ (by omega)
 have e0 : (b : Int) - 1 = ((b - 1 : Nat) : Int) := by omega
 refine enter Tryz.func94 rfl (by kernel_rfl) ?_
 refine J.seq ?_
 refine J.region ?_
 refine L.va rfl (X.assign (by conv => lhs; whnf)) ?_
 refine L.nil ?_
 refine J.seq ?_
 refine J.draw (ℓ := 1000000) (S := (fun _ => True)) mixed (fun w2d hSE hS_h => ?_)
 have hS : ((fun _ => True)) w2d := trivial
 have hrw2 := (Reads.of_own ho).ext hSE
 have hoX := ho.ext hSE
 have hG : w.grownBy w2d (Value.ownBlock (.slice A n c)) := grown_ext hSE
 refine D.va 0 rfl (by kernel_rfl) (fun _ _ _ h => h) rfl (fun w' hw => X.move (by conv => lhs; whnf)) hS ?_
 refine D.va 1 rfl (by kernel_rfl) (fun _ _ _ h => h) rfl (fun w' hw => X.move (by conv => lhs; whnf)) hS ?_
 refine D.va 2 rfl (by kernel_rfl) (fun _ _ _ h => h) rfl (fun w' hw => X.move (by conv => lhs; whnf)) hS ?_
 refine D.va 3 rfl (by kernel_rfl) (fun _ _ _ h => h) rfl (fun w' hw => X.move (by conv => lhs; whnf)) hS ?_
 refine D.va 4 rfl (by kernel_rfl) (fun _ _ _ h => h) rfl (fun w' hw => X.move (by conv => lhs; whnf)) hS ?_
 refine D.va 5 rfl (by kernel_rfl) (fun _ _ _ h => h) rfl (fun w' hw => X.move (by conv => lhs; whnf)) hS ?_
 refine D.va 6 rfl (by kernel_rfl) (fun _ _ _ h => h) rfl (fun w' hw => (by first | exact X.index1n rfl rfl Tryz.underlying44 sz_3 (by first | exact Option.some_ne_none _ | exact hA) (by omega) | exact X.index1 rfl rfl Tryz.underlying44 sz_3 (by first | exact Option.some_ne_none _ | exact hA) (by omega))) hS ?_
 refine D.va 8 rfl (by kernel_rfl) (fun _ _ _ h => h) rfl (fun w' hw => X.move (by conv => lhs; whnf)) hS ?_
 refine D.va 9 rfl (by kernel_rfl) (fun _ _ _ h => h) rfl (fun w' hw => X.move (by conv => lhs; whnf)) hS ?_
 refine D.va 10 rfl (by kernel_rfl) (fun _ _ _ h => h) rfl (fun w' hw => (by first | exact X.index1n rfl rfl Tryz.underlying44 sz_3 (by first | exact Option.some_ne_none _ | exact hA) (by omega) | exact X.index1 rfl rfl Tryz.underlying44 sz_3 (by first | exact Option.some_ne_none _ | exact hA) (by omega))) hS ?_
 refine D.two 7 11 (by kernel_rfl) rfl rfl ?_ ?_
 ·refine L.va rfl (X.load rfl sc_3 (Ld.num hrw2 (j := p) (by omega))) ?_
  refine L.nil ?_
  refine ⟨fun _ => hS, ?_⟩
  refine D.one 11 (by kernel_rfl) rfl ?_
  refine L.va rfl (X.load rfl sc_3 (Ld.num hrw2 (j := a) (by omega))) ?_
  refine L.nil ?_
  refine ⟨fun _ => hS, ?_⟩
  refine D.va 12 rfl (by kernel_rfl) (fun _ _ _ h => h) rfl (fun w' hw => (by first | exact X.index1n rfl rfl Tryz.underlying44 sz_3 (by first | exact Option.some_ne_none _ | exact hA) (by omega) | exact X.index1 rfl rfl Tryz.underlying44 sz_3 (by first | exact Option.some_ne_none _ | exact hA) (by omega))) hS ?_
  refine D.one 13 (by kernel_rfl) rfl ?_
  refine L.storeON rfl rfl (by conv => lhs; whnf) sz_3 (hoX) (by omega) ?_
  intro w2 hoX hg2 hb2 hs2
  have hS1 := trivial
  refine L.nil ?_
  refine ⟨fun _ => hS1, ?_⟩
  replace hG := grb_trans hG hg2
  refine D.va 14 rfl (by kernel_rfl) (fun _ _ _ h => h) rfl (fun w' hw => (by first | exact X.index1n rfl rfl Tryz.underlying44 sz_3 (by first | exact Option.some_ne_none _ | exact hA) (by omega) | exact X.index1 rfl rfl Tryz.underlying44 sz_3 (by first | exact Option.some_ne_none _ | exact hA) (by omega))) hS1 ?_
  refine D.one 15 (by kernel_rfl) rfl ?_
  refine L.storeON rfl rfl (by conv => lhs; whnf) sz_3 (hoX) (by omega) ?_
  intro w2 hoX hg2 hb2 hs2
  have hS2 := trivial
  refine L.nil ?_
  refine ⟨fun _ => hS2, ?_⟩
  replace hG := grb_trans hG hg2
  refine D.done (by kernel_rfl) ?_
  refine J.seq ?_
  refine J.region ?_
  refine L.va rfl (X.move (by conv => lhs; whnf)) ?_
  refine L.va rfl (X.add rfl rfl (by omega)) ?_
  refine L.va rfl (X.move (by conv => lhs; whnf)) ?_
  refine L.va rfl (X.sub rfl rfl (by omega)) ?_
  iterate 2 refine L.va rfl (X.assign (by conv => lhs; whnf)) ?_
  refine L.nil ?_
  refine J.seq ?_
  refine J.block ?_
  have ea : (swp l a p).getD a 0 = l.getD p 0 := by
   rw [swp_at l (by omega) (by omega)]
   by_cases e : a = p
   ·rw [if_pos e, e]
   ·rw [if_neg e, if_pos rfl]
  have M0 : SwI w w2 A n c N a b l (swp l a p) := ⟨hoX, hG, .step (.refl _) ⟨by omega, by omega⟩ hp (by omega)⟩
  have HP0 : Pt (· ≤ ·) (fun x y => y < x) (swp l a p) a b (a + 1) (b - 1) := ⟨by omega, by omega, by omega, (fun k k1 k2 => by omega), (fun k k1 k2 => by omega)⟩
  rw [e0]
  refine J.loop (X := Nat × Nat × List Int) [9, 10, 29, 30, 31, 32, 33, 34, 35, 36, 37, 38, 39, 40, 41, 42, 43, 44, 45, 46, 47, 48, 49, 50, 51, 52, 53, 54, 55, 56, 57, 58, 59, 60, 61, 62, 63, 64, 65, 66, 67, 68, 69, 70, 71, 72, 73, 74, 75, 76, 77, 78, 79, 80, 81, 82] (fun (i, j, m) => [(9, .int .i64 (i : Int)), (10, .int .i64 (j : Int))]) (fun (i, j, m) w' => SwI w w' A n c N a b l m ∧ Pt (· ≤ ·) (fun x y => y < x) m a b i j ∧ m.getD a 0 = l.getD p 0) (fun (i, j, _) => j + 1 - i) ((a + 1, b - 1, swp l a p)) (At2 (by first | rfl | exact at_int rfl (by omega) | exact at_slice rfl (by omega) | exact at_int rfl (by simp)) (by first | rfl | exact at_int rfl (by omega) | exact at_slice rfl (by omega) | exact at_int rfl (by simp))) ?_ ?_
  ·exact ⟨M0, HP0, ea⟩
  ·rintro ⟨i, j, m⟩ g w3 ⟨M, HP, em⟩
   have hml : m.length = n := by rw [M.p.len, hl]
   have HO := M.o
   obtain ⟨io, hio⟩ : ∃ io, io = i := ⟨_, rfl⟩
   refine J.block ?_
   refine J.cut (X := Nat) [9, 29, 30, 31, 32, 33, 34, 35, 36, 37, 38, 39, 40, 41, 42, 43, 44, 45] (fun i => [(9, .int .i64 (i : Int))]) (fun i w' => Pt (· ≤ ·) (fun x y => y < x) m a b i j ∧ (i ≤ j → ¬ m.getD i 0 ≤ m.getD a 0) ∧ io ≤ i ∧ Ext w3 w') ?_ ?_
   ·refine J.block ?_
    refine J.loop (X := Nat) [9, 29, 30, 31, 32, 33, 34, 35, 36, 37, 38, 39, 40, 41, 42, 43, 44, 45] (fun i => [(9, .int .i64 (i : Int))]) (fun i w' => Pt (· ≤ ·) (fun x y => y < x) m a b i j ∧ io ≤ i ∧ Ext w3 w') (fun i => j + 1 - i) (i) (At1 (by first | rfl | exact at_int rfl (by omega) | exact at_slice rfl (by omega) | exact at_int rfl (by simp))) ?_ ?_
    ·exact ⟨HP, by omega, Ext.refl _⟩
    ·rintro i g w4 ⟨HP, hbd, he⟩
     have h1 := HP.ai
     have h2 := HP.ij
     have h3 := HP.jb
     have hr := Reads.of_own (HO.ext he)
     have hA := hr.some_ (by omega)
     iterate 2 refine J.seq ?_
     refine J.quiet mixed (by kernel_rfl) ?_
     iterate 2 refine Qt.va rfl (fun w' hw => X.move (by conv => lhs; whnf)) ?_
     refine Qt.va rfl (fun w' hw => X.leq rfl rfl) ?_
     refine Qt.va rfl (fun w' hw => X.move (by conv => lhs; whnf)) ?_
     refine Qt.caseDec (k := 32) rfl (fun hij => ?_) (fun hij => ?_)
     ·refine Qt.va rfl (fun w' hw => X.move (by conv => lhs; whnf)) ?_
      refine Qt.va rfl (fun w' hw => X.move (by conv => lhs; whnf)) ?_
      refine Qt.va rfl (fun w' hw => (by first | exact X.index1n rfl rfl Tryz.underlying44 sz_3 (by first | exact Option.some_ne_none _ | exact hr.some_ (by omega) | exact hA) (by omega) | exact X.index1 rfl rfl Tryz.underlying44 sz_3 (by first | exact Option.some_ne_none _ | exact hr.some_ (by omega) | exact hA) (by omega))) ?_
      refine Qt.va rfl (fun w' hw => X.load rfl sc_3 (by first | exact Ld.num (hr.ext hw) (by omega) | exact hA)) ?_
      iterate 2 refine Qt.va rfl (fun w' hw => X.move (by conv => lhs; whnf)) ?_
      refine Qt.va rfl (fun w' hw => (by first | exact X.index1n rfl rfl Tryz.underlying44 sz_3 (by first | exact Option.some_ne_none _ | exact hr.some_ (by omega) | exact hA) (by omega) | exact X.index1 rfl rfl Tryz.underlying44 sz_3 (by first | exact Option.some_ne_none _ | exact hr.some_ (by omega) | exact hA) (by omega))) ?_
      refine Qt.va rfl (fun w' hw => X.load rfl sc_3 (by first | exact Ld.num (hr.ext hw) (by omega) | exact hA)) ?_
      refine Qt.call rfl en_93 rfl (fun w' hw => calls_same hw (clessI (m.getD a 0) (m.getD i 0) w')) ?_
      refine Qt.va rfl (fun w' hw => X.not rfl) ?_
      refine Qt.va rfl (fun w' hw => X.pickT rfl (by conv => lhs; whnf)) ?_
      refine Qt.nil (fun w5 hq => ?_)
      by_cases hd : m.getD i 0 ≤ m.getD a 0
      ·rw [show decide (m.getD a 0 < m.getD i 0) = false from decide_eq_false (by omega)]
       refine J.iteT rfl ?_
       refine J.skip ?_
       refine J.block ?_
       refine J.region ?_
       refine L.va rfl (X.move (by conv => lhs; whnf)) ?_
       refine L.va rfl (X.add rfl rfl (by omega)) ?_
       refine L.va rfl (X.assign (by conv => lhs; whnf)) ?_
       refine L.nil ?_
       refine ⟨i + 1, At1 (by first | rfl | exact at_int rfl (by omega) | exact at_slice rfl (by omega) | exact at_int rfl (by simp)), (by (iterate 19 refine Agr.lk rfl ?_); exact Agr.lk rfl (Agr.hav rfl Agr.rfl')), ?_⟩
       exact ⟨⟨⟨by omega, by omega, h3, fun k k1 k2 => by
        rcases Nat.lt_or_ge k i with h | h
        ·exact HP.le k k1 h
        ·obtain rfl : k = i := by omega
         exact hd, HP.ri⟩, by omega, he.trans hq⟩, by omega⟩
      ·rw [show decide (m.getD a 0 < m.getD i 0) = true from decide_eq_true (by omega)]
       refine J.iteF rfl ?_
       refine J.exit ?_
       refine ⟨i, At1 (by first | rfl | exact at_int rfl (by omega) | exact at_slice rfl (by omega) | exact at_int rfl (by simp)), (by (iterate 16 refine Agr.lk rfl ?_); refine Agr.lk rfl ?_; refine Agr.hav rfl ?_; exact Agr.rfl'), ?_⟩
       exact ⟨HP, (fun _ => hd), hbd, he.trans hq⟩
     ·skip
      iterate 10 refine Qt.no rfl ?_
      refine Qt.va rfl (fun w' hw => X.pickF rfl (by conv => lhs; whnf)) ?_
      refine Qt.nil (fun w5 hq => ?_)
      refine J.iteF rfl ?_
      refine J.exit ?_
      refine ⟨i, At1 (by first | rfl | exact at_int rfl (by omega) | exact at_slice rfl (by omega) | exact at_int rfl (by simp)), (by (iterate 16 refine Agr.lk rfl ?_); refine Agr.lk rfl ?_; refine Agr.hav rfl ?_; exact Agr.rfl'), ?_⟩
      exact ⟨HP, (fun h => absurd h (by omega)), hbd, he.trans hq⟩
   ·rintro i g w6 ⟨HP, hi, hio2, he6⟩
    replace HO := HO.ext he6
    have hG6 : w.grownBy w6 (Value.ownBlock (.slice A n c)) := grb_trans M.g (grown_ext he6)
    obtain ⟨jo, hjo⟩ : ∃ jo, jo = j := ⟨_, rfl⟩
    rw [← hjo] at hi
    refine J.cut (X := Nat) [10, 46, 47, 48, 49, 50, 51, 52, 53, 54, 55, 56, 57, 58, 59, 60, 61] (fun j => [(10, .int .i64 (j : Int))]) (fun j w' => Pt (· ≤ ·) (fun x y => y < x) m a b i j ∧ (i ≤ j → ¬ m.getD a 0 < m.getD j 0) ∧ j ≤ jo ∧ Ext w6 w') ?_ ?_
    ·refine J.block ?_
     refine J.loop (X := Nat) [10, 46, 47, 48, 49, 50, 51, 52, 53, 54, 55, 56, 57, 58, 59, 60, 61] (fun j => [(10, .int .i64 (j : Int))]) (fun j w' => Pt (· ≤ ·) (fun x y => y < x) m a b i j ∧ j ≤ jo ∧ Ext w6 w') (fun j => j) (j) (At1 (by first | rfl | exact at_int rfl (by omega) | exact at_slice rfl (by omega) | exact at_int rfl (by simp))) ?_ ?_
     ·exact ⟨HP, by omega, Ext.refl _⟩
     ·rintro j g w7 ⟨HP, hbd, he⟩
      have h1 := HP.ai
      have h2 := HP.ij
      have h3 := HP.jb
      have hr := Reads.of_own (HO.ext he)
      have hA := hr.some_ (by omega)
      iterate 2 refine J.seq ?_
      refine J.quiet mixed (by kernel_rfl) ?_
      iterate 2 refine Qt.va rfl (fun w' hw => X.move (by conv => lhs; whnf)) ?_
      refine Qt.va rfl (fun w' hw => X.leq rfl rfl) ?_
      refine Qt.va rfl (fun w' hw => X.move (by conv => lhs; whnf)) ?_
      refine Qt.caseDec (k := 49) rfl (fun hij => ?_) (fun hij => ?_)
      ·refine Qt.va rfl (fun w' hw => X.move (by conv => lhs; whnf)) ?_
       refine Qt.va rfl (fun w' hw => X.move (by conv => lhs; whnf)) ?_
       refine Qt.va rfl (fun w' hw => (by first | exact X.index1n rfl rfl Tryz.underlying44 sz_3 (by first | exact Option.some_ne_none _ | exact hr.some_ (by omega) | exact hA) (by omega) | exact X.index1 rfl rfl Tryz.underlying44 sz_3 (by first | exact Option.some_ne_none _ | exact hr.some_ (by omega) | exact hA) (by omega))) ?_
       refine Qt.va rfl (fun w' hw => X.load rfl sc_3 (by first | exact Ld.num (hr.ext hw) (by omega) | exact hA)) ?_
       iterate 2 refine Qt.va rfl (fun w' hw => X.move (by conv => lhs; whnf)) ?_
       refine Qt.va rfl (fun w' hw => (by first | exact X.index1n rfl rfl Tryz.underlying44 sz_3 (by first | exact Option.some_ne_none _ | exact hr.some_ (by omega) | exact hA) (by omega) | exact X.index1 rfl rfl Tryz.underlying44 sz_3 (by first | exact Option.some_ne_none _ | exact hr.some_ (by omega) | exact hA) (by omega))) ?_
       refine Qt.va rfl (fun w' hw => X.load rfl sc_3 (by first | exact Ld.num (hr.ext hw) (by omega) | exact hA)) ?_
       refine Qt.call rfl en_93 rfl (fun w' hw => calls_same hw (clessI (m.getD a 0) (m.getD j 0) w')) ?_
       refine Qt.va rfl (fun w' hw => X.pickT rfl (by conv => lhs; whnf)) ?_
       refine Qt.nil (fun w8 hq => ?_)
       by_cases hd : m.getD a 0 < m.getD j 0
       ·rw [show decide (m.getD a 0 < m.getD j 0) = true from decide_eq_true (by omega)]
        refine J.iteT rfl ?_
        refine J.skip ?_
        refine J.block ?_
        refine J.region ?_
        refine L.va rfl (X.move (by conv => lhs; whnf)) ?_
        refine L.va rfl (X.sub rfl rfl (by omega)) ?_
        refine L.va rfl (X.assign (by conv => lhs; whnf)) ?_
        refine L.nil ?_
        obtain ⟨j', rfl⟩ : ∃ j', j = j' + 1 := ⟨j - 1, by omega⟩
        refine ⟨j', At1 (by first | rfl | exact at_int rfl (by omega) | exact at_slice rfl (by omega) | exact at_int rfl (by simp)), (by (iterate 18 refine Agr.lk rfl ?_); exact Agr.lk rfl (Agr.hav rfl Agr.rfl')), ?_⟩
        exact ⟨⟨⟨h1, by omega, by omega, HP.le, fun k k1 k2 => by
         rcases Nat.lt_or_ge (j' + 1) k with h | h
         ·exact HP.ri k h k2
         ·obtain rfl : k = j' + 1 := by omega
          exact hd⟩, by omega, he.trans hq⟩, by omega⟩
       ·rw [show decide (m.getD a 0 < m.getD j 0) = false from decide_eq_false (by omega)]
        refine J.iteF rfl ?_
        refine J.exit ?_
        refine ⟨j, At1 (by first | rfl | exact at_int rfl (by omega) | exact at_slice rfl (by omega) | exact at_int rfl (by simp)), (by (iterate 15 refine Agr.lk rfl ?_); refine Agr.lk rfl ?_; refine Agr.hav rfl ?_; exact Agr.rfl'), ?_⟩
        exact ⟨HP, (fun _ => hd), hbd, he.trans hq⟩
      ·skip
       iterate 9 refine Qt.no rfl ?_
       refine Qt.va rfl (fun w' hw => X.pickF rfl (by conv => lhs; whnf)) ?_
       refine Qt.nil (fun w8 hq => ?_)
       refine J.iteF rfl ?_
       refine J.exit ?_
       refine ⟨j, At1 (by first | rfl | exact at_int rfl (by omega) | exact at_slice rfl (by omega) | exact at_int rfl (by simp)), (by (iterate 15 refine Agr.lk rfl ?_); refine Agr.lk rfl ?_; refine Agr.hav rfl ?_; exact Agr.rfl'), ?_⟩
       exact ⟨HP, (fun h => absurd h (by omega)), hbd, he.trans hq⟩
    ·rintro j g w9 ⟨HP, hj, hjo2, he9⟩
     replace HO := HO.ext he9
     have hG9 := grb_trans hG6 (grown_ext he9)
     have h1 := HP.ai
     have h2 := HP.ij
     have h3 := HP.jb
     iterate 2 refine J.seq ?_
     refine J.region ?_
     iterate 2 refine L.va rfl (X.move (by conv => lhs; whnf)) ?_
     refine L.va rfl (X.gtr rfl rfl) ?_
     refine L.nil ?_
     refine J.dec rfl (fun hgt => ?_) (fun hgt => ?_)
     ·refine J.exit ?_
      refine J.seq ?_
      refine J.region ?_
      refine L.va rfl (X.move (by conv => lhs; whnf)) ?_
      refine L.va rfl (X.assign (by conv => lhs; whnf)) ?_
      refine L.nil ?_
      refine J.ret ?_
      refine fin1 ?_
      obtain rfl : i = j + 1 := by omega
      refine ⟨m, j + 1, rfl, ⟨HO, hG9, M.p⟩, by omega, by omega, fun k k1 k2 => ?_, fun k k1 k2 => ?_⟩
      ·by_cases e : k = a
       ·rw [e, em]; exact Int.le_refl _
       ·rw [← em]; exact HP.le k (by omega) k2
      ·rw [← em]; exact HP.ri k (by omega) k2
     ·have hi' := hi (by omega)
      have hj' := hj (by omega)
      have hne : i ≠ j := fun e => by subst e; omega
      obtain ⟨j, rfl⟩ : ∃ j', j = j' + 1 := ⟨j - 1, by omega⟩
      refine J.skip ?_
      refine J.seq ?_
      refine J.draw (ℓ := 1000000) (S := (fun _ => True)) mixed (fun w12d hSE hS_h => ?_)
      have hS : ((fun _ => True)) w12d := trivial
      have hrw12 := (Reads.of_own HO).ext hSE
      have hoX := HO.ext hSE
      have hG : w9.grownBy w12d (Value.ownBlock (.slice A n c)) := grown_ext hSE
      refine D.va 0 rfl (by kernel_rfl) (fun _ _ _ h => h) rfl (fun w' hw => X.move (by conv => lhs; whnf)) hS ?_
      refine D.va 1 rfl (by kernel_rfl) (fun _ _ _ h => h) rfl (fun w' hw => X.move (by conv => lhs; whnf)) hS ?_
      refine D.va 2 rfl (by kernel_rfl) (fun _ _ _ h => h) rfl (fun w' hw => X.move (by conv => lhs; whnf)) hS ?_
      refine D.va 3 rfl (by kernel_rfl) (fun _ _ _ h => h) rfl (fun w' hw => X.move (by conv => lhs; whnf)) hS ?_
      refine D.va 4 rfl (by kernel_rfl) (fun _ _ _ h => h) rfl (fun w' hw => X.move (by conv => lhs; whnf)) hS ?_
      refine D.va 5 rfl (by kernel_rfl) (fun _ _ _ h => h) rfl (fun w' hw => X.move (by conv => lhs; whnf)) hS ?_
      refine D.va 6 rfl (by kernel_rfl) (fun _ _ _ h => h) rfl (fun w' hw => (by first | exact X.index1n rfl rfl Tryz.underlying44 sz_3 (by first | exact Option.some_ne_none _ | exact hA) (by omega) | exact X.index1 rfl rfl Tryz.underlying44 sz_3 (by first | exact Option.some_ne_none _ | exact hA) (by omega))) hS ?_
      refine D.va 8 rfl (by kernel_rfl) (fun _ _ _ h => h) rfl (fun w' hw => X.move (by conv => lhs; whnf)) hS ?_
      refine D.va 9 rfl (by kernel_rfl) (fun _ _ _ h => h) rfl (fun w' hw => X.move (by conv => lhs; whnf)) hS ?_
      refine D.va 10 rfl (by kernel_rfl) (fun _ _ _ h => h) rfl (fun w' hw => (by first | exact X.index1n rfl rfl Tryz.underlying44 sz_3 (by first | exact Option.some_ne_none _ | exact hA) (by omega) | exact X.index1 rfl rfl Tryz.underlying44 sz_3 (by first | exact Option.some_ne_none _ | exact hA) (by omega))) hS ?_
      refine D.two 7 11 (by kernel_rfl) rfl rfl ?_ ?_
      ·refine L.va rfl (X.load rfl sc_3 (Ld.num hrw12 (j := j + 1) (by omega))) ?_
       refine L.nil ?_
       refine ⟨fun _ => hS, ?_⟩
       refine D.one 11 (by kernel_rfl) rfl ?_
       refine L.va rfl (X.load rfl sc_3 (Ld.num hrw12 (j := i) (by omega))) ?_
       refine L.nil ?_
       refine ⟨fun _ => hS, ?_⟩
       refine D.va 12 rfl (by kernel_rfl) (fun _ _ _ h => h) rfl (fun w' hw => (by first | exact X.index1n rfl rfl Tryz.underlying44 sz_3 (by first | exact Option.some_ne_none _ | exact hA) (by omega) | exact X.index1 rfl rfl Tryz.underlying44 sz_3 (by first | exact Option.some_ne_none _ | exact hA) (by omega))) hS ?_
       refine D.one 13 (by kernel_rfl) rfl ?_
       refine L.storeON rfl rfl (by conv => lhs; whnf) sz_3 (hoX) (by omega) ?_
       intro w12 hoX hg2 hb2 hs2
       have hS1 := trivial
       refine L.nil ?_
       refine ⟨fun _ => hS1, ?_⟩
       replace hG := grb_trans hG hg2
       refine D.va 14 rfl (by kernel_rfl) (fun _ _ _ h => h) rfl (fun w' hw => (by first | exact X.index1n rfl rfl Tryz.underlying44 sz_3 (by first | exact Option.some_ne_none _ | exact hA) (by omega) | exact X.index1 rfl rfl Tryz.underlying44 sz_3 (by first | exact Option.some_ne_none _ | exact hA) (by omega))) hS1 ?_
       refine D.one 15 (by kernel_rfl) rfl ?_
       refine L.storeON rfl rfl (by conv => lhs; whnf) sz_3 (hoX) (by omega) ?_
       intro w12 hoX hg2 hb2 hs2
       have hS2 := trivial
       refine L.nil ?_
       refine ⟨fun _ => hS2, ?_⟩
       replace hG := grb_trans hG hg2
       refine D.done (by kernel_rfl) ?_
       refine J.seq ?_
       refine J.region ?_
       refine L.va rfl (X.move (by conv => lhs; whnf)) ?_
       refine L.va rfl (X.add rfl rfl (by omega)) ?_
       refine L.va rfl (X.assign (by conv => lhs; whnf)) ?_
       refine L.nil ?_
       refine J.region ?_
       refine L.va rfl (X.move (by conv => lhs; whnf)) ?_
       refine L.va rfl (X.sub rfl rfl (by omega)) ?_
       refine L.va rfl (X.assign (by conv => lhs; whnf)) ?_
       refine L.nil ?_
       refine ⟨(i + 1, j, swp m i (j + 1)), At2 (by first | rfl | exact at_int rfl (by omega) | exact at_slice rfl (by omega) | exact at_int rfl (by simp)) (by first | rfl | exact at_int rfl (by omega) | exact at_slice rfl (by omega) | exact at_int rfl (by simp)), (by (iterate 23 refine Agr.lk rfl ?_); refine Agr.lk rfl ?_; refine Agr.hav rfl ?_; refine Agr.lk rfl ?_; refine Agr.hav rfl ?_; exact Agr.lk rfl (Agr.hav rfl Agr.rfl')), ?_⟩
       exact ⟨⟨⟨hoX, grb_trans hG9 hG, .step M.p ⟨by omega, by omega⟩ ⟨by omega, by omega⟩ (by omega)⟩, HP.swap (by omega) (by omega) (by omega) (by omega), by rw [swp_at m (by omega) (by omega), if_neg (by omega), if_neg (by omega)]; exact em⟩, by show j + 1 - (i + 1) < _ + 1 - _; omega⟩
      ·refine L.va rfl (X.load rfl sc_3 (Ld.num hrw12 (j := i) (by omega))) ?_
       refine L.nil ?_
       refine ⟨fun _ => hS, ?_⟩
       refine D.one 7 (by kernel_rfl) rfl ?_
       refine L.va rfl (X.load rfl sc_3 (Ld.num hrw12 (j := j + 1) (by omega))) ?_
       refine L.nil ?_
       refine ⟨fun _ => hS, ?_⟩
       refine D.va 12 rfl (by kernel_rfl) (fun _ _ _ h => h) rfl (fun w' hw => (by first | exact X.index1n rfl rfl Tryz.underlying44 sz_3 (by first | exact Option.some_ne_none _ | exact hA) (by omega) | exact X.index1 rfl rfl Tryz.underlying44 sz_3 (by first | exact Option.some_ne_none _ | exact hA) (by omega))) hS ?_
       refine D.one 13 (by kernel_rfl) rfl ?_
       refine L.storeON rfl rfl (by conv => lhs; whnf) sz_3 (hoX) (by omega) ?_
       intro w12 hoX hg2 hb2 hs2
       have hS1 := trivial
       refine L.nil ?_
       refine ⟨fun _ => hS1, ?_⟩
       replace hG := grb_trans hG hg2
       refine D.va 14 rfl (by kernel_rfl) (fun _ _ _ h => h) rfl (fun w' hw => (by first | exact X.index1n rfl rfl Tryz.underlying44 sz_3 (by first | exact Option.some_ne_none _ | exact hA) (by omega) | exact X.index1 rfl rfl Tryz.underlying44 sz_3 (by first | exact Option.some_ne_none _ | exact hA) (by omega))) hS1 ?_
       refine D.one 15 (by kernel_rfl) rfl ?_
       refine L.storeON rfl rfl (by conv => lhs; whnf) sz_3 (hoX) (by omega) ?_
       intro w12 hoX hg2 hb2 hs2
       have hS2 := trivial
       refine L.nil ?_
       refine ⟨fun _ => hS2, ?_⟩
       replace hG := grb_trans hG hg2
       refine D.done (by kernel_rfl) ?_
       refine J.seq ?_
       refine J.region ?_
       refine L.va rfl (X.move (by conv => lhs; whnf)) ?_
       refine L.va rfl (X.add rfl rfl (by omega)) ?_
       refine L.va rfl (X.assign (by conv => lhs; whnf)) ?_
       refine L.nil ?_
       refine J.region ?_
       refine L.va rfl (X.move (by conv => lhs; whnf)) ?_
       refine L.va rfl (X.sub rfl rfl (by omega)) ?_
       refine L.va rfl (X.assign (by conv => lhs; whnf)) ?_
       refine L.nil ?_
       refine ⟨(i + 1, j, swp m i (j + 1)), At2 (by first | rfl | exact at_int rfl (by omega) | exact at_slice rfl (by omega) | exact at_int rfl (by simp)) (by first | rfl | exact at_int rfl (by omega) | exact at_slice rfl (by omega) | exact at_int rfl (by simp)), (by (iterate 23 refine Agr.lk rfl ?_); refine Agr.lk rfl ?_; refine Agr.hav rfl ?_; refine Agr.lk rfl ?_; refine Agr.hav rfl ?_; exact Agr.lk rfl (Agr.hav rfl Agr.rfl')), ?_⟩
       exact ⟨⟨⟨hoX, grb_trans hG9 hG, .step M.p ⟨by omega, by omega⟩ ⟨by omega, by omega⟩ (by omega)⟩, HP.swap (by omega) (by omega) (by omega) (by omega), by rw [swp_at m (by omega) (by omega), if_neg (by omega), if_neg (by omega)]; exact em⟩, by show j + 1 - (i + 1) < _ + 1 - _; omega⟩
 ·refine L.va rfl (X.load rfl sc_3 (Ld.num hrw2 (j := a) (by omega))) ?_
  refine L.nil ?_
  refine ⟨fun _ => hS, ?_⟩
  refine D.one 7 (by kernel_rfl) rfl ?_
  refine L.va rfl (X.load rfl sc_3 (Ld.num hrw2 (j := p) (by omega))) ?_
  refine L.nil ?_
  refine ⟨fun _ => hS, ?_⟩
  refine D.va 12 rfl (by kernel_rfl) (fun _ _ _ h => h) rfl (fun w' hw => (by first | exact X.index1n rfl rfl Tryz.underlying44 sz_3 (by first | exact Option.some_ne_none _ | exact hA) (by omega) | exact X.index1 rfl rfl Tryz.underlying44 sz_3 (by first | exact Option.some_ne_none _ | exact hA) (by omega))) hS ?_
  refine D.one 13 (by kernel_rfl) rfl ?_
  refine L.storeON rfl rfl (by conv => lhs; whnf) sz_3 (hoX) (by omega) ?_
  intro w2 hoX hg2 hb2 hs2
  have hS1 := trivial
  refine L.nil ?_
  refine ⟨fun _ => hS1, ?_⟩
  replace hG := grb_trans hG hg2
  refine D.va 14 rfl (by kernel_rfl) (fun _ _ _ h => h) rfl (fun w' hw => (by first | exact X.index1n rfl rfl Tryz.underlying44 sz_3 (by first | exact Option.some_ne_none _ | exact hA) (by omega) | exact X.index1 rfl rfl Tryz.underlying44 sz_3 (by first | exact Option.some_ne_none _ | exact hA) (by omega))) hS1 ?_
  refine D.one 15 (by kernel_rfl) rfl ?_
  refine L.storeON rfl rfl (by conv => lhs; whnf) sz_3 (hoX) (by omega) ?_
  intro w2 hoX hg2 hb2 hs2
  have hS2 := trivial
  refine L.nil ?_
  refine ⟨fun _ => hS2, ?_⟩
  replace hG := grb_trans hG hg2
  refine D.done (by kernel_rfl) ?_
  refine J.seq ?_
  refine J.region ?_
  refine L.va rfl (X.move (by conv => lhs; whnf)) ?_
  refine L.va rfl (X.add rfl rfl (by omega)) ?_
  refine L.va rfl (X.move (by conv => lhs; whnf)) ?_
  refine L.va rfl (X.sub rfl rfl (by omega)) ?_
  iterate 2 refine L.va rfl (X.assign (by conv => lhs; whnf)) ?_
  refine L.nil ?_
  refine J.seq ?_
  refine J.block ?_
  have ea : (swp l a p).getD a 0 = l.getD p 0 := by
   rw [swp_at l (by omega) (by omega)]
   by_cases e : a = p
   ·rw [if_pos e, e]
   ·rw [if_neg e, if_pos rfl]
  have M0 : SwI w w2 A n c N a b l (swp l a p) := ⟨hoX, hG, .step (.refl _) ⟨by omega, by omega⟩ hp (by omega)⟩
  have HP0 : Pt (· ≤ ·) (fun x y => y < x) (swp l a p) a b (a + 1) (b - 1) := ⟨by omega, by omega, by omega, (fun k k1 k2 => by omega), (fun k k1 k2 => by omega)⟩
  rw [e0]
  refine J.loop (X := Nat × Nat × List Int) [9, 10, 29, 30, 31, 32, 33, 34, 35, 36, 37, 38, 39, 40, 41, 42, 43, 44, 45, 46, 47, 48, 49, 50, 51, 52, 53, 54, 55, 56, 57, 58, 59, 60, 61, 62, 63, 64, 65, 66, 67, 68, 69, 70, 71, 72, 73, 74, 75, 76, 77, 78, 79, 80, 81, 82] (fun (i, j, m) => [(9, .int .i64 (i : Int)), (10, .int .i64 (j : Int))]) (fun (i, j, m) w' => SwI w w' A n c N a b l m ∧ Pt (· ≤ ·) (fun x y => y < x) m a b i j ∧ m.getD a 0 = l.getD p 0) (fun (i, j, _) => j + 1 - i) ((a + 1, b - 1, swp l a p)) (At2 (by first | rfl | exact at_int rfl (by omega) | exact at_slice rfl (by omega) | exact at_int rfl (by simp)) (by first | rfl | exact at_int rfl (by omega) | exact at_slice rfl (by omega) | exact at_int rfl (by simp))) ?_ ?_
  ·exact ⟨M0, HP0, ea⟩
  ·rintro ⟨i, j, m⟩ g w3 ⟨M, HP, em⟩
   have hml : m.length = n := by rw [M.p.len, hl]
   have HO := M.o
   obtain ⟨io, hio⟩ : ∃ io, io = i := ⟨_, rfl⟩
   refine J.block ?_
   refine J.cut (X := Nat) [9, 29, 30, 31, 32, 33, 34, 35, 36, 37, 38, 39, 40, 41, 42, 43, 44, 45] (fun i => [(9, .int .i64 (i : Int))]) (fun i w' => Pt (· ≤ ·) (fun x y => y < x) m a b i j ∧ (i ≤ j → ¬ m.getD i 0 ≤ m.getD a 0) ∧ io ≤ i ∧ Ext w3 w') ?_ ?_
   ·refine J.block ?_
    refine J.loop (X := Nat) [9, 29, 30, 31, 32, 33, 34, 35, 36, 37, 38, 39, 40, 41, 42, 43, 44, 45] (fun i => [(9, .int .i64 (i : Int))]) (fun i w' => Pt (· ≤ ·) (fun x y => y < x) m a b i j ∧ io ≤ i ∧ Ext w3 w') (fun i => j + 1 - i) (i) (At1 (by first | rfl | exact at_int rfl (by omega) | exact at_slice rfl (by omega) | exact at_int rfl (by simp))) ?_ ?_
    ·exact ⟨HP, by omega, Ext.refl _⟩
    ·rintro i g w4 ⟨HP, hbd, he⟩
     have h1 := HP.ai
     have h2 := HP.ij
     have h3 := HP.jb
     have hr := Reads.of_own (HO.ext he)
     have hA := hr.some_ (by omega)
     iterate 2 refine J.seq ?_
     refine J.quiet mixed (by kernel_rfl) ?_
     iterate 2 refine Qt.va rfl (fun w' hw => X.move (by conv => lhs; whnf)) ?_
     refine Qt.va rfl (fun w' hw => X.leq rfl rfl) ?_
     refine Qt.va rfl (fun w' hw => X.move (by conv => lhs; whnf)) ?_
     refine Qt.caseDec (k := 32) rfl (fun hij => ?_) (fun hij => ?_)
     ·refine Qt.va rfl (fun w' hw => X.move (by conv => lhs; whnf)) ?_
      refine Qt.va rfl (fun w' hw => X.move (by conv => lhs; whnf)) ?_
      refine Qt.va rfl (fun w' hw => (by first | exact X.index1n rfl rfl Tryz.underlying44 sz_3 (by first | exact Option.some_ne_none _ | exact hr.some_ (by omega) | exact hA) (by omega) | exact X.index1 rfl rfl Tryz.underlying44 sz_3 (by first | exact Option.some_ne_none _ | exact hr.some_ (by omega) | exact hA) (by omega))) ?_
      refine Qt.va rfl (fun w' hw => X.load rfl sc_3 (by first | exact Ld.num (hr.ext hw) (by omega) | exact hA)) ?_
      iterate 2 refine Qt.va rfl (fun w' hw => X.move (by conv => lhs; whnf)) ?_
      refine Qt.va rfl (fun w' hw => (by first | exact X.index1n rfl rfl Tryz.underlying44 sz_3 (by first | exact Option.some_ne_none _ | exact hr.some_ (by omega) | exact hA) (by omega) | exact X.index1 rfl rfl Tryz.underlying44 sz_3 (by first | exact Option.some_ne_none _ | exact hr.some_ (by omega) | exact hA) (by omega))) ?_
      refine Qt.va rfl (fun w' hw => X.load rfl sc_3 (by first | exact Ld.num (hr.ext hw) (by omega) | exact hA)) ?_
      refine Qt.call rfl en_93 rfl (fun w' hw => calls_same hw (clessI (m.getD a 0) (m.getD i 0) w')) ?_
      refine Qt.va rfl (fun w' hw => X.not rfl) ?_
      refine Qt.va rfl (fun w' hw => X.pickT rfl (by conv => lhs; whnf)) ?_
      refine Qt.nil (fun w5 hq => ?_)
      by_cases hd : m.getD i 0 ≤ m.getD a 0
      ·rw [show decide (m.getD a 0 < m.getD i 0) = false from decide_eq_false (by omega)]
       refine J.iteT rfl ?_
       refine J.skip ?_
       refine J.block ?_
       refine J.region ?_
       refine L.va rfl (X.move (by conv => lhs; whnf)) ?_
       refine L.va rfl (X.add rfl rfl (by omega)) ?_
       refine L.va rfl (X.assign (by conv => lhs; whnf)) ?_
       refine L.nil ?_
       refine ⟨i + 1, At1 (by first | rfl | exact at_int rfl (by omega) | exact at_slice rfl (by omega) | exact at_int rfl (by simp)), (by (iterate 19 refine Agr.lk rfl ?_); exact Agr.lk rfl (Agr.hav rfl Agr.rfl')), ?_⟩
       exact ⟨⟨⟨by omega, by omega, h3, fun k k1 k2 => by
        rcases Nat.lt_or_ge k i with h | h
        ·exact HP.le k k1 h
        ·obtain rfl : k = i := by omega
         exact hd, HP.ri⟩, by omega, he.trans hq⟩, by omega⟩
      ·rw [show decide (m.getD a 0 < m.getD i 0) = true from decide_eq_true (by omega)]
       refine J.iteF rfl ?_
       refine J.exit ?_
       refine ⟨i, At1 (by first | rfl | exact at_int rfl (by omega) | exact at_slice rfl (by omega) | exact at_int rfl (by simp)), (by (iterate 16 refine Agr.lk rfl ?_); refine Agr.lk rfl ?_; refine Agr.hav rfl ?_; exact Agr.rfl'), ?_⟩
       exact ⟨HP, (fun _ => hd), hbd, he.trans hq⟩
     ·skip
      iterate 10 refine Qt.no rfl ?_
      refine Qt.va rfl (fun w' hw => X.pickF rfl (by conv => lhs; whnf)) ?_
      refine Qt.nil (fun w5 hq => ?_)
      refine J.iteF rfl ?_
      refine J.exit ?_
      refine ⟨i, At1 (by first | rfl | exact at_int rfl (by omega) | exact at_slice rfl (by omega) | exact at_int rfl (by simp)), (by (iterate 16 refine Agr.lk rfl ?_); refine Agr.lk rfl ?_; refine Agr.hav rfl ?_; exact Agr.rfl'), ?_⟩
      exact ⟨HP, (fun h => absurd h (by omega)), hbd, he.trans hq⟩
   ·rintro i g w6 ⟨HP, hi, hio2, he6⟩
    replace HO := HO.ext he6
    have hG6 : w.grownBy w6 (Value.ownBlock (.slice A n c)) := grb_trans M.g (grown_ext he6)
    obtain ⟨jo, hjo⟩ : ∃ jo, jo = j := ⟨_, rfl⟩
    rw [← hjo] at hi
    refine J.cut (X := Nat) [10, 46, 47, 48, 49, 50, 51, 52, 53, 54, 55, 56, 57, 58, 59, 60, 61] (fun j => [(10, .int .i64 (j : Int))]) (fun j w' => Pt (· ≤ ·) (fun x y => y < x) m a b i j ∧ (i ≤ j → ¬ m.getD a 0 < m.getD j 0) ∧ j ≤ jo ∧ Ext w6 w') ?_ ?_
    ·refine J.block ?_
     refine J.loop (X := Nat) [10, 46, 47, 48, 49, 50, 51, 52, 53, 54, 55, 56, 57, 58, 59, 60, 61] (fun j => [(10, .int .i64 (j : Int))]) (fun j w' => Pt (· ≤ ·) (fun x y => y < x) m a b i j ∧ j ≤ jo ∧ Ext w6 w') (fun j => j) (j) (At1 (by first | rfl | exact at_int rfl (by omega) | exact at_slice rfl (by omega) | exact at_int rfl (by simp))) ?_ ?_
     ·exact ⟨HP, by omega, Ext.refl _⟩
     ·rintro j g w7 ⟨HP, hbd, he⟩
      have h1 := HP.ai
      have h2 := HP.ij
      have h3 := HP.jb
      have hr := Reads.of_own (HO.ext he)
      have hA := hr.some_ (by omega)
      iterate 2 refine J.seq ?_
      refine J.quiet mixed (by kernel_rfl) ?_
      iterate 2 refine Qt.va rfl (fun w' hw => X.move (by conv => lhs; whnf)) ?_
      refine Qt.va rfl (fun w' hw => X.leq rfl rfl) ?_
      refine Qt.va rfl (fun w' hw => X.move (by conv => lhs; whnf)) ?_
      refine Qt.caseDec (k := 49) rfl (fun hij => ?_) (fun hij => ?_)
      ·refine Qt.va rfl (fun w' hw => X.move (by conv => lhs; whnf)) ?_
       refine Qt.va rfl (fun w' hw => X.move (by conv => lhs; whnf)) ?_
       refine Qt.va rfl (fun w' hw => (by first | exact X.index1n rfl rfl Tryz.underlying44 sz_3 (by first | exact Option.some_ne_none _ | exact hr.some_ (by omega) | exact hA) (by omega) | exact X.index1 rfl rfl Tryz.underlying44 sz_3 (by first | exact Option.some_ne_none _ | exact hr.some_ (by omega) | exact hA) (by omega))) ?_
       refine Qt.va rfl (fun w' hw => X.load rfl sc_3 (by first | exact Ld.num (hr.ext hw) (by omega) | exact hA)) ?_
       iterate 2 refine Qt.va rfl (fun w' hw => X.move (by conv => lhs; whnf)) ?_
       refine Qt.va rfl (fun w' hw => (by first | exact X.index1n rfl rfl Tryz.underlying44 sz_3 (by first | exact Option.some_ne_none _ | exact hr.some_ (by omega) | exact hA) (by omega) | exact X.index1 rfl rfl Tryz.underlying44 sz_3 (by first | exact Option.some_ne_none _ | exact hr.some_ (by omega) | exact hA) (by omega))) ?_
       refine Qt.va rfl (fun w' hw => X.load rfl sc_3 (by first | exact Ld.num (hr.ext hw) (by omega) | exact hA)) ?_
       refine Qt.call rfl en_93 rfl (fun w' hw => calls_same hw (clessI (m.getD a 0) (m.getD j 0) w')) ?_
       refine Qt.va rfl (fun w' hw => X.pickT rfl (by conv => lhs; whnf)) ?_
       refine Qt.nil (fun w8 hq => ?_)
       by_cases hd : m.getD a 0 < m.getD j 0
       ·rw [show decide (m.getD a 0 < m.getD j 0) = true from decide_eq_true (by omega)]
        refine J.iteT rfl ?_
        refine J.skip ?_
        refine J.block ?_
        refine J.region ?_
        refine L.va rfl (X.move (by conv => lhs; whnf)) ?_
        refine L.va rfl (X.sub rfl rfl (by omega)) ?_
        refine L.va rfl (X.assign (by conv => lhs; whnf)) ?_
        refine L.nil ?_
        obtain ⟨j', rfl⟩ : ∃ j', j = j' + 1 := ⟨j - 1, by omega⟩
        refine ⟨j', At1 (by first | rfl | exact at_int rfl (by omega) | exact at_slice rfl (by omega) | exact at_int rfl (by simp)), (by (iterate 18 refine Agr.lk rfl ?_); exact Agr.lk rfl (Agr.hav rfl Agr.rfl')), ?_⟩
        exact ⟨⟨⟨h1, by omega, by omega, HP.le, fun k k1 k2 => by
         rcases Nat.lt_or_ge (j' + 1) k with h | h
         ·exact HP.ri k h k2
         ·obtain rfl : k = j' + 1 := by omega
          exact hd⟩, by omega, he.trans hq⟩, by omega⟩
       ·rw [show decide (m.getD a 0 < m.getD j 0) = false from decide_eq_false (by omega)]
        refine J.iteF rfl ?_
        refine J.exit ?_
        refine ⟨j, At1 (by first | rfl | exact at_int rfl (by omega) | exact at_slice rfl (by omega) | exact at_int rfl (by simp)), (by (iterate 15 refine Agr.lk rfl ?_); refine Agr.lk rfl ?_; refine Agr.hav rfl ?_; exact Agr.rfl'), ?_⟩
        exact ⟨HP, (fun _ => hd), hbd, he.trans hq⟩
      ·skip
       iterate 9 refine Qt.no rfl ?_
       refine Qt.va rfl (fun w' hw => X.pickF rfl (by conv => lhs; whnf)) ?_
       refine Qt.nil (fun w8 hq => ?_)
       refine J.iteF rfl ?_
       refine J.exit ?_
       refine ⟨j, At1 (by first | rfl | exact at_int rfl (by omega) | exact at_slice rfl (by omega) | exact at_int rfl (by simp)), (by (iterate 15 refine Agr.lk rfl ?_); refine Agr.lk rfl ?_; refine Agr.hav rfl ?_; exact Agr.rfl'), ?_⟩
       exact ⟨HP, (fun h => absurd h (by omega)), hbd, he.trans hq⟩
    ·rintro j g w9 ⟨HP, hj, hjo2, he9⟩
     replace HO := HO.ext he9
     have hG9 := grb_trans hG6 (grown_ext he9)
     have h1 := HP.ai
     have h2 := HP.ij
     have h3 := HP.jb
     iterate 2 refine J.seq ?_
     refine J.region ?_
     iterate 2 refine L.va rfl (X.move (by conv => lhs; whnf)) ?_
     refine L.va rfl (X.gtr rfl rfl) ?_
     refine L.nil ?_
     refine J.dec rfl (fun hgt => ?_) (fun hgt => ?_)
     ·refine J.exit ?_
      refine J.seq ?_
      refine J.region ?_
      refine L.va rfl (X.move (by conv => lhs; whnf)) ?_
      refine L.va rfl (X.assign (by conv => lhs; whnf)) ?_
      refine L.nil ?_
      refine J.ret ?_
      refine fin1 ?_
      obtain rfl : i = j + 1 := by omega
      refine ⟨m, j + 1, rfl, ⟨HO, hG9, M.p⟩, by omega, by omega, fun k k1 k2 => ?_, fun k k1 k2 => ?_⟩
      ·by_cases e : k = a
       ·rw [e, em]; exact Int.le_refl _
       ·rw [← em]; exact HP.le k (by omega) k2
      ·rw [← em]; exact HP.ri k (by omega) k2
     ·have hi' := hi (by omega)
      have hj' := hj (by omega)
      have hne : i ≠ j := fun e => by subst e; omega
      obtain ⟨j, rfl⟩ : ∃ j', j = j' + 1 := ⟨j - 1, by omega⟩
      refine J.skip ?_
      refine J.seq ?_
      refine J.draw (ℓ := 1000000) (S := (fun _ => True)) mixed (fun w12d hSE hS_h => ?_)
      have hS : ((fun _ => True)) w12d := trivial
      have hrw12 := (Reads.of_own HO).ext hSE
      have hoX := HO.ext hSE
      have hG : w9.grownBy w12d (Value.ownBlock (.slice A n c)) := grown_ext hSE
      refine D.va 0 rfl (by kernel_rfl) (fun _ _ _ h => h) rfl (fun w' hw => X.move (by conv => lhs; whnf)) hS ?_
      refine D.va 1 rfl (by kernel_rfl) (fun _ _ _ h => h) rfl (fun w' hw => X.move (by conv => lhs; whnf)) hS ?_
      refine D.va 2 rfl (by kernel_rfl) (fun _ _ _ h => h) rfl (fun w' hw => X.move (by conv => lhs; whnf)) hS ?_
      refine D.va 3 rfl (by kernel_rfl) (fun _ _ _ h => h) rfl (fun w' hw => X.move (by conv => lhs; whnf)) hS ?_
      refine D.va 4 rfl (by kernel_rfl) (fun _ _ _ h => h) rfl (fun w' hw => X.move (by conv => lhs; whnf)) hS ?_
      refine D.va 5 rfl (by kernel_rfl) (fun _ _ _ h => h) rfl (fun w' hw => X.move (by conv => lhs; whnf)) hS ?_
      refine D.va 6 rfl (by kernel_rfl) (fun _ _ _ h => h) rfl (fun w' hw => (by first | exact X.index1n rfl rfl Tryz.underlying44 sz_3 (by first | exact Option.some_ne_none _ | exact hA) (by omega) | exact X.index1 rfl rfl Tryz.underlying44 sz_3 (by first | exact Option.some_ne_none _ | exact hA) (by omega))) hS ?_
      refine D.va 8 rfl (by kernel_rfl) (fun _ _ _ h => h) rfl (fun w' hw => X.move (by conv => lhs; whnf)) hS ?_
      refine D.va 9 rfl (by kernel_rfl) (fun _ _ _ h => h) rfl (fun w' hw => X.move (by conv => lhs; whnf)) hS ?_
      refine D.va 10 rfl (by kernel_rfl) (fun _ _ _ h => h) rfl (fun w' hw => (by first | exact X.index1n rfl rfl Tryz.underlying44 sz_3 (by first | exact Option.some_ne_none _ | exact hA) (by omega) | exact X.index1 rfl rfl Tryz.underlying44 sz_3 (by first | exact Option.some_ne_none _ | exact hA) (by omega))) hS ?_
      refine D.two 7 11 (by kernel_rfl) rfl rfl ?_ ?_
      ·refine L.va rfl (X.load rfl sc_3 (Ld.num hrw12 (j := j + 1) (by omega))) ?_
       refine L.nil ?_
       refine ⟨fun _ => hS, ?_⟩
       refine D.one 11 (by kernel_rfl) rfl ?_
       refine L.va rfl (X.load rfl sc_3 (Ld.num hrw12 (j := i) (by omega))) ?_
       refine L.nil ?_
       refine ⟨fun _ => hS, ?_⟩
       refine D.va 12 rfl (by kernel_rfl) (fun _ _ _ h => h) rfl (fun w' hw => (by first | exact X.index1n rfl rfl Tryz.underlying44 sz_3 (by first | exact Option.some_ne_none _ | exact hA) (by omega) | exact X.index1 rfl rfl Tryz.underlying44 sz_3 (by first | exact Option.some_ne_none _ | exact hA) (by omega))) hS ?_
       refine D.one 13 (by kernel_rfl) rfl ?_
       refine L.storeON rfl rfl (by conv => lhs; whnf) sz_3 (hoX) (by omega) ?_
       intro w12 hoX hg2 hb2 hs2
       have hS1 := trivial
       refine L.nil ?_
       refine ⟨fun _ => hS1, ?_⟩
       replace hG := grb_trans hG hg2
       refine D.va 14 rfl (by kernel_rfl) (fun _ _ _ h => h) rfl (fun w' hw => (by first | exact X.index1n rfl rfl Tryz.underlying44 sz_3 (by first | exact Option.some_ne_none _ | exact hA) (by omega) | exact X.index1 rfl rfl Tryz.underlying44 sz_3 (by first | exact Option.some_ne_none _ | exact hA) (by omega))) hS1 ?_
       refine D.one 15 (by kernel_rfl) rfl ?_
       refine L.storeON rfl rfl (by conv => lhs; whnf) sz_3 (hoX) (by omega) ?_
       intro w12 hoX hg2 hb2 hs2
       have hS2 := trivial
       refine L.nil ?_
       refine ⟨fun _ => hS2, ?_⟩
       replace hG := grb_trans hG hg2
       refine D.done (by kernel_rfl) ?_
       refine J.seq ?_
       refine J.region ?_
       refine L.va rfl (X.move (by conv => lhs; whnf)) ?_
       refine L.va rfl (X.add rfl rfl (by omega)) ?_
       refine L.va rfl (X.assign (by conv => lhs; whnf)) ?_
       refine L.nil ?_
       refine J.region ?_
       refine L.va rfl (X.move (by conv => lhs; whnf)) ?_
       refine L.va rfl (X.sub rfl rfl (by omega)) ?_
       refine L.va rfl (X.assign (by conv => lhs; whnf)) ?_
       refine L.nil ?_
       refine ⟨(i + 1, j, swp m i (j + 1)), At2 (by first | rfl | exact at_int rfl (by omega) | exact at_slice rfl (by omega) | exact at_int rfl (by simp)) (by first | rfl | exact at_int rfl (by omega) | exact at_slice rfl (by omega) | exact at_int rfl (by simp)), (by (iterate 23 refine Agr.lk rfl ?_); refine Agr.lk rfl ?_; refine Agr.hav rfl ?_; refine Agr.lk rfl ?_; refine Agr.hav rfl ?_; exact Agr.lk rfl (Agr.hav rfl Agr.rfl')), ?_⟩
       exact ⟨⟨⟨hoX, grb_trans hG9 hG, .step M.p ⟨by omega, by omega⟩ ⟨by omega, by omega⟩ (by omega)⟩, HP.swap (by omega) (by omega) (by omega) (by omega), by rw [swp_at m (by omega) (by omega), if_neg (by omega), if_neg (by omega)]; exact em⟩, by show j + 1 - (i + 1) < _ + 1 - _; omega⟩
      ·refine L.va rfl (X.load rfl sc_3 (Ld.num hrw12 (j := i) (by omega))) ?_
       refine L.nil ?_
       refine ⟨fun _ => hS, ?_⟩
       refine D.one 7 (by kernel_rfl) rfl ?_
       refine L.va rfl (X.load rfl sc_3 (Ld.num hrw12 (j := j + 1) (by omega))) ?_
       refine L.nil ?_
       refine ⟨fun _ => hS, ?_⟩
       refine D.va 12 rfl (by kernel_rfl) (fun _ _ _ h => h) rfl (fun w' hw => (by first | exact X.index1n rfl rfl Tryz.underlying44 sz_3 (by first | exact Option.some_ne_none _ | exact hA) (by omega) | exact X.index1 rfl rfl Tryz.underlying44 sz_3 (by first | exact Option.some_ne_none _ | exact hA) (by omega))) hS ?_
       refine D.one 13 (by kernel_rfl) rfl ?_
       refine L.storeON rfl rfl (by conv => lhs; whnf) sz_3 (hoX) (by omega) ?_
       intro w12 hoX hg2 hb2 hs2
       have hS1 := trivial
       refine L.nil ?_
       refine ⟨fun _ => hS1, ?_⟩
       replace hG := grb_trans hG hg2
       refine D.va 14 rfl (by kernel_rfl) (fun _ _ _ h => h) rfl (fun w' hw => (by first | exact X.index1n rfl rfl Tryz.underlying44 sz_3 (by first | exact Option.some_ne_none _ | exact hA) (by omega) | exact X.index1 rfl rfl Tryz.underlying44 sz_3 (by first | exact Option.some_ne_none _ | exact hA) (by omega))) hS1 ?_
       refine D.one 15 (by kernel_rfl) rfl ?_
       refine L.storeON rfl rfl (by conv => lhs; whnf) sz_3 (hoX) (by omega) ?_
       intro w12 hoX hg2 hb2 hs2
       have hS2 := trivial
       refine L.nil ?_
       refine ⟨fun _ => hS2, ?_⟩
       replace hG := grb_trans hG hg2
       refine D.done (by kernel_rfl) ?_
       refine J.seq ?_
       refine J.region ?_
       refine L.va rfl (X.move (by conv => lhs; whnf)) ?_
       refine L.va rfl (X.add rfl rfl (by omega)) ?_
       refine L.va rfl (X.assign (by conv => lhs; whnf)) ?_
       refine L.nil ?_
       refine J.region ?_
       refine L.va rfl (X.move (by conv => lhs; whnf)) ?_
       refine L.va rfl (X.sub rfl rfl (by omega)) ?_
       refine L.va rfl (X.assign (by conv => lhs; whnf)) ?_
       refine L.nil ?_
       refine ⟨(i + 1, j, swp m i (j + 1)), At2 (by first | rfl | exact at_int rfl (by omega) | exact at_slice rfl (by omega) | exact at_int rfl (by simp)) (by first | rfl | exact at_int rfl (by omega) | exact at_slice rfl (by omega) | exact at_int rfl (by simp)), (by (iterate 23 refine Agr.lk rfl ?_); refine Agr.lk rfl ?_; refine Agr.hav rfl ?_; refine Agr.lk rfl ?_; refine Agr.hav rfl ?_; exact Agr.lk rfl (Agr.hav rfl Agr.rfl')), ?_⟩
       exact ⟨⟨⟨hoX, grb_trans hG9 hG, .step M.p ⟨by omega, by omega⟩ ⟨by omega, by omega⟩ (by omega)⟩, HP.swap (by omega) (by omega) (by omega) (by omega), by rw [swp_at m (by omega) (by omega), if_neg (by omega), if_neg (by omega)]; exact em⟩, by show j + 1 - (i + 1) < _ + 1 - _; omega⟩
theorem partI (A : Option Addr) (n c N a b p : Nat) (l : List Int) (w : World) (ho : w.ownsRow N 3 1 (.slice A n c) n (nums .i64 l)) (hb : b ≤ n) (hn : n ≤ 900000) (hp : a ≤ p ∧ p < b) :
  Calls Tryz.prog 95 #[.slice A n c, .int .i64 (a : Int), .int .i64 (b : Int), .int .i64 (p : Int)] w fun e w' => ∃ (l' : List Int) (q : Nat) (z : Bool), e = .returned (.tuple #[.int .i64 (q : Int), .bool z]) ∧ SwI w w' A n c N a b l l' ∧ a ≤ q ∧ q < b ∧ (∀ k, a ≤ k → k < q → l'.getD k 0 < l'.getD q 0) ∧ ∀ k, q < k → k < b → l'.getD q 0 ≤ l'.getD k 0 := by
 have hl : l.length = n := by have := ho.1; simpa [nums] using this
 have hA := (Reads.of_own ho).some_ (by omega)
 have e0 : (b : Int) - 1 = ((b - 1 : Nat) : Int) := by omega
 obtain ⟨j, hj0⟩ : ∃ j, j = b - 1 := ⟨_, rfl⟩
 rw [← hj0] at e0
 obtain ⟨i, hi0⟩ : ∃ i, i = a + 1 := ⟨_, rfl⟩
 have e1 : (a : Int) + 1 = (i : Int) := by omega
 refine enter Tryz.func95 rfl (by kernel_rfl) ?_
 refine J.seq ?_
 refine J.region ?_
 iterate 2 refine L.va rfl (X.assign (by conv => lhs; whnf)) ?_
 refine L.nil ?_
 refine J.cut (X := List Int) [12, 13, 14, 15, 16, 17, 18, 19, 20, 21, 22, 23, 24, 25] (fun m => [(1, .int .i64 (a : Int))]) (fun m w' => SwI w w' A n c N a b l m) ?_ ?_
 ·
  refine J.draw (ℓ := 1000000) (S := (fun _ => True)) mixed (fun w2d hSE hS_h => ?_)
  have hS : ((fun _ => True)) w2d := trivial
  have hrw2 := (Reads.of_own ho).ext hSE
  have hoX := ho.ext hSE
  have hG : w.grownBy w2d (Value.ownBlock (.slice A n c)) := grown_ext hSE
  refine D.va 0 rfl (by kernel_rfl) (fun _ _ _ h => h) rfl (fun w' hw => X.move (by conv => lhs; whnf)) hS ?_
  refine D.va 1 rfl (by kernel_rfl) (fun _ _ _ h => h) rfl (fun w' hw => X.move (by conv => lhs; whnf)) hS ?_
  refine D.va 2 rfl (by kernel_rfl) (fun _ _ _ h => h) rfl (fun w' hw => X.move (by conv => lhs; whnf)) hS ?_
  refine D.va 3 rfl (by kernel_rfl) (fun _ _ _ h => h) rfl (fun w' hw => X.move (by conv => lhs; whnf)) hS ?_
  refine D.va 4 rfl (by kernel_rfl) (fun _ _ _ h => h) rfl (fun w' hw => X.move (by conv => lhs; whnf)) hS ?_
  refine D.va 5 rfl (by kernel_rfl) (fun _ _ _ h => h) rfl (fun w' hw => X.move (by conv => lhs; whnf)) hS ?_
  refine D.va 6 rfl (by kernel_rfl) (fun _ _ _ h => h) rfl (fun w' hw => (by first | exact X.index1n rfl rfl Tryz.underlying44 sz_3 (by first | exact Option.some_ne_none _ | exact hA) (by omega) | exact X.index1 rfl rfl Tryz.underlying44 sz_3 (by first | exact Option.some_ne_none _ | exact hA) (by omega))) hS ?_
  refine D.va 8 rfl (by kernel_rfl) (fun _ _ _ h => h) rfl (fun w' hw => X.move (by conv => lhs; whnf)) hS ?_
  refine D.va 9 rfl (by kernel_rfl) (fun _ _ _ h => h) rfl (fun w' hw => X.move (by conv => lhs; whnf)) hS ?_
  refine D.va 10 rfl (by kernel_rfl) (fun _ _ _ h => h) rfl (fun w' hw => (by first | exact X.index1n rfl rfl Tryz.underlying44 sz_3 (by first | exact Option.some_ne_none _ | exact hA) (by omega) | exact X.index1 rfl rfl Tryz.underlying44 sz_3 (by first | exact Option.some_ne_none _ | exact hA) (by omega))) hS ?_
  refine D.two 7 11 (by kernel_rfl) rfl rfl ?_ ?_
  ·refine L.va rfl (X.load rfl sc_3 (Ld.num hrw2 (j := p) (by omega))) ?_
   refine L.nil ?_
   refine ⟨fun _ => hS, ?_⟩
   refine D.one 11 (by kernel_rfl) rfl ?_
   refine L.va rfl (X.load rfl sc_3 (Ld.num hrw2 (j := a) (by omega))) ?_
   refine L.nil ?_
   refine ⟨fun _ => hS, ?_⟩
   refine D.va 12 rfl (by kernel_rfl) (fun _ _ _ h => h) rfl (fun w' hw => (by first | exact X.index1n rfl rfl Tryz.underlying44 sz_3 (by first | exact Option.some_ne_none _ | exact hA) (by omega) | exact X.index1 rfl rfl Tryz.underlying44 sz_3 (by first | exact Option.some_ne_none _ | exact hA) (by omega))) hS ?_
   refine D.one 13 (by kernel_rfl) rfl ?_
   refine L.storeON rfl rfl (by conv => lhs; whnf) sz_3 (hoX) (by omega) ?_
   intro w2 hoX hg2 hb2 hs2
   have hS1 := trivial
   refine L.nil ?_
   refine ⟨fun _ => hS1, ?_⟩
   replace hG := grb_trans hG hg2
   refine D.va 14 rfl (by kernel_rfl) (fun _ _ _ h => h) rfl (fun w' hw => (by first | exact X.index1n rfl rfl Tryz.underlying44 sz_3 (by first | exact Option.some_ne_none _ | exact hA) (by omega) | exact X.index1 rfl rfl Tryz.underlying44 sz_3 (by first | exact Option.some_ne_none _ | exact hA) (by omega))) hS1 ?_
   refine D.one 15 (by kernel_rfl) rfl ?_
   refine L.storeON rfl rfl (by conv => lhs; whnf) sz_3 (hoX) (by omega) ?_
   intro w2 hoX hg2 hb2 hs2
   have hS2 := trivial
   refine L.nil ?_
   refine ⟨fun _ => hS2, ?_⟩
   replace hG := grb_trans hG hg2
   refine D.done (by kernel_rfl) ?_
   refine ⟨swp l a p, At1 (by first | rfl | exact at_int rfl (by omega) | exact at_slice rfl (by omega) | exact at_int rfl (by simp)), (by (iterate 14 refine Agr.lk rfl ?_); exact Agr.rfl'), ?_⟩
   exact ⟨hoX, hG, .step (.refl _) ⟨by omega, by omega⟩ hp (by omega)⟩
  ·refine L.va rfl (X.load rfl sc_3 (Ld.num hrw2 (j := a) (by omega))) ?_
   refine L.nil ?_
   refine ⟨fun _ => hS, ?_⟩
   refine D.one 7 (by kernel_rfl) rfl ?_
   refine L.va rfl (X.load rfl sc_3 (Ld.num hrw2 (j := p) (by omega))) ?_
   refine L.nil ?_
   refine ⟨fun _ => hS, ?_⟩
   refine D.va 12 rfl (by kernel_rfl) (fun _ _ _ h => h) rfl (fun w' hw => (by first | exact X.index1n rfl rfl Tryz.underlying44 sz_3 (by first | exact Option.some_ne_none _ | exact hA) (by omega) | exact X.index1 rfl rfl Tryz.underlying44 sz_3 (by first | exact Option.some_ne_none _ | exact hA) (by omega))) hS ?_
   refine D.one 13 (by kernel_rfl) rfl ?_
   refine L.storeON rfl rfl (by conv => lhs; whnf) sz_3 (hoX) (by omega) ?_
   intro w2 hoX hg2 hb2 hs2
   have hS1 := trivial
   refine L.nil ?_
   refine ⟨fun _ => hS1, ?_⟩
   replace hG := grb_trans hG hg2
   refine D.va 14 rfl (by kernel_rfl) (fun _ _ _ h => h) rfl (fun w' hw => (by first | exact X.index1n rfl rfl Tryz.underlying44 sz_3 (by first | exact Option.some_ne_none _ | exact hA) (by omega) | exact X.index1 rfl rfl Tryz.underlying44 sz_3 (by first | exact Option.some_ne_none _ | exact hA) (by omega))) hS1 ?_
   refine D.one 15 (by kernel_rfl) rfl ?_
   refine L.storeON rfl rfl (by conv => lhs; whnf) sz_3 (hoX) (by omega) ?_
   intro w2 hoX hg2 hb2 hs2
   have hS2 := trivial
   refine L.nil ?_
   refine ⟨fun _ => hS2, ?_⟩
   replace hG := grb_trans hG hg2
   refine D.done (by kernel_rfl) ?_
   refine ⟨swp l a p, At1 (by first | rfl | exact at_int rfl (by omega) | exact at_slice rfl (by omega) | exact at_int rfl (by simp)), (by (iterate 14 refine Agr.lk rfl ?_); exact Agr.rfl'), ?_⟩
   exact ⟨hoX, hG, .step (.refl _) ⟨by omega, by omega⟩ hp (by omega)⟩
 ·rintro m g w2 M
  have hml : m.length = n := by rw [M.p.len, hl]
  have HP : Pt (· < ·) (fun x y => y ≤ x) m a b i j := ⟨by omega, by omega, by omega, (fun k k1 k2 => by omega), (fun k k1 k2 => by omega)⟩
  have HO := M.o
  refine J.seq ?_
  refine J.region ?_
  refine L.va rfl (X.move (by conv => lhs; whnf)) ?_
  refine L.va rfl (X.add rfl rfl (by omega)) ?_
  refine L.va rfl (X.move (by conv => lhs; whnf)) ?_
  refine L.va rfl (X.sub rfl rfl (by omega)) ?_
  iterate 2 refine L.va rfl (X.assign (by conv => lhs; whnf)) ?_
  refine L.nil ?_
  rw [e0, e1]
  obtain ⟨io, hio⟩ : ∃ io, io = i := ⟨_, rfl⟩
  refine J.cut (X := Nat) [10, 30, 31, 32, 33, 34, 35, 36, 37, 38, 39, 40, 41, 42, 43, 44, 45] (fun i => [(10, .int .i64 (i : Int))]) (fun i w' => Pt (· < ·) (fun x y => y ≤ x) m a b i j ∧ (i ≤ j → ¬ m.getD i 0 < m.getD a 0) ∧ io ≤ i ∧ Ext w2 w') ?_ ?_
  ·refine J.block ?_
   refine J.loop (X := Nat) [10, 30, 31, 32, 33, 34, 35, 36, 37, 38, 39, 40, 41, 42, 43, 44, 45] (fun i => [(10, .int .i64 (i : Int))]) (fun i w' => Pt (· < ·) (fun x y => y ≤ x) m a b i j ∧ io ≤ i ∧ Ext w2 w') (fun i => j + 1 - i) (i) (At1 (by first | rfl | exact at_int rfl (by omega) | exact at_slice rfl (by omega) | exact at_int rfl (by simp))) ?_ ?_
   ·exact ⟨HP, by omega, Ext.refl _⟩
   ·rintro i g w4 ⟨HP, hbd, he⟩
    have h1 := HP.ai
    have h2 := HP.ij
    have h3 := HP.jb
    have hr := Reads.of_own (HO.ext he)
    have hA := hr.some_ (by omega)
    iterate 2 refine J.seq ?_
    refine J.quiet mixed (by kernel_rfl) ?_
    iterate 2 refine Qt.va rfl (fun w' hw => X.move (by conv => lhs; whnf)) ?_
    refine Qt.va rfl (fun w' hw => X.leq rfl rfl) ?_
    refine Qt.va rfl (fun w' hw => X.move (by conv => lhs; whnf)) ?_
    refine Qt.caseDec (k := 33) rfl (fun hij => ?_) (fun hij => ?_)
    ·refine Qt.va rfl (fun w' hw => X.move (by conv => lhs; whnf)) ?_
     refine Qt.va rfl (fun w' hw => X.move (by conv => lhs; whnf)) ?_
     refine Qt.va rfl (fun w' hw => (by first | exact X.index1n rfl rfl Tryz.underlying44 sz_3 (by first | exact Option.some_ne_none _ | exact hr.some_ (by omega) | exact hA) (by omega) | exact X.index1 rfl rfl Tryz.underlying44 sz_3 (by first | exact Option.some_ne_none _ | exact hr.some_ (by omega) | exact hA) (by omega))) ?_
     refine Qt.va rfl (fun w' hw => X.load rfl sc_3 (by first | exact Ld.num (hr.ext hw) (by omega) | exact hA)) ?_
     iterate 2 refine Qt.va rfl (fun w' hw => X.move (by conv => lhs; whnf)) ?_
     refine Qt.va rfl (fun w' hw => (by first | exact X.index1n rfl rfl Tryz.underlying44 sz_3 (by first | exact Option.some_ne_none _ | exact hr.some_ (by omega) | exact hA) (by omega) | exact X.index1 rfl rfl Tryz.underlying44 sz_3 (by first | exact Option.some_ne_none _ | exact hr.some_ (by omega) | exact hA) (by omega))) ?_
     refine Qt.va rfl (fun w' hw => X.load rfl sc_3 (by first | exact Ld.num (hr.ext hw) (by omega) | exact hA)) ?_
     refine Qt.call rfl en_93 rfl (fun w' hw => calls_same hw (clessI (m.getD i 0) (m.getD a 0) w')) ?_
     refine Qt.va rfl (fun w' hw => X.pickT rfl (by conv => lhs; whnf)) ?_
     refine Qt.nil (fun w5 hq => ?_)
     by_cases hd : m.getD i 0 < m.getD a 0
     ·rw [show decide (m.getD i 0 < m.getD a 0) = true from decide_eq_true (by omega)]
      refine J.iteT rfl ?_
      refine J.skip ?_
      refine J.block ?_
      refine J.region ?_
      refine L.va rfl (X.move (by conv => lhs; whnf)) ?_
      refine L.va rfl (X.add rfl rfl (by omega)) ?_
      refine L.va rfl (X.assign (by conv => lhs; whnf)) ?_
      refine L.nil ?_
      refine ⟨i + 1, At1 (by first | rfl | exact at_int rfl (by omega) | exact at_slice rfl (by omega) | exact at_int rfl (by simp)), (by (iterate 18 refine Agr.lk rfl ?_); exact Agr.lk rfl (Agr.hav rfl Agr.rfl')), ?_⟩
      exact ⟨⟨⟨by omega, by omega, h3, fun k k1 k2 => by
       rcases Nat.lt_or_ge k i with h | h
       ·exact HP.le k k1 h
       ·obtain rfl : k = i := by omega
        exact hd, HP.ri⟩, by omega, he.trans hq⟩, by omega⟩
     ·rw [show decide (m.getD i 0 < m.getD a 0) = false from decide_eq_false (by omega)]
      refine J.iteF rfl ?_
      refine J.exit ?_
      refine ⟨i, At1 (by first | rfl | exact at_int rfl (by omega) | exact at_slice rfl (by omega) | exact at_int rfl (by simp)), (by (iterate 15 refine Agr.lk rfl ?_); refine Agr.lk rfl ?_; refine Agr.hav rfl ?_; exact Agr.rfl'), ?_⟩
      exact ⟨HP, (fun _ => hd), hbd, he.trans hq⟩
    ·skip
     iterate 9 refine Qt.no rfl ?_
     refine Qt.va rfl (fun w' hw => X.pickF rfl (by conv => lhs; whnf)) ?_
     refine Qt.nil (fun w5 hq => ?_)
     refine J.iteF rfl ?_
     refine J.exit ?_
     refine ⟨i, At1 (by first | rfl | exact at_int rfl (by omega) | exact at_slice rfl (by omega) | exact at_int rfl (by simp)), (by (iterate 15 refine Agr.lk rfl ?_); refine Agr.lk rfl ?_; refine Agr.hav rfl ?_; exact Agr.rfl'), ?_⟩
     exact ⟨HP, (fun h => absurd h (by omega)), hbd, he.trans hq⟩
  ·rintro i g w6 ⟨HP, hi, hio2, he6⟩
   replace HO := HO.ext he6
   have hG6 : w.grownBy w6 (Value.ownBlock (.slice A n c)) := grb_trans M.g (grown_ext he6)
   obtain ⟨jo, hjo⟩ : ∃ jo, jo = j := ⟨_, rfl⟩
   rw [← hjo] at hi
   refine J.cut (X := Nat) [11, 46, 47, 48, 49, 50, 51, 52, 53, 54, 55, 56, 57, 58, 59, 60, 61, 62] (fun j => [(11, .int .i64 (j : Int))]) (fun j w' => Pt (· < ·) (fun x y => y ≤ x) m a b i j ∧ (i ≤ j → ¬ m.getD a 0 ≤ m.getD j 0) ∧ j ≤ jo ∧ Ext w6 w') ?_ ?_
   ·refine J.block ?_
    refine J.loop (X := Nat) [11, 46, 47, 48, 49, 50, 51, 52, 53, 54, 55, 56, 57, 58, 59, 60, 61, 62] (fun j => [(11, .int .i64 (j : Int))]) (fun j w' => Pt (· < ·) (fun x y => y ≤ x) m a b i j ∧ j ≤ jo ∧ Ext w6 w') (fun j => j) (j) (At1 (by first | rfl | exact at_int rfl (by omega) | exact at_slice rfl (by omega) | exact at_int rfl (by simp))) ?_ ?_
    ·exact ⟨HP, by omega, Ext.refl _⟩
    ·rintro j g w7 ⟨HP, hbd, he⟩
     have h1 := HP.ai
     have h2 := HP.ij
     have h3 := HP.jb
     have hr := Reads.of_own (HO.ext he)
     have hA := hr.some_ (by omega)
     iterate 2 refine J.seq ?_
     refine J.quiet mixed (by kernel_rfl) ?_
     iterate 2 refine Qt.va rfl (fun w' hw => X.move (by conv => lhs; whnf)) ?_
     refine Qt.va rfl (fun w' hw => X.leq rfl rfl) ?_
     refine Qt.va rfl (fun w' hw => X.move (by conv => lhs; whnf)) ?_
     refine Qt.caseDec (k := 49) rfl (fun hij => ?_) (fun hij => ?_)
     ·refine Qt.va rfl (fun w' hw => X.move (by conv => lhs; whnf)) ?_
      refine Qt.va rfl (fun w' hw => X.move (by conv => lhs; whnf)) ?_
      refine Qt.va rfl (fun w' hw => (by first | exact X.index1n rfl rfl Tryz.underlying44 sz_3 (by first | exact Option.some_ne_none _ | exact hr.some_ (by omega) | exact hA) (by omega) | exact X.index1 rfl rfl Tryz.underlying44 sz_3 (by first | exact Option.some_ne_none _ | exact hr.some_ (by omega) | exact hA) (by omega))) ?_
      refine Qt.va rfl (fun w' hw => X.load rfl sc_3 (by first | exact Ld.num (hr.ext hw) (by omega) | exact hA)) ?_
      iterate 2 refine Qt.va rfl (fun w' hw => X.move (by conv => lhs; whnf)) ?_
      refine Qt.va rfl (fun w' hw => (by first | exact X.index1n rfl rfl Tryz.underlying44 sz_3 (by first | exact Option.some_ne_none _ | exact hr.some_ (by omega) | exact hA) (by omega) | exact X.index1 rfl rfl Tryz.underlying44 sz_3 (by first | exact Option.some_ne_none _ | exact hr.some_ (by omega) | exact hA) (by omega))) ?_
      refine Qt.va rfl (fun w' hw => X.load rfl sc_3 (by first | exact Ld.num (hr.ext hw) (by omega) | exact hA)) ?_
      refine Qt.call rfl en_93 rfl (fun w' hw => calls_same hw (clessI (m.getD j 0) (m.getD a 0) w')) ?_
      refine Qt.va rfl (fun w' hw => X.not rfl) ?_
      refine Qt.va rfl (fun w' hw => X.pickT rfl (by conv => lhs; whnf)) ?_
      refine Qt.nil (fun w8 hq => ?_)
      by_cases hd : m.getD a 0 ≤ m.getD j 0
      ·rw [show decide (m.getD j 0 < m.getD a 0) = false from decide_eq_false (by omega)]
       refine J.iteT rfl ?_
       refine J.skip ?_
       refine J.block ?_
       refine J.region ?_
       refine L.va rfl (X.move (by conv => lhs; whnf)) ?_
       refine L.va rfl (X.sub rfl rfl (by omega)) ?_
       refine L.va rfl (X.assign (by conv => lhs; whnf)) ?_
       refine L.nil ?_
       obtain ⟨j', rfl⟩ : ∃ j', j = j' + 1 := ⟨j - 1, by omega⟩
       refine ⟨j', At1 (by first | rfl | exact at_int rfl (by omega) | exact at_slice rfl (by omega) | exact at_int rfl (by simp)), (by (iterate 19 refine Agr.lk rfl ?_); exact Agr.lk rfl (Agr.hav rfl Agr.rfl')), ?_⟩
       exact ⟨⟨⟨h1, by omega, by omega, HP.le, fun k k1 k2 => by
        rcases Nat.lt_or_ge (j' + 1) k with h | h
        ·exact HP.ri k h k2
        ·obtain rfl : k = j' + 1 := by omega
         exact hd⟩, by omega, he.trans hq⟩, by omega⟩
      ·rw [show decide (m.getD j 0 < m.getD a 0) = true from decide_eq_true (by omega)]
       refine J.iteF rfl ?_
       refine J.exit ?_
       refine ⟨j, At1 (by first | rfl | exact at_int rfl (by omega) | exact at_slice rfl (by omega) | exact at_int rfl (by simp)), (by (iterate 16 refine Agr.lk rfl ?_); refine Agr.lk rfl ?_; refine Agr.hav rfl ?_; exact Agr.rfl'), ?_⟩
       exact ⟨HP, (fun _ => hd), hbd, he.trans hq⟩
     ·skip
      iterate 10 refine Qt.no rfl ?_
      refine Qt.va rfl (fun w' hw => X.pickF rfl (by conv => lhs; whnf)) ?_
      refine Qt.nil (fun w8 hq => ?_)
      refine J.iteF rfl ?_
      refine J.exit ?_
      refine ⟨j, At1 (by first | rfl | exact at_int rfl (by omega) | exact at_slice rfl (by omega) | exact at_int rfl (by simp)), (by (iterate 16 refine Agr.lk rfl ?_); refine Agr.lk rfl ?_; refine Agr.hav rfl ?_; exact Agr.rfl'), ?_⟩
      exact ⟨HP, (fun h => absurd h (by omega)), hbd, he.trans hq⟩
   ·rintro j g w9 ⟨HP, hj, hjo2, he9⟩
    replace HO := HO.ext he9
    have hG9 := grb_trans hG6 (grown_ext he9)
    have h1 := HP.ai
    have h2 := HP.ij
    have h3 := HP.jb
    iterate 2 refine J.seq ?_
    refine J.region ?_
    iterate 2 refine L.va rfl (X.move (by conv => lhs; whnf)) ?_
    refine L.va rfl (X.gtr rfl rfl) ?_
    refine L.nil ?_
    refine J.dec rfl (fun hgt => ?_) (fun hgt => ?_)
    ·have hd := HP.done (by omega) (by omega)
     refine J.seq ?_
     refine J.draw (ℓ := 1000000) (S := (fun _ => True)) mixed (fun w12d hSE hS_h => ?_)
     have hS : ((fun _ => True)) w12d := trivial
     have hrw12 := (Reads.of_own HO).ext hSE
     have hoX := HO.ext hSE
     have hG : w9.grownBy w12d (Value.ownBlock (.slice A n c)) := grown_ext hSE
     refine D.va 0 rfl (by kernel_rfl) (fun _ _ _ h => h) rfl (fun w' hw => X.move (by conv => lhs; whnf)) hS ?_
     refine D.va 1 rfl (by kernel_rfl) (fun _ _ _ h => h) rfl (fun w' hw => X.move (by conv => lhs; whnf)) hS ?_
     refine D.va 2 rfl (by kernel_rfl) (fun _ _ _ h => h) rfl (fun w' hw => X.move (by conv => lhs; whnf)) hS ?_
     refine D.va 3 rfl (by kernel_rfl) (fun _ _ _ h => h) rfl (fun w' hw => X.move (by conv => lhs; whnf)) hS ?_
     refine D.va 4 rfl (by kernel_rfl) (fun _ _ _ h => h) rfl (fun w' hw => X.move (by conv => lhs; whnf)) hS ?_
     refine D.va 5 rfl (by kernel_rfl) (fun _ _ _ h => h) rfl (fun w' hw => X.move (by conv => lhs; whnf)) hS ?_
     refine D.va 6 rfl (by kernel_rfl) (fun _ _ _ h => h) rfl (fun w' hw => (by first | exact X.index1n rfl rfl Tryz.underlying44 sz_3 (by first | exact Option.some_ne_none _ | exact hA) (by omega) | exact X.index1 rfl rfl Tryz.underlying44 sz_3 (by first | exact Option.some_ne_none _ | exact hA) (by omega))) hS ?_
     refine D.va 8 rfl (by kernel_rfl) (fun _ _ _ h => h) rfl (fun w' hw => X.move (by conv => lhs; whnf)) hS ?_
     refine D.va 9 rfl (by kernel_rfl) (fun _ _ _ h => h) rfl (fun w' hw => X.move (by conv => lhs; whnf)) hS ?_
     refine D.va 10 rfl (by kernel_rfl) (fun _ _ _ h => h) rfl (fun w' hw => (by first | exact X.index1n rfl rfl Tryz.underlying44 sz_3 (by first | exact Option.some_ne_none _ | exact hA) (by omega) | exact X.index1 rfl rfl Tryz.underlying44 sz_3 (by first | exact Option.some_ne_none _ | exact hA) (by omega))) hS ?_
     refine D.two 7 11 (by kernel_rfl) rfl rfl ?_ ?_
     ·refine L.va rfl (X.load rfl sc_3 (Ld.num hrw12 (j := a) (by omega))) ?_
      refine L.nil ?_
      refine ⟨fun _ => hS, ?_⟩
      refine D.one 11 (by kernel_rfl) rfl ?_
      refine L.va rfl (X.load rfl sc_3 (Ld.num hrw12 (j := j) (by omega))) ?_
      refine L.nil ?_
      refine ⟨fun _ => hS, ?_⟩
      refine D.va 12 rfl (by kernel_rfl) (fun _ _ _ h => h) rfl (fun w' hw => (by first | exact X.index1n rfl rfl Tryz.underlying44 sz_3 (by first | exact Option.some_ne_none _ | exact hA) (by omega) | exact X.index1 rfl rfl Tryz.underlying44 sz_3 (by first | exact Option.some_ne_none _ | exact hA) (by omega))) hS ?_
      refine D.one 13 (by kernel_rfl) rfl ?_
      refine L.storeON rfl rfl (by conv => lhs; whnf) sz_3 (hoX) (by omega) ?_
      intro w12 hoX hg2 hb2 hs2
      have hS1 := trivial
      refine L.nil ?_
      refine ⟨fun _ => hS1, ?_⟩
      replace hG := grb_trans hG hg2
      refine D.va 14 rfl (by kernel_rfl) (fun _ _ _ h => h) rfl (fun w' hw => (by first | exact X.index1n rfl rfl Tryz.underlying44 sz_3 (by first | exact Option.some_ne_none _ | exact hA) (by omega) | exact X.index1 rfl rfl Tryz.underlying44 sz_3 (by first | exact Option.some_ne_none _ | exact hA) (by omega))) hS1 ?_
      refine D.one 15 (by kernel_rfl) rfl ?_
      refine L.storeON rfl rfl (by conv => lhs; whnf) sz_3 (hoX) (by omega) ?_
      intro w12 hoX hg2 hb2 hs2
      have hS2 := trivial
      refine L.nil ?_
      refine ⟨fun _ => hS2, ?_⟩
      replace hG := grb_trans hG hg2
      refine D.done (by kernel_rfl) ?_
      refine J.seq ?_
      refine J.region ?_
      refine L.va rfl (X.move (by conv => lhs; whnf)) ?_
      iterate 2 refine L.va rfl (X.assign (by conv => lhs; whnf)) ?_
      refine L.nil ?_
      refine J.ret ?_
      refine thn_ret <| ?_
      refine fin2 ?_
      exact ⟨swp m j a, j, true, rfl, ⟨hoX, grb_trans hG9 hG, .step M.p ⟨by omega, by omega⟩ ⟨by omega, by omega⟩ (by omega)⟩, by omega, by omega, hd.1, hd.2⟩
     ·refine L.va rfl (X.load rfl sc_3 (Ld.num hrw12 (j := j) (by omega))) ?_
      refine L.nil ?_
      refine ⟨fun _ => hS, ?_⟩
      refine D.one 7 (by kernel_rfl) rfl ?_
      refine L.va rfl (X.load rfl sc_3 (Ld.num hrw12 (j := a) (by omega))) ?_
      refine L.nil ?_
      refine ⟨fun _ => hS, ?_⟩
      refine D.va 12 rfl (by kernel_rfl) (fun _ _ _ h => h) rfl (fun w' hw => (by first | exact X.index1n rfl rfl Tryz.underlying44 sz_3 (by first | exact Option.some_ne_none _ | exact hA) (by omega) | exact X.index1 rfl rfl Tryz.underlying44 sz_3 (by first | exact Option.some_ne_none _ | exact hA) (by omega))) hS ?_
      refine D.one 13 (by kernel_rfl) rfl ?_
      refine L.storeON rfl rfl (by conv => lhs; whnf) sz_3 (hoX) (by omega) ?_
      intro w12 hoX hg2 hb2 hs2
      have hS1 := trivial
      refine L.nil ?_
      refine ⟨fun _ => hS1, ?_⟩
      replace hG := grb_trans hG hg2
      refine D.va 14 rfl (by kernel_rfl) (fun _ _ _ h => h) rfl (fun w' hw => (by first | exact X.index1n rfl rfl Tryz.underlying44 sz_3 (by first | exact Option.some_ne_none _ | exact hA) (by omega) | exact X.index1 rfl rfl Tryz.underlying44 sz_3 (by first | exact Option.some_ne_none _ | exact hA) (by omega))) hS1 ?_
      refine D.one 15 (by kernel_rfl) rfl ?_
      refine L.storeON rfl rfl (by conv => lhs; whnf) sz_3 (hoX) (by omega) ?_
      intro w12 hoX hg2 hb2 hs2
      have hS2 := trivial
      refine L.nil ?_
      refine ⟨fun _ => hS2, ?_⟩
      replace hG := grb_trans hG hg2
      refine D.done (by kernel_rfl) ?_
      refine J.seq ?_
      refine J.region ?_
      refine L.va rfl (X.move (by conv => lhs; whnf)) ?_
      iterate 2 refine L.va rfl (X.assign (by conv => lhs; whnf)) ?_
      refine L.nil ?_
      refine J.ret ?_
      refine thn_ret <| ?_
      refine fin2 ?_
      exact ⟨swp m j a, j, true, rfl, ⟨hoX, grb_trans hG9 hG, .step M.p ⟨by omega, by omega⟩ ⟨by omega, by omega⟩ (by omega)⟩, by omega, by omega, hd.1, hd.2⟩
    ·have hi' := hi (by omega)
     have hj' := hj (by omega)
     have hne : i ≠ j := fun e => by subst e; omega
     obtain ⟨j, rfl⟩ : ∃ j', j = j' + 1 := ⟨j - 1, by omega⟩
     have ej : ((j + 1 : Nat) : Int) - 1 = (j : Int) := by omega
     refine J.skip ?_
     refine J.seq ?_
     refine J.draw (ℓ := 1000000) (S := (fun _ => True)) mixed (fun w12d hSE hS_h => ?_)
     have hS : ((fun _ => True)) w12d := trivial
     have hrw12 := (Reads.of_own HO).ext hSE
     have hoX := HO.ext hSE
     have hG : w9.grownBy w12d (Value.ownBlock (.slice A n c)) := grown_ext hSE
     refine D.va 0 rfl (by kernel_rfl) (fun _ _ _ h => h) rfl (fun w' hw => X.move (by conv => lhs; whnf)) hS ?_
     refine D.va 1 rfl (by kernel_rfl) (fun _ _ _ h => h) rfl (fun w' hw => X.move (by conv => lhs; whnf)) hS ?_
     refine D.va 2 rfl (by kernel_rfl) (fun _ _ _ h => h) rfl (fun w' hw => X.move (by conv => lhs; whnf)) hS ?_
     refine D.va 3 rfl (by kernel_rfl) (fun _ _ _ h => h) rfl (fun w' hw => X.move (by conv => lhs; whnf)) hS ?_
     refine D.va 4 rfl (by kernel_rfl) (fun _ _ _ h => h) rfl (fun w' hw => X.move (by conv => lhs; whnf)) hS ?_
     refine D.va 5 rfl (by kernel_rfl) (fun _ _ _ h => h) rfl (fun w' hw => X.move (by conv => lhs; whnf)) hS ?_
     refine D.va 6 rfl (by kernel_rfl) (fun _ _ _ h => h) rfl (fun w' hw => (by first | exact X.index1n rfl rfl Tryz.underlying44 sz_3 (by first | exact Option.some_ne_none _ | exact hA) (by omega) | exact X.index1 rfl rfl Tryz.underlying44 sz_3 (by first | exact Option.some_ne_none _ | exact hA) (by omega))) hS ?_
     refine D.va 8 rfl (by kernel_rfl) (fun _ _ _ h => h) rfl (fun w' hw => X.move (by conv => lhs; whnf)) hS ?_
     refine D.va 9 rfl (by kernel_rfl) (fun _ _ _ h => h) rfl (fun w' hw => X.move (by conv => lhs; whnf)) hS ?_
     refine D.va 10 rfl (by kernel_rfl) (fun _ _ _ h => h) rfl (fun w' hw => (by first | exact X.index1n rfl rfl Tryz.underlying44 sz_3 (by first | exact Option.some_ne_none _ | exact hA) (by omega) | exact X.index1 rfl rfl Tryz.underlying44 sz_3 (by first | exact Option.some_ne_none _ | exact hA) (by omega))) hS ?_
     refine D.two 7 11 (by kernel_rfl) rfl rfl ?_ ?_
     ·refine L.va rfl (X.load rfl sc_3 (Ld.num hrw12 (j := j + 1) (by omega))) ?_
      refine L.nil ?_
      refine ⟨fun _ => hS, ?_⟩
      refine D.one 11 (by kernel_rfl) rfl ?_
      refine L.va rfl (X.load rfl sc_3 (Ld.num hrw12 (j := i) (by omega))) ?_
      refine L.nil ?_
      refine ⟨fun _ => hS, ?_⟩
      refine D.va 12 rfl (by kernel_rfl) (fun _ _ _ h => h) rfl (fun w' hw => (by first | exact X.index1n rfl rfl Tryz.underlying44 sz_3 (by first | exact Option.some_ne_none _ | exact hA) (by omega) | exact X.index1 rfl rfl Tryz.underlying44 sz_3 (by first | exact Option.some_ne_none _ | exact hA) (by omega))) hS ?_
      refine D.one 13 (by kernel_rfl) rfl ?_
      refine L.storeON rfl rfl (by conv => lhs; whnf) sz_3 (hoX) (by omega) ?_
      intro w12 hoX hg2 hb2 hs2
      have hS1 := trivial
      refine L.nil ?_
      refine ⟨fun _ => hS1, ?_⟩
      replace hG := grb_trans hG hg2
      refine D.va 14 rfl (by kernel_rfl) (fun _ _ _ h => h) rfl (fun w' hw => (by first | exact X.index1n rfl rfl Tryz.underlying44 sz_3 (by first | exact Option.some_ne_none _ | exact hA) (by omega) | exact X.index1 rfl rfl Tryz.underlying44 sz_3 (by first | exact Option.some_ne_none _ | exact hA) (by omega))) hS1 ?_
      refine D.one 15 (by kernel_rfl) rfl ?_
      refine L.storeON rfl rfl (by conv => lhs; whnf) sz_3 (hoX) (by omega) ?_
      intro w12 hoX hg2 hb2 hs2
      have hS2 := trivial
      refine L.nil ?_
      refine ⟨fun _ => hS2, ?_⟩
      replace hG := grb_trans hG hg2
      refine D.done (by kernel_rfl) ?_
      refine J.seq ?_
      refine J.region ?_
      refine L.va rfl (X.move (by conv => lhs; whnf)) ?_
      refine L.va rfl (X.add rfl rfl (by omega)) ?_
      refine L.va rfl (X.assign (by conv => lhs; whnf)) ?_
      refine L.nil ?_
      refine J.seq ?_
      refine J.region ?_
      refine L.va rfl (X.move (by conv => lhs; whnf)) ?_
      refine L.va rfl (X.sub rfl rfl (by omega)) ?_
      refine L.va rfl (X.assign (by conv => lhs; whnf)) ?_
      refine L.nil ?_
      refine J.seq ?_
      refine J.block ?_
      have M2 : SwI w w12 A n c N a b l (swp m i (j + 1)) := ⟨hoX, grb_trans hG9 hG, .step M.p ⟨by omega, by omega⟩ ⟨by omega, by omega⟩ (by omega)⟩
      have HP2 := HP.swap (by omega) (by omega) (by omega) (by omega)
      rw [ej]
      refine J.loop (X := Nat × Nat × List Int) [10, 11, 99, 100, 101, 102, 103, 104, 105, 106, 107, 108, 109, 110, 111, 112, 113, 114, 115, 116, 117, 118, 119, 120, 121, 122, 123, 124, 125, 126, 127, 128, 129, 130, 131, 132, 133, 134, 135, 136, 137, 138, 139, 140, 141, 142, 143, 144, 145, 146, 147, 148, 149, 150, 151, 152] (fun (i, j, m) => [(10, .int .i64 (i : Int)), (11, .int .i64 (j : Int))]) (fun (i, j, m) w' => SwI w w' A n c N a b l m ∧ Pt (· < ·) (fun x y => y ≤ x) m a b i j) (fun (i, j, _) => j + 1 - i) ((i + 1, j, swp m i (j + 1))) (At2 (by first | rfl | exact at_int rfl (by omega) | exact at_slice rfl (by omega) | exact at_int rfl (by simp)) (by first | rfl | exact at_int rfl (by omega) | exact at_slice rfl (by omega) | exact at_int rfl (by simp))) ?_ ?_
      ·exact ⟨M2, HP2⟩
      ·rintro ⟨i, j, m⟩ g w13 ⟨M, HP⟩
       have hml : m.length = n := by rw [M.p.len, hl]
       have HO := M.o
       obtain ⟨io, hio⟩ : ∃ io, io = i := ⟨_, rfl⟩
       refine J.block ?_
       refine J.cut (X := Nat) [10, 99, 100, 101, 102, 103, 104, 105, 106, 107, 108, 109, 110, 111, 112, 113, 114] (fun i => [(10, .int .i64 (i : Int))]) (fun i w' => Pt (· < ·) (fun x y => y ≤ x) m a b i j ∧ (i ≤ j → ¬ m.getD i 0 < m.getD a 0) ∧ io ≤ i ∧ Ext w13 w') ?_ ?_
       ·refine J.block ?_
        refine J.loop (X := Nat) [10, 99, 100, 101, 102, 103, 104, 105, 106, 107, 108, 109, 110, 111, 112, 113, 114] (fun i => [(10, .int .i64 (i : Int))]) (fun i w' => Pt (· < ·) (fun x y => y ≤ x) m a b i j ∧ io ≤ i ∧ Ext w13 w') (fun i => j + 1 - i) (i) (At1 (by first | rfl | exact at_int rfl (by omega) | exact at_slice rfl (by omega) | exact at_int rfl (by simp))) ?_ ?_
        ·exact ⟨HP, by omega, Ext.refl _⟩
        ·rintro i g w14 ⟨HP, hbd, he⟩
         have h1 := HP.ai
         have h2 := HP.ij
         have h3 := HP.jb
         have hr := Reads.of_own (HO.ext he)
         have hA := hr.some_ (by omega)
         iterate 2 refine J.seq ?_
         refine J.quiet mixed (by kernel_rfl) ?_
         iterate 2 refine Qt.va rfl (fun w' hw => X.move (by conv => lhs; whnf)) ?_
         refine Qt.va rfl (fun w' hw => X.leq rfl rfl) ?_
         refine Qt.va rfl (fun w' hw => X.move (by conv => lhs; whnf)) ?_
         refine Qt.caseDec (k := 102) rfl (fun hij => ?_) (fun hij => ?_)
         ·refine Qt.va rfl (fun w' hw => X.move (by conv => lhs; whnf)) ?_
          refine Qt.va rfl (fun w' hw => X.move (by conv => lhs; whnf)) ?_
          refine Qt.va rfl (fun w' hw => (by first | exact X.index1n rfl rfl Tryz.underlying44 sz_3 (by first | exact Option.some_ne_none _ | exact hr.some_ (by omega) | exact hA) (by omega) | exact X.index1 rfl rfl Tryz.underlying44 sz_3 (by first | exact Option.some_ne_none _ | exact hr.some_ (by omega) | exact hA) (by omega))) ?_
          refine Qt.va rfl (fun w' hw => X.load rfl sc_3 (by first | exact Ld.num (hr.ext hw) (by omega) | exact hA)) ?_
          iterate 2 refine Qt.va rfl (fun w' hw => X.move (by conv => lhs; whnf)) ?_
          refine Qt.va rfl (fun w' hw => (by first | exact X.index1n rfl rfl Tryz.underlying44 sz_3 (by first | exact Option.some_ne_none _ | exact hr.some_ (by omega) | exact hA) (by omega) | exact X.index1 rfl rfl Tryz.underlying44 sz_3 (by first | exact Option.some_ne_none _ | exact hr.some_ (by omega) | exact hA) (by omega))) ?_
          refine Qt.va rfl (fun w' hw => X.load rfl sc_3 (by first | exact Ld.num (hr.ext hw) (by omega) | exact hA)) ?_
          refine Qt.call rfl en_93 rfl (fun w' hw => calls_same hw (clessI (m.getD i 0) (m.getD a 0) w')) ?_
          refine Qt.va rfl (fun w' hw => X.pickT rfl (by conv => lhs; whnf)) ?_
          refine Qt.nil (fun w15 hq => ?_)
          by_cases hd : m.getD i 0 < m.getD a 0
          ·rw [show decide (m.getD i 0 < m.getD a 0) = true from decide_eq_true (by omega)]
           refine J.iteT rfl ?_
           refine J.skip ?_
           refine J.block ?_
           refine J.region ?_
           refine L.va rfl (X.move (by conv => lhs; whnf)) ?_
           refine L.va rfl (X.add rfl rfl (by omega)) ?_
           refine L.va rfl (X.assign (by conv => lhs; whnf)) ?_
           refine L.nil ?_
           refine ⟨i + 1, At1 (by first | rfl | exact at_int rfl (by omega) | exact at_slice rfl (by omega) | exact at_int rfl (by simp)), (by (iterate 18 refine Agr.lk rfl ?_); exact Agr.lk rfl (Agr.hav rfl Agr.rfl')), ?_⟩
           exact ⟨⟨⟨by omega, by omega, h3, fun k k1 k2 => by
            rcases Nat.lt_or_ge k i with h | h
            ·exact HP.le k k1 h
            ·obtain rfl : k = i := by omega
             exact hd, HP.ri⟩, by omega, he.trans hq⟩, by omega⟩
          ·rw [show decide (m.getD i 0 < m.getD a 0) = false from decide_eq_false (by omega)]
           refine J.iteF rfl ?_
           refine J.exit ?_
           refine ⟨i, At1 (by first | rfl | exact at_int rfl (by omega) | exact at_slice rfl (by omega) | exact at_int rfl (by simp)), (by (iterate 15 refine Agr.lk rfl ?_); refine Agr.lk rfl ?_; refine Agr.hav rfl ?_; exact Agr.rfl'), ?_⟩
           exact ⟨HP, (fun _ => hd), hbd, he.trans hq⟩
         ·skip
          iterate 9 refine Qt.no rfl ?_
          refine Qt.va rfl (fun w' hw => X.pickF rfl (by conv => lhs; whnf)) ?_
          refine Qt.nil (fun w15 hq => ?_)
          refine J.iteF rfl ?_
          refine J.exit ?_
          refine ⟨i, At1 (by first | rfl | exact at_int rfl (by omega) | exact at_slice rfl (by omega) | exact at_int rfl (by simp)), (by (iterate 15 refine Agr.lk rfl ?_); refine Agr.lk rfl ?_; refine Agr.hav rfl ?_; exact Agr.rfl'), ?_⟩
          exact ⟨HP, (fun h => absurd h (by omega)), hbd, he.trans hq⟩
       ·rintro i g w16 ⟨HP, hi, hio2, he16⟩
        replace HO := HO.ext he16
        have hG16 : w.grownBy w16 (Value.ownBlock (.slice A n c)) := grb_trans M.g (grown_ext he16)
        obtain ⟨jo, hjo⟩ : ∃ jo, jo = j := ⟨_, rfl⟩
        rw [← hjo] at hi
        refine J.cut (X := Nat) [11, 115, 116, 117, 118, 119, 120, 121, 122, 123, 124, 125, 126, 127, 128, 129, 130, 131] (fun j => [(11, .int .i64 (j : Int))]) (fun j w' => Pt (· < ·) (fun x y => y ≤ x) m a b i j ∧ (i ≤ j → ¬ m.getD a 0 ≤ m.getD j 0) ∧ j ≤ jo ∧ Ext w16 w') ?_ ?_
        ·refine J.block ?_
         refine J.loop (X := Nat) [11, 115, 116, 117, 118, 119, 120, 121, 122, 123, 124, 125, 126, 127, 128, 129, 130, 131] (fun j => [(11, .int .i64 (j : Int))]) (fun j w' => Pt (· < ·) (fun x y => y ≤ x) m a b i j ∧ j ≤ jo ∧ Ext w16 w') (fun j => j) (j) (At1 (by first | rfl | exact at_int rfl (by omega) | exact at_slice rfl (by omega) | exact at_int rfl (by simp))) ?_ ?_
         ·exact ⟨HP, by omega, Ext.refl _⟩
         ·rintro j g w17 ⟨HP, hbd, he⟩
          have h1 := HP.ai
          have h2 := HP.ij
          have h3 := HP.jb
          have hr := Reads.of_own (HO.ext he)
          have hA := hr.some_ (by omega)
          iterate 2 refine J.seq ?_
          refine J.quiet mixed (by kernel_rfl) ?_
          iterate 2 refine Qt.va rfl (fun w' hw => X.move (by conv => lhs; whnf)) ?_
          refine Qt.va rfl (fun w' hw => X.leq rfl rfl) ?_
          refine Qt.va rfl (fun w' hw => X.move (by conv => lhs; whnf)) ?_
          refine Qt.caseDec (k := 118) rfl (fun hij => ?_) (fun hij => ?_)
          ·refine Qt.va rfl (fun w' hw => X.move (by conv => lhs; whnf)) ?_
           refine Qt.va rfl (fun w' hw => X.move (by conv => lhs; whnf)) ?_
           refine Qt.va rfl (fun w' hw => (by first | exact X.index1n rfl rfl Tryz.underlying44 sz_3 (by first | exact Option.some_ne_none _ | exact hr.some_ (by omega) | exact hA) (by omega) | exact X.index1 rfl rfl Tryz.underlying44 sz_3 (by first | exact Option.some_ne_none _ | exact hr.some_ (by omega) | exact hA) (by omega))) ?_
           refine Qt.va rfl (fun w' hw => X.load rfl sc_3 (by first | exact Ld.num (hr.ext hw) (by omega) | exact hA)) ?_
           iterate 2 refine Qt.va rfl (fun w' hw => X.move (by conv => lhs; whnf)) ?_
           refine Qt.va rfl (fun w' hw => (by first | exact X.index1n rfl rfl Tryz.underlying44 sz_3 (by first | exact Option.some_ne_none _ | exact hr.some_ (by omega) | exact hA) (by omega) | exact X.index1 rfl rfl Tryz.underlying44 sz_3 (by first | exact Option.some_ne_none _ | exact hr.some_ (by omega) | exact hA) (by omega))) ?_
           refine Qt.va rfl (fun w' hw => X.load rfl sc_3 (by first | exact Ld.num (hr.ext hw) (by omega) | exact hA)) ?_
           refine Qt.call rfl en_93 rfl (fun w' hw => calls_same hw (clessI (m.getD j 0) (m.getD a 0) w')) ?_
           refine Qt.va rfl (fun w' hw => X.not rfl) ?_
           refine Qt.va rfl (fun w' hw => X.pickT rfl (by conv => lhs; whnf)) ?_
           refine Qt.nil (fun w18 hq => ?_)
           by_cases hd : m.getD a 0 ≤ m.getD j 0
           ·rw [show decide (m.getD j 0 < m.getD a 0) = false from decide_eq_false (by omega)]
            refine J.iteT rfl ?_
            refine J.skip ?_
            refine J.block ?_
            refine J.region ?_
            refine L.va rfl (X.move (by conv => lhs; whnf)) ?_
            refine L.va rfl (X.sub rfl rfl (by omega)) ?_
            refine L.va rfl (X.assign (by conv => lhs; whnf)) ?_
            refine L.nil ?_
            obtain ⟨j', rfl⟩ : ∃ j', j = j' + 1 := ⟨j - 1, by omega⟩
            refine ⟨j', At1 (by first | rfl | exact at_int rfl (by omega) | exact at_slice rfl (by omega) | exact at_int rfl (by simp)), (by (iterate 19 refine Agr.lk rfl ?_); exact Agr.lk rfl (Agr.hav rfl Agr.rfl')), ?_⟩
            exact ⟨⟨⟨h1, by omega, by omega, HP.le, fun k k1 k2 => by
             rcases Nat.lt_or_ge (j' + 1) k with h | h
             ·exact HP.ri k h k2
             ·obtain rfl : k = j' + 1 := by omega
              exact hd⟩, by omega, he.trans hq⟩, by omega⟩
           ·rw [show decide (m.getD j 0 < m.getD a 0) = true from decide_eq_true (by omega)]
            refine J.iteF rfl ?_
            refine J.exit ?_
            refine ⟨j, At1 (by first | rfl | exact at_int rfl (by omega) | exact at_slice rfl (by omega) | exact at_int rfl (by simp)), (by (iterate 16 refine Agr.lk rfl ?_); refine Agr.lk rfl ?_; refine Agr.hav rfl ?_; exact Agr.rfl'), ?_⟩
            exact ⟨HP, (fun _ => hd), hbd, he.trans hq⟩
          ·skip
           iterate 10 refine Qt.no rfl ?_
           refine Qt.va rfl (fun w' hw => X.pickF rfl (by conv => lhs; whnf)) ?_
           refine Qt.nil (fun w18 hq => ?_)
           refine J.iteF rfl ?_
           refine J.exit ?_
           refine ⟨j, At1 (by first | rfl | exact at_int rfl (by omega) | exact at_slice rfl (by omega) | exact at_int rfl (by simp)), (by (iterate 16 refine Agr.lk rfl ?_); refine Agr.lk rfl ?_; refine Agr.hav rfl ?_; exact Agr.rfl'), ?_⟩
           exact ⟨HP, (fun h => absurd h (by omega)), hbd, he.trans hq⟩
        ·rintro j g w19 ⟨HP, hj, hjo2, he19⟩
         replace HO := HO.ext he19
         have hG19 := grb_trans hG16 (grown_ext he19)
         have h1 := HP.ai
         have h2 := HP.ij
         have h3 := HP.jb
         iterate 2 refine J.seq ?_
         refine J.region ?_
         iterate 2 refine L.va rfl (X.move (by conv => lhs; whnf)) ?_
         refine L.va rfl (X.gtr rfl rfl) ?_
         refine L.nil ?_
         refine J.dec rfl (fun hgt => ?_) (fun hgt => ?_)
         ·have hd := HP.done (by omega) (by omega)
          refine J.exit ?_
          refine J.seq ?_
          refine J.draw (ℓ := 1000000) (S := (fun _ => True)) mixed (fun w22d hSE hS_h => ?_)
          have hS : ((fun _ => True)) w22d := trivial
          have hrw22 := (Reads.of_own HO).ext hSE
          have hoX := HO.ext hSE
          have hG : w19.grownBy w22d (Value.ownBlock (.slice A n c)) := grown_ext hSE
          refine D.va 0 rfl (by kernel_rfl) (fun _ _ _ h => h) rfl (fun w' hw => X.move (by conv => lhs; whnf)) hS ?_
          refine D.va 1 rfl (by kernel_rfl) (fun _ _ _ h => h) rfl (fun w' hw => X.move (by conv => lhs; whnf)) hS ?_
          refine D.va 2 rfl (by kernel_rfl) (fun _ _ _ h => h) rfl (fun w' hw => X.move (by conv => lhs; whnf)) hS ?_
          refine D.va 3 rfl (by kernel_rfl) (fun _ _ _ h => h) rfl (fun w' hw => X.move (by conv => lhs; whnf)) hS ?_
          refine D.va 4 rfl (by kernel_rfl) (fun _ _ _ h => h) rfl (fun w' hw => X.move (by conv => lhs; whnf)) hS ?_
          refine D.va 5 rfl (by kernel_rfl) (fun _ _ _ h => h) rfl (fun w' hw => X.move (by conv => lhs; whnf)) hS ?_
          refine D.va 6 rfl (by kernel_rfl) (fun _ _ _ h => h) rfl (fun w' hw => (by first | exact X.index1n rfl rfl Tryz.underlying44 sz_3 (by first | exact Option.some_ne_none _ | exact hA) (by omega) | exact X.index1 rfl rfl Tryz.underlying44 sz_3 (by first | exact Option.some_ne_none _ | exact hA) (by omega))) hS ?_
          refine D.va 8 rfl (by kernel_rfl) (fun _ _ _ h => h) rfl (fun w' hw => X.move (by conv => lhs; whnf)) hS ?_
          refine D.va 9 rfl (by kernel_rfl) (fun _ _ _ h => h) rfl (fun w' hw => X.move (by conv => lhs; whnf)) hS ?_
          refine D.va 10 rfl (by kernel_rfl) (fun _ _ _ h => h) rfl (fun w' hw => (by first | exact X.index1n rfl rfl Tryz.underlying44 sz_3 (by first | exact Option.some_ne_none _ | exact hA) (by omega) | exact X.index1 rfl rfl Tryz.underlying44 sz_3 (by first | exact Option.some_ne_none _ | exact hA) (by omega))) hS ?_
          refine D.two 7 11 (by kernel_rfl) rfl rfl ?_ ?_
          ·refine L.va rfl (X.load rfl sc_3 (Ld.num hrw22 (j := a) (by omega))) ?_
           refine L.nil ?_
           refine ⟨fun _ => hS, ?_⟩
           refine D.one 11 (by kernel_rfl) rfl ?_
           refine L.va rfl (X.load rfl sc_3 (Ld.num hrw22 (j := j) (by omega))) ?_
           refine L.nil ?_
           refine ⟨fun _ => hS, ?_⟩
           refine D.va 12 rfl (by kernel_rfl) (fun _ _ _ h => h) rfl (fun w' hw => (by first | exact X.index1n rfl rfl Tryz.underlying44 sz_3 (by first | exact Option.some_ne_none _ | exact hA) (by omega) | exact X.index1 rfl rfl Tryz.underlying44 sz_3 (by first | exact Option.some_ne_none _ | exact hA) (by omega))) hS ?_
           refine D.one 13 (by kernel_rfl) rfl ?_
           refine L.storeON rfl rfl (by conv => lhs; whnf) sz_3 (hoX) (by omega) ?_
           intro w22 hoX hg2 hb2 hs2
           have hS1 := trivial
           refine L.nil ?_
           refine ⟨fun _ => hS1, ?_⟩
           replace hG := grb_trans hG hg2
           refine D.va 14 rfl (by kernel_rfl) (fun _ _ _ h => h) rfl (fun w' hw => (by first | exact X.index1n rfl rfl Tryz.underlying44 sz_3 (by first | exact Option.some_ne_none _ | exact hA) (by omega) | exact X.index1 rfl rfl Tryz.underlying44 sz_3 (by first | exact Option.some_ne_none _ | exact hA) (by omega))) hS1 ?_
           refine D.one 15 (by kernel_rfl) rfl ?_
           refine L.storeON rfl rfl (by conv => lhs; whnf) sz_3 (hoX) (by omega) ?_
           intro w22 hoX hg2 hb2 hs2
           have hS2 := trivial
           refine L.nil ?_
           refine ⟨fun _ => hS2, ?_⟩
           replace hG := grb_trans hG hg2
           refine D.done (by kernel_rfl) ?_
           refine J.seq ?_
           refine J.region ?_
           refine L.va rfl (X.move (by conv => lhs; whnf)) ?_
           iterate 2 refine L.va rfl (X.assign (by conv => lhs; whnf)) ?_
           refine L.nil ?_
           refine J.ret ?_
           refine fin2 ?_
           exact ⟨swp m j a, j, false, rfl, ⟨hoX, grb_trans hG19 hG, .step M.p ⟨by omega, by omega⟩ ⟨by omega, by omega⟩ (by omega)⟩, by omega, by omega, hd.1, hd.2⟩
          ·refine L.va rfl (X.load rfl sc_3 (Ld.num hrw22 (j := j) (by omega))) ?_
           refine L.nil ?_
           refine ⟨fun _ => hS, ?_⟩
           refine D.one 7 (by kernel_rfl) rfl ?_
           refine L.va rfl (X.load rfl sc_3 (Ld.num hrw22 (j := a) (by omega))) ?_
           refine L.nil ?_
           refine ⟨fun _ => hS, ?_⟩
           refine D.va 12 rfl (by kernel_rfl) (fun _ _ _ h => h) rfl (fun w' hw => (by first | exact X.index1n rfl rfl Tryz.underlying44 sz_3 (by first | exact Option.some_ne_none _ | exact hA) (by omega) | exact X.index1 rfl rfl Tryz.underlying44 sz_3 (by first | exact Option.some_ne_none _ | exact hA) (by omega))) hS ?_
           refine D.one 13 (by kernel_rfl) rfl ?_
           refine L.storeON rfl rfl (by conv => lhs; whnf) sz_3 (hoX) (by omega) ?_
           intro w22 hoX hg2 hb2 hs2
           have hS1 := trivial
           refine L.nil ?_
           refine ⟨fun _ => hS1, ?_⟩
           replace hG := grb_trans hG hg2
           refine D.va 14 rfl (by kernel_rfl) (fun _ _ _ h => h) rfl (fun w' hw => (by first | exact X.index1n rfl rfl Tryz.underlying44 sz_3 (by first | exact Option.some_ne_none _ | exact hA) (by omega) | exact X.index1 rfl rfl Tryz.underlying44 sz_3 (by first | exact Option.some_ne_none _ | exact hA) (by omega))) hS1 ?_
           refine D.one 15 (by kernel_rfl) rfl ?_
           refine L.storeON rfl rfl (by conv => lhs; whnf) sz_3 (hoX) (by omega) ?_
           intro w22 hoX hg2 hb2 hs2
           have hS2 := trivial
           refine L.nil ?_
           refine ⟨fun _ => hS2, ?_⟩
           replace hG := grb_trans hG hg2
           refine D.done (by kernel_rfl) ?_
           refine J.seq ?_
           refine J.region ?_
           refine L.va rfl (X.move (by conv => lhs; whnf)) ?_
           iterate 2 refine L.va rfl (X.assign (by conv => lhs; whnf)) ?_
           refine L.nil ?_
           refine J.ret ?_
           refine fin2 ?_
           exact ⟨swp m j a, j, false, rfl, ⟨hoX, grb_trans hG19 hG, .step M.p ⟨by omega, by omega⟩ ⟨by omega, by omega⟩ (by omega)⟩, by omega, by omega, hd.1, hd.2⟩
         ·have hi' := hi (by omega)
          have hj' := hj (by omega)
          have hne : i ≠ j := fun e => by subst e; omega
          obtain ⟨j, rfl⟩ : ∃ j', j = j' + 1 := ⟨j - 1, by omega⟩
          refine J.skip ?_
          refine J.seq ?_
          refine J.draw (ℓ := 1000000) (S := (fun _ => True)) mixed (fun w22d hSE hS_h => ?_)
          have hS : ((fun _ => True)) w22d := trivial
          have hrw22 := (Reads.of_own HO).ext hSE
          have hoX := HO.ext hSE
          have hG : w19.grownBy w22d (Value.ownBlock (.slice A n c)) := grown_ext hSE
          refine D.va 0 rfl (by kernel_rfl) (fun _ _ _ h => h) rfl (fun w' hw => X.move (by conv => lhs; whnf)) hS ?_
          refine D.va 1 rfl (by kernel_rfl) (fun _ _ _ h => h) rfl (fun w' hw => X.move (by conv => lhs; whnf)) hS ?_
          refine D.va 2 rfl (by kernel_rfl) (fun _ _ _ h => h) rfl (fun w' hw => X.move (by conv => lhs; whnf)) hS ?_
          refine D.va 3 rfl (by kernel_rfl) (fun _ _ _ h => h) rfl (fun w' hw => X.move (by conv => lhs; whnf)) hS ?_
          refine D.va 4 rfl (by kernel_rfl) (fun _ _ _ h => h) rfl (fun w' hw => X.move (by conv => lhs; whnf)) hS ?_
          refine D.va 5 rfl (by kernel_rfl) (fun _ _ _ h => h) rfl (fun w' hw => X.move (by conv => lhs; whnf)) hS ?_
          refine D.va 6 rfl (by kernel_rfl) (fun _ _ _ h => h) rfl (fun w' hw => (by first | exact X.index1n rfl rfl Tryz.underlying44 sz_3 (by first | exact Option.some_ne_none _ | exact hA) (by omega) | exact X.index1 rfl rfl Tryz.underlying44 sz_3 (by first | exact Option.some_ne_none _ | exact hA) (by omega))) hS ?_
          refine D.va 8 rfl (by kernel_rfl) (fun _ _ _ h => h) rfl (fun w' hw => X.move (by conv => lhs; whnf)) hS ?_
          refine D.va 9 rfl (by kernel_rfl) (fun _ _ _ h => h) rfl (fun w' hw => X.move (by conv => lhs; whnf)) hS ?_
          refine D.va 10 rfl (by kernel_rfl) (fun _ _ _ h => h) rfl (fun w' hw => (by first | exact X.index1n rfl rfl Tryz.underlying44 sz_3 (by first | exact Option.some_ne_none _ | exact hA) (by omega) | exact X.index1 rfl rfl Tryz.underlying44 sz_3 (by first | exact Option.some_ne_none _ | exact hA) (by omega))) hS ?_
          refine D.two 7 11 (by kernel_rfl) rfl rfl ?_ ?_
          ·refine L.va rfl (X.load rfl sc_3 (Ld.num hrw22 (j := j + 1) (by omega))) ?_
           refine L.nil ?_
           refine ⟨fun _ => hS, ?_⟩
           refine D.one 11 (by kernel_rfl) rfl ?_
           refine L.va rfl (X.load rfl sc_3 (Ld.num hrw22 (j := i) (by omega))) ?_
           refine L.nil ?_
           refine ⟨fun _ => hS, ?_⟩
           refine D.va 12 rfl (by kernel_rfl) (fun _ _ _ h => h) rfl (fun w' hw => (by first | exact X.index1n rfl rfl Tryz.underlying44 sz_3 (by first | exact Option.some_ne_none _ | exact hA) (by omega) | exact X.index1 rfl rfl Tryz.underlying44 sz_3 (by first | exact Option.some_ne_none _ | exact hA) (by omega))) hS ?_
           refine D.one 13 (by kernel_rfl) rfl ?_
           refine L.storeON rfl rfl (by conv => lhs; whnf) sz_3 (hoX) (by omega) ?_
           intro w22 hoX hg2 hb2 hs2
           have hS1 := trivial
           refine L.nil ?_
           refine ⟨fun _ => hS1, ?_⟩
           replace hG := grb_trans hG hg2
           refine D.va 14 rfl (by kernel_rfl) (fun _ _ _ h => h) rfl (fun w' hw => (by first | exact X.index1n rfl rfl Tryz.underlying44 sz_3 (by first | exact Option.some_ne_none _ | exact hA) (by omega) | exact X.index1 rfl rfl Tryz.underlying44 sz_3 (by first | exact Option.some_ne_none _ | exact hA) (by omega))) hS1 ?_
           refine D.one 15 (by kernel_rfl) rfl ?_
           refine L.storeON rfl rfl (by conv => lhs; whnf) sz_3 (hoX) (by omega) ?_
           intro w22 hoX hg2 hb2 hs2
           have hS2 := trivial
           refine L.nil ?_
           refine ⟨fun _ => hS2, ?_⟩
           replace hG := grb_trans hG hg2
           refine D.done (by kernel_rfl) ?_
           refine J.seq ?_
           refine J.region ?_
           refine L.va rfl (X.move (by conv => lhs; whnf)) ?_
           refine L.va rfl (X.add rfl rfl (by omega)) ?_
           refine L.va rfl (X.assign (by conv => lhs; whnf)) ?_
           refine L.nil ?_
           refine J.region ?_
           refine L.va rfl (X.move (by conv => lhs; whnf)) ?_
           refine L.va rfl (X.sub rfl rfl (by omega)) ?_
           refine L.va rfl (X.assign (by conv => lhs; whnf)) ?_
           refine L.nil ?_
           refine ⟨(i + 1, j, swp m i (j + 1)), At2 (by first | rfl | exact at_int rfl (by omega) | exact at_slice rfl (by omega) | exact at_int rfl (by simp)) (by first | rfl | exact at_int rfl (by omega) | exact at_slice rfl (by omega) | exact at_int rfl (by simp)), (by (iterate 23 refine Agr.lk rfl ?_); refine Agr.lk rfl ?_; refine Agr.hav rfl ?_; refine Agr.lk rfl ?_; refine Agr.hav rfl ?_; exact Agr.lk rfl (Agr.hav rfl Agr.rfl')), ?_⟩
           exact ⟨⟨⟨hoX, grb_trans hG19 hG, .step M.p ⟨by omega, by omega⟩ ⟨by omega, by omega⟩ (by omega)⟩, HP.swap (by omega) (by omega) (by omega) (by omega)⟩, by show j + 1 - (i + 1) < _ + 1 - _; omega⟩
          ·refine L.va rfl (X.load rfl sc_3 (Ld.num hrw22 (j := i) (by omega))) ?_
           refine L.nil ?_
           refine ⟨fun _ => hS, ?_⟩
           refine D.one 7 (by kernel_rfl) rfl ?_
           refine L.va rfl (X.load rfl sc_3 (Ld.num hrw22 (j := j + 1) (by omega))) ?_
           refine L.nil ?_
           refine ⟨fun _ => hS, ?_⟩
           refine D.va 12 rfl (by kernel_rfl) (fun _ _ _ h => h) rfl (fun w' hw => (by first | exact X.index1n rfl rfl Tryz.underlying44 sz_3 (by first | exact Option.some_ne_none _ | exact hA) (by omega) | exact X.index1 rfl rfl Tryz.underlying44 sz_3 (by first | exact Option.some_ne_none _ | exact hA) (by omega))) hS ?_
           refine D.one 13 (by kernel_rfl) rfl ?_
           refine L.storeON rfl rfl (by conv => lhs; whnf) sz_3 (hoX) (by omega) ?_
           intro w22 hoX hg2 hb2 hs2
           have hS1 := trivial
           refine L.nil ?_
           refine ⟨fun _ => hS1, ?_⟩
           replace hG := grb_trans hG hg2
           refine D.va 14 rfl (by kernel_rfl) (fun _ _ _ h => h) rfl (fun w' hw => (by first | exact X.index1n rfl rfl Tryz.underlying44 sz_3 (by first | exact Option.some_ne_none _ | exact hA) (by omega) | exact X.index1 rfl rfl Tryz.underlying44 sz_3 (by first | exact Option.some_ne_none _ | exact hA) (by omega))) hS1 ?_
           refine D.one 15 (by kernel_rfl) rfl ?_
           refine L.storeON rfl rfl (by conv => lhs; whnf) sz_3 (hoX) (by omega) ?_
           intro w22 hoX hg2 hb2 hs2
           have hS2 := trivial
           refine L.nil ?_
           refine ⟨fun _ => hS2, ?_⟩
           replace hG := grb_trans hG hg2
           refine D.done (by kernel_rfl) ?_
           refine J.seq ?_
           refine J.region ?_
           refine L.va rfl (X.move (by conv => lhs; whnf)) ?_
           refine L.va rfl (X.add rfl rfl (by omega)) ?_
           refine L.va rfl (X.assign (by conv => lhs; whnf)) ?_
           refine L.nil ?_
           refine J.region ?_
           refine L.va rfl (X.move (by conv => lhs; whnf)) ?_
           refine L.va rfl (X.sub rfl rfl (by omega)) ?_
           refine L.va rfl (X.assign (by conv => lhs; whnf)) ?_
           refine L.nil ?_
           refine ⟨(i + 1, j, swp m i (j + 1)), At2 (by first | rfl | exact at_int rfl (by omega) | exact at_slice rfl (by omega) | exact at_int rfl (by simp)) (by first | rfl | exact at_int rfl (by omega) | exact at_slice rfl (by omega) | exact at_int rfl (by simp)), (by (iterate 23 refine Agr.lk rfl ?_); refine Agr.lk rfl ?_; refine Agr.hav rfl ?_; refine Agr.lk rfl ?_; refine Agr.hav rfl ?_; exact Agr.lk rfl (Agr.hav rfl Agr.rfl')), ?_⟩
           exact ⟨⟨⟨hoX, grb_trans hG19 hG, .step M.p ⟨by omega, by omega⟩ ⟨by omega, by omega⟩ (by omega)⟩, HP.swap (by omega) (by omega) (by omega) (by omega)⟩, by show j + 1 - (i + 1) < _ + 1 - _; omega⟩
     ·refine L.va rfl (X.load rfl sc_3 (Ld.num hrw12 (j := i) (by omega))) ?_
      refine L.nil ?_
      refine ⟨fun _ => hS, ?_⟩
      refine D.one 7 (by kernel_rfl) rfl ?_
      refine L.va rfl (X.load rfl sc_3 (Ld.num hrw12 (j := j + 1) (by omega))) ?_
      refine L.nil ?_
      refine ⟨fun _ => hS, ?_⟩
      refine D.va 12 rfl (by kernel_rfl) (fun _ _ _ h => h) rfl (fun w' hw => (by first | exact X.index1n rfl rfl Tryz.underlying44 sz_3 (by first | exact Option.some_ne_none _ | exact hA) (by omega) | exact X.index1 rfl rfl Tryz.underlying44 sz_3 (by first | exact Option.some_ne_none _ | exact hA) (by omega))) hS ?_
      refine D.one 13 (by kernel_rfl) rfl ?_
      refine L.storeON rfl rfl (by conv => lhs; whnf) sz_3 (hoX) (by omega) ?_
      intro w12 hoX hg2 hb2 hs2
      have hS1 := trivial
      refine L.nil ?_
      refine ⟨fun _ => hS1, ?_⟩
      replace hG := grb_trans hG hg2
      refine D.va 14 rfl (by kernel_rfl) (fun _ _ _ h => h) rfl (fun w' hw => (by first | exact X.index1n rfl rfl Tryz.underlying44 sz_3 (by first | exact Option.some_ne_none _ | exact hA) (by omega) | exact X.index1 rfl rfl Tryz.underlying44 sz_3 (by first | exact Option.some_ne_none _ | exact hA) (by omega))) hS1 ?_
      refine D.one 15 (by kernel_rfl) rfl ?_
      refine L.storeON rfl rfl (by conv => lhs; whnf) sz_3 (hoX) (by omega) ?_
      intro w12 hoX hg2 hb2 hs2
      have hS2 := trivial
      refine L.nil ?_
      refine ⟨fun _ => hS2, ?_⟩
      replace hG := grb_trans hG hg2
      refine D.done (by kernel_rfl) ?_
      refine J.seq ?_
      refine J.region ?_
      refine L.va rfl (X.move (by conv => lhs; whnf)) ?_
      refine L.va rfl (X.add rfl rfl (by omega)) ?_
      refine L.va rfl (X.assign (by conv => lhs; whnf)) ?_
      refine L.nil ?_
      refine J.seq ?_
      refine J.region ?_
      refine L.va rfl (X.move (by conv => lhs; whnf)) ?_
      refine L.va rfl (X.sub rfl rfl (by omega)) ?_
      refine L.va rfl (X.assign (by conv => lhs; whnf)) ?_
      refine L.nil ?_
      refine J.seq ?_
      refine J.block ?_
      have M2 : SwI w w12 A n c N a b l (swp m i (j + 1)) := ⟨hoX, grb_trans hG9 hG, .step M.p ⟨by omega, by omega⟩ ⟨by omega, by omega⟩ (by omega)⟩
      have HP2 := HP.swap (by omega) (by omega) (by omega) (by omega)
      rw [ej]
      refine J.loop (X := Nat × Nat × List Int) [10, 11, 99, 100, 101, 102, 103, 104, 105, 106, 107, 108, 109, 110, 111, 112, 113, 114, 115, 116, 117, 118, 119, 120, 121, 122, 123, 124, 125, 126, 127, 128, 129, 130, 131, 132, 133, 134, 135, 136, 137, 138, 139, 140, 141, 142, 143, 144, 145, 146, 147, 148, 149, 150, 151, 152] (fun (i, j, m) => [(10, .int .i64 (i : Int)), (11, .int .i64 (j : Int))]) (fun (i, j, m) w' => SwI w w' A n c N a b l m ∧ Pt (· < ·) (fun x y => y ≤ x) m a b i j) (fun (i, j, _) => j + 1 - i) ((i + 1, j, swp m i (j + 1))) (At2 (by first | rfl | exact at_int rfl (by omega) | exact at_slice rfl (by omega) | exact at_int rfl (by simp)) (by first | rfl | exact at_int rfl (by omega) | exact at_slice rfl (by omega) | exact at_int rfl (by simp))) ?_ ?_
      ·exact ⟨M2, HP2⟩
      ·rintro ⟨i, j, m⟩ g w13 ⟨M, HP⟩
       have hml : m.length = n := by rw [M.p.len, hl]
       have HO := M.o
       obtain ⟨io, hio⟩ : ∃ io, io = i := ⟨_, rfl⟩
       refine J.block ?_
       refine J.cut (X := Nat) [10, 99, 100, 101, 102, 103, 104, 105, 106, 107, 108, 109, 110, 111, 112, 113, 114] (fun i => [(10, .int .i64 (i : Int))]) (fun i w' => Pt (· < ·) (fun x y => y ≤ x) m a b i j ∧ (i ≤ j → ¬ m.getD i 0 < m.getD a 0) ∧ io ≤ i ∧ Ext w13 w') ?_ ?_
       ·refine J.block ?_
        refine J.loop (X := Nat) [10, 99, 100, 101, 102, 103, 104, 105, 106, 107, 108, 109, 110, 111, 112, 113, 114] (fun i => [(10, .int .i64 (i : Int))]) (fun i w' => Pt (· < ·) (fun x y => y ≤ x) m a b i j ∧ io ≤ i ∧ Ext w13 w') (fun i => j + 1 - i) (i) (At1 (by first | rfl | exact at_int rfl (by omega) | exact at_slice rfl (by omega) | exact at_int rfl (by simp))) ?_ ?_
        ·exact ⟨HP, by omega, Ext.refl _⟩
        ·rintro i g w14 ⟨HP, hbd, he⟩
         have h1 := HP.ai
         have h2 := HP.ij
         have h3 := HP.jb
         have hr := Reads.of_own (HO.ext he)
         have hA := hr.some_ (by omega)
         iterate 2 refine J.seq ?_
         refine J.quiet mixed (by kernel_rfl) ?_
         iterate 2 refine Qt.va rfl (fun w' hw => X.move (by conv => lhs; whnf)) ?_
         refine Qt.va rfl (fun w' hw => X.leq rfl rfl) ?_
         refine Qt.va rfl (fun w' hw => X.move (by conv => lhs; whnf)) ?_
         refine Qt.caseDec (k := 102) rfl (fun hij => ?_) (fun hij => ?_)
         ·refine Qt.va rfl (fun w' hw => X.move (by conv => lhs; whnf)) ?_
          refine Qt.va rfl (fun w' hw => X.move (by conv => lhs; whnf)) ?_
          refine Qt.va rfl (fun w' hw => (by first | exact X.index1n rfl rfl Tryz.underlying44 sz_3 (by first | exact Option.some_ne_none _ | exact hr.some_ (by omega) | exact hA) (by omega) | exact X.index1 rfl rfl Tryz.underlying44 sz_3 (by first | exact Option.some_ne_none _ | exact hr.some_ (by omega) | exact hA) (by omega))) ?_
          refine Qt.va rfl (fun w' hw => X.load rfl sc_3 (by first | exact Ld.num (hr.ext hw) (by omega) | exact hA)) ?_
          iterate 2 refine Qt.va rfl (fun w' hw => X.move (by conv => lhs; whnf)) ?_
          refine Qt.va rfl (fun w' hw => (by first | exact X.index1n rfl rfl Tryz.underlying44 sz_3 (by first | exact Option.some_ne_none _ | exact hr.some_ (by omega) | exact hA) (by omega) | exact X.index1 rfl rfl Tryz.underlying44 sz_3 (by first | exact Option.some_ne_none _ | exact hr.some_ (by omega) | exact hA) (by omega))) ?_
          refine Qt.va rfl (fun w' hw => X.load rfl sc_3 (by first | exact Ld.num (hr.ext hw) (by omega) | exact hA)) ?_
          refine Qt.call rfl en_93 rfl (fun w' hw => calls_same hw (clessI (m.getD i 0) (m.getD a 0) w')) ?_
          refine Qt.va rfl (fun w' hw => X.pickT rfl (by conv => lhs; whnf)) ?_
          refine Qt.nil (fun w15 hq => ?_)
          by_cases hd : m.getD i 0 < m.getD a 0
          ·rw [show decide (m.getD i 0 < m.getD a 0) = true from decide_eq_true (by omega)]
           refine J.iteT rfl ?_
           refine J.skip ?_
           refine J.block ?_
           refine J.region ?_
           refine L.va rfl (X.move (by conv => lhs; whnf)) ?_
           refine L.va rfl (X.add rfl rfl (by omega)) ?_
           refine L.va rfl (X.assign (by conv => lhs; whnf)) ?_
           refine L.nil ?_
           refine ⟨i + 1, At1 (by first | rfl | exact at_int rfl (by omega) | exact at_slice rfl (by omega) | exact at_int rfl (by simp)), (by (iterate 18 refine Agr.lk rfl ?_); exact Agr.lk rfl (Agr.hav rfl Agr.rfl')), ?_⟩
           exact ⟨⟨⟨by omega, by omega, h3, fun k k1 k2 => by
            rcases Nat.lt_or_ge k i with h | h
            ·exact HP.le k k1 h
            ·obtain rfl : k = i := by omega
             exact hd, HP.ri⟩, by omega, he.trans hq⟩, by omega⟩
          ·rw [show decide (m.getD i 0 < m.getD a 0) = false from decide_eq_false (by omega)]
           refine J.iteF rfl ?_
           refine J.exit ?_
           refine ⟨i, At1 (by first | rfl | exact at_int rfl (by omega) | exact at_slice rfl (by omega) | exact at_int rfl (by simp)), (by (iterate 15 refine Agr.lk rfl ?_); refine Agr.lk rfl ?_; refine Agr.hav rfl ?_; exact Agr.rfl'), ?_⟩
           exact ⟨HP, (fun _ => hd), hbd, he.trans hq⟩
         ·skip
          iterate 9 refine Qt.no rfl ?_
          refine Qt.va rfl (fun w' hw => X.pickF rfl (by conv => lhs; whnf)) ?_
          refine Qt.nil (fun w15 hq => ?_)
          refine J.iteF rfl ?_
          refine J.exit ?_
          refine ⟨i, At1 (by first | rfl | exact at_int rfl (by omega) | exact at_slice rfl (by omega) | exact at_int rfl (by simp)), (by (iterate 15 refine Agr.lk rfl ?_); refine Agr.lk rfl ?_; refine Agr.hav rfl ?_; exact Agr.rfl'), ?_⟩
          exact ⟨HP, (fun h => absurd h (by omega)), hbd, he.trans hq⟩
       ·rintro i g w16 ⟨HP, hi, hio2, he16⟩
        replace HO := HO.ext he16
        have hG16 : w.grownBy w16 (Value.ownBlock (.slice A n c)) := grb_trans M.g (grown_ext he16)
        obtain ⟨jo, hjo⟩ : ∃ jo, jo = j := ⟨_, rfl⟩
        rw [← hjo] at hi
        refine J.cut (X := Nat) [11, 115, 116, 117, 118, 119, 120, 121, 122, 123, 124, 125, 126, 127, 128, 129, 130, 131] (fun j => [(11, .int .i64 (j : Int))]) (fun j w' => Pt (· < ·) (fun x y => y ≤ x) m a b i j ∧ (i ≤ j → ¬ m.getD a 0 ≤ m.getD j 0) ∧ j ≤ jo ∧ Ext w16 w') ?_ ?_
        ·refine J.block ?_
         refine J.loop (X := Nat) [11, 115, 116, 117, 118, 119, 120, 121, 122, 123, 124, 125, 126, 127, 128, 129, 130, 131] (fun j => [(11, .int .i64 (j : Int))]) (fun j w' => Pt (· < ·) (fun x y => y ≤ x) m a b i j ∧ j ≤ jo ∧ Ext w16 w') (fun j => j) (j) (At1 (by first | rfl | exact at_int rfl (by omega) | exact at_slice rfl (by omega) | exact at_int rfl (by simp))) ?_ ?_
         ·exact ⟨HP, by omega, Ext.refl _⟩
         ·rintro j g w17 ⟨HP, hbd, he⟩
          have h1 := HP.ai
          have h2 := HP.ij
          have h3 := HP.jb
          have hr := Reads.of_own (HO.ext he)
          have hA := hr.some_ (by omega)
          iterate 2 refine J.seq ?_
          refine J.quiet mixed (by kernel_rfl) ?_
          iterate 2 refine Qt.va rfl (fun w' hw => X.move (by conv => lhs; whnf)) ?_
          refine Qt.va rfl (fun w' hw => X.leq rfl rfl) ?_
          refine Qt.va rfl (fun w' hw => X.move (by conv => lhs; whnf)) ?_
          refine Qt.caseDec (k := 118) rfl (fun hij => ?_) (fun hij => ?_)
          ·refine Qt.va rfl (fun w' hw => X.move (by conv => lhs; whnf)) ?_
           refine Qt.va rfl (fun w' hw => X.move (by conv => lhs; whnf)) ?_
           refine Qt.va rfl (fun w' hw => (by first | exact X.index1n rfl rfl Tryz.underlying44 sz_3 (by first | exact Option.some_ne_none _ | exact hr.some_ (by omega) | exact hA) (by omega) | exact X.index1 rfl rfl Tryz.underlying44 sz_3 (by first | exact Option.some_ne_none _ | exact hr.some_ (by omega) | exact hA) (by omega))) ?_
           refine Qt.va rfl (fun w' hw => X.load rfl sc_3 (by first | exact Ld.num (hr.ext hw) (by omega) | exact hA)) ?_
           iterate 2 refine Qt.va rfl (fun w' hw => X.move (by conv => lhs; whnf)) ?_
           refine Qt.va rfl (fun w' hw => (by first | exact X.index1n rfl rfl Tryz.underlying44 sz_3 (by first | exact Option.some_ne_none _ | exact hr.some_ (by omega) | exact hA) (by omega) | exact X.index1 rfl rfl Tryz.underlying44 sz_3 (by first | exact Option.some_ne_none _ | exact hr.some_ (by omega) | exact hA) (by omega))) ?_
           refine Qt.va rfl (fun w' hw => X.load rfl sc_3 (by first | exact Ld.num (hr.ext hw) (by omega) | exact hA)) ?_
           refine Qt.call rfl en_93 rfl (fun w' hw => calls_same hw (clessI (m.getD j 0) (m.getD a 0) w')) ?_
           refine Qt.va rfl (fun w' hw => X.not rfl) ?_
           refine Qt.va rfl (fun w' hw => X.pickT rfl (by conv => lhs; whnf)) ?_
           refine Qt.nil (fun w18 hq => ?_)
           by_cases hd : m.getD a 0 ≤ m.getD j 0
           ·rw [show decide (m.getD j 0 < m.getD a 0) = false from decide_eq_false (by omega)]
            refine J.iteT rfl ?_
            refine J.skip ?_
            refine J.block ?_
            refine J.region ?_
            refine L.va rfl (X.move (by conv => lhs; whnf)) ?_
            refine L.va rfl (X.sub rfl rfl (by omega)) ?_
            refine L.va rfl (X.assign (by conv => lhs; whnf)) ?_
            refine L.nil ?_
            obtain ⟨j', rfl⟩ : ∃ j', j = j' + 1 := ⟨j - 1, by omega⟩
            refine ⟨j', At1 (by first | rfl | exact at_int rfl (by omega) | exact at_slice rfl (by omega) | exact at_int rfl (by simp)), (by (iterate 19 refine Agr.lk rfl ?_); exact Agr.lk rfl (Agr.hav rfl Agr.rfl')), ?_⟩
            exact ⟨⟨⟨h1, by omega, by omega, HP.le, fun k k1 k2 => by
             rcases Nat.lt_or_ge (j' + 1) k with h | h
             ·exact HP.ri k h k2
             ·obtain rfl : k = j' + 1 := by omega
              exact hd⟩, by omega, he.trans hq⟩, by omega⟩
           ·rw [show decide (m.getD j 0 < m.getD a 0) = true from decide_eq_true (by omega)]
            refine J.iteF rfl ?_
            refine J.exit ?_
            refine ⟨j, At1 (by first | rfl | exact at_int rfl (by omega) | exact at_slice rfl (by omega) | exact at_int rfl (by simp)), (by (iterate 16 refine Agr.lk rfl ?_); refine Agr.lk rfl ?_; refine Agr.hav rfl ?_; exact Agr.rfl'), ?_⟩
            exact ⟨HP, (fun _ => hd), hbd, he.trans hq⟩
          ·skip
           iterate 10 refine Qt.no rfl ?_
           refine Qt.va rfl (fun w' hw => X.pickF rfl (by conv => lhs; whnf)) ?_
           refine Qt.nil (fun w18 hq => ?_)
           refine J.iteF rfl ?_
           refine J.exit ?_
           refine ⟨j, At1 (by first | rfl | exact at_int rfl (by omega) | exact at_slice rfl (by omega) | exact at_int rfl (by simp)), (by (iterate 16 refine Agr.lk rfl ?_); refine Agr.lk rfl ?_; refine Agr.hav rfl ?_; exact Agr.rfl'), ?_⟩
           exact ⟨HP, (fun h => absurd h (by omega)), hbd, he.trans hq⟩
        ·rintro j g w19 ⟨HP, hj, hjo2, he19⟩
         replace HO := HO.ext he19
         have hG19 := grb_trans hG16 (grown_ext he19)
         have h1 := HP.ai
         have h2 := HP.ij
         have h3 := HP.jb
         iterate 2 refine J.seq ?_
         refine J.region ?_
         iterate 2 refine L.va rfl (X.move (by conv => lhs; whnf)) ?_
         refine L.va rfl (X.gtr rfl rfl) ?_
         refine L.nil ?_
         refine J.dec rfl (fun hgt => ?_) (fun hgt => ?_)
         ·have hd := HP.done (by omega) (by omega)
          refine J.exit ?_
          refine J.seq ?_
          refine J.draw (ℓ := 1000000) (S := (fun _ => True)) mixed (fun w22d hSE hS_h => ?_)
          have hS : ((fun _ => True)) w22d := trivial
          have hrw22 := (Reads.of_own HO).ext hSE
          have hoX := HO.ext hSE
          have hG : w19.grownBy w22d (Value.ownBlock (.slice A n c)) := grown_ext hSE
          refine D.va 0 rfl (by kernel_rfl) (fun _ _ _ h => h) rfl (fun w' hw => X.move (by conv => lhs; whnf)) hS ?_
          refine D.va 1 rfl (by kernel_rfl) (fun _ _ _ h => h) rfl (fun w' hw => X.move (by conv => lhs; whnf)) hS ?_
          refine D.va 2 rfl (by kernel_rfl) (fun _ _ _ h => h) rfl (fun w' hw => X.move (by conv => lhs; whnf)) hS ?_
          refine D.va 3 rfl (by kernel_rfl) (fun _ _ _ h => h) rfl (fun w' hw => X.move (by conv => lhs; whnf)) hS ?_
          refine D.va 4 rfl (by kernel_rfl) (fun _ _ _ h => h) rfl (fun w' hw => X.move (by conv => lhs; whnf)) hS ?_
          refine D.va 5 rfl (by kernel_rfl) (fun _ _ _ h => h) rfl (fun w' hw => X.move (by conv => lhs; whnf)) hS ?_
          refine D.va 6 rfl (by kernel_rfl) (fun _ _ _ h => h) rfl (fun w' hw => (by first | exact X.index1n rfl rfl Tryz.underlying44 sz_3 (by first | exact Option.some_ne_none _ | exact hA) (by omega) | exact X.index1 rfl rfl Tryz.underlying44 sz_3 (by first | exact Option.some_ne_none _ | exact hA) (by omega))) hS ?_
          refine D.va 8 rfl (by kernel_rfl) (fun _ _ _ h => h) rfl (fun w' hw => X.move (by conv => lhs; whnf)) hS ?_
          refine D.va 9 rfl (by kernel_rfl) (fun _ _ _ h => h) rfl (fun w' hw => X.move (by conv => lhs; whnf)) hS ?_
          refine D.va 10 rfl (by kernel_rfl) (fun _ _ _ h => h) rfl (fun w' hw => (by first | exact X.index1n rfl rfl Tryz.underlying44 sz_3 (by first | exact Option.some_ne_none _ | exact hA) (by omega) | exact X.index1 rfl rfl Tryz.underlying44 sz_3 (by first | exact Option.some_ne_none _ | exact hA) (by omega))) hS ?_
          refine D.two 7 11 (by kernel_rfl) rfl rfl ?_ ?_
          ·refine L.va rfl (X.load rfl sc_3 (Ld.num hrw22 (j := a) (by omega))) ?_
           refine L.nil ?_
           refine ⟨fun _ => hS, ?_⟩
           refine D.one 11 (by kernel_rfl) rfl ?_
           refine L.va rfl (X.load rfl sc_3 (Ld.num hrw22 (j := j) (by omega))) ?_
           refine L.nil ?_
           refine ⟨fun _ => hS, ?_⟩
           refine D.va 12 rfl (by kernel_rfl) (fun _ _ _ h => h) rfl (fun w' hw => (by first | exact X.index1n rfl rfl Tryz.underlying44 sz_3 (by first | exact Option.some_ne_none _ | exact hA) (by omega) | exact X.index1 rfl rfl Tryz.underlying44 sz_3 (by first | exact Option.some_ne_none _ | exact hA) (by omega))) hS ?_
           refine D.one 13 (by kernel_rfl) rfl ?_
           refine L.storeON rfl rfl (by conv => lhs; whnf) sz_3 (hoX) (by omega) ?_
           intro w22 hoX hg2 hb2 hs2
           have hS1 := trivial
           refine L.nil ?_
           refine ⟨fun _ => hS1, ?_⟩
           replace hG := grb_trans hG hg2
           refine D.va 14 rfl (by kernel_rfl) (fun _ _ _ h => h) rfl (fun w' hw => (by first | exact X.index1n rfl rfl Tryz.underlying44 sz_3 (by first | exact Option.some_ne_none _ | exact hA) (by omega) | exact X.index1 rfl rfl Tryz.underlying44 sz_3 (by first | exact Option.some_ne_none _ | exact hA) (by omega))) hS1 ?_
           refine D.one 15 (by kernel_rfl) rfl ?_
           refine L.storeON rfl rfl (by conv => lhs; whnf) sz_3 (hoX) (by omega) ?_
           intro w22 hoX hg2 hb2 hs2
           have hS2 := trivial
           refine L.nil ?_
           refine ⟨fun _ => hS2, ?_⟩
           replace hG := grb_trans hG hg2
           refine D.done (by kernel_rfl) ?_
           refine J.seq ?_
           refine J.region ?_
           refine L.va rfl (X.move (by conv => lhs; whnf)) ?_
           iterate 2 refine L.va rfl (X.assign (by conv => lhs; whnf)) ?_
           refine L.nil ?_
           refine J.ret ?_
           refine fin2 ?_
           exact ⟨swp m j a, j, false, rfl, ⟨hoX, grb_trans hG19 hG, .step M.p ⟨by omega, by omega⟩ ⟨by omega, by omega⟩ (by omega)⟩, by omega, by omega, hd.1, hd.2⟩
          ·refine L.va rfl (X.load rfl sc_3 (Ld.num hrw22 (j := j) (by omega))) ?_
           refine L.nil ?_
           refine ⟨fun _ => hS, ?_⟩
           refine D.one 7 (by kernel_rfl) rfl ?_
           refine L.va rfl (X.load rfl sc_3 (Ld.num hrw22 (j := a) (by omega))) ?_
           refine L.nil ?_
           refine ⟨fun _ => hS, ?_⟩
           refine D.va 12 rfl (by kernel_rfl) (fun _ _ _ h => h) rfl (fun w' hw => (by first | exact X.index1n rfl rfl Tryz.underlying44 sz_3 (by first | exact Option.some_ne_none _ | exact hA) (by omega) | exact X.index1 rfl rfl Tryz.underlying44 sz_3 (by first | exact Option.some_ne_none _ | exact hA) (by omega))) hS ?_
           refine D.one 13 (by kernel_rfl) rfl ?_
           refine L.storeON rfl rfl (by conv => lhs; whnf) sz_3 (hoX) (by omega) ?_
           intro w22 hoX hg2 hb2 hs2
           have hS1 := trivial
           refine L.nil ?_
           refine ⟨fun _ => hS1, ?_⟩
           replace hG := grb_trans hG hg2
           refine D.va 14 rfl (by kernel_rfl) (fun _ _ _ h => h) rfl (fun w' hw => (by first | exact X.index1n rfl rfl Tryz.underlying44 sz_3 (by first | exact Option.some_ne_none _ | exact hA) (by omega) | exact X.index1 rfl rfl Tryz.underlying44 sz_3 (by first | exact Option.some_ne_none _ | exact hA) (by omega))) hS1 ?_
           refine D.one 15 (by kernel_rfl) rfl ?_
           refine L.storeON rfl rfl (by conv => lhs; whnf) sz_3 (hoX) (by omega) ?_
           intro w22 hoX hg2 hb2 hs2
           have hS2 := trivial
           refine L.nil ?_
           refine ⟨fun _ => hS2, ?_⟩
           replace hG := grb_trans hG hg2
           refine D.done (by kernel_rfl) ?_
           refine J.seq ?_
           refine J.region ?_
           refine L.va rfl (X.move (by conv => lhs; whnf)) ?_
           iterate 2 refine L.va rfl (X.assign (by conv => lhs; whnf)) ?_
           refine L.nil ?_
           refine J.ret ?_
           refine fin2 ?_
           exact ⟨swp m j a, j, false, rfl, ⟨hoX, grb_trans hG19 hG, .step M.p ⟨by omega, by omega⟩ ⟨by omega, by omega⟩ (by omega)⟩, by omega, by omega, hd.1, hd.2⟩
         ·have hi' := hi (by omega)
          have hj' := hj (by omega)
          have hne : i ≠ j := fun e => by subst e; omega
          obtain ⟨j, rfl⟩ : ∃ j', j = j' + 1 := ⟨j - 1, by omega⟩
          refine J.skip ?_
          refine J.seq ?_
          refine J.draw (ℓ := 1000000) (S := (fun _ => True)) mixed (fun w22d hSE hS_h => ?_)
          have hS : ((fun _ => True)) w22d := trivial
          have hrw22 := (Reads.of_own HO).ext hSE
          have hoX := HO.ext hSE
          have hG : w19.grownBy w22d (Value.ownBlock (.slice A n c)) := grown_ext hSE
          refine D.va 0 rfl (by kernel_rfl) (fun _ _ _ h => h) rfl (fun w' hw => X.move (by conv => lhs; whnf)) hS ?_
          refine D.va 1 rfl (by kernel_rfl) (fun _ _ _ h => h) rfl (fun w' hw => X.move (by conv => lhs; whnf)) hS ?_
          refine D.va 2 rfl (by kernel_rfl) (fun _ _ _ h => h) rfl (fun w' hw => X.move (by conv => lhs; whnf)) hS ?_
          refine D.va 3 rfl (by kernel_rfl) (fun _ _ _ h => h) rfl (fun w' hw => X.move (by conv => lhs; whnf)) hS ?_
          refine D.va 4 rfl (by kernel_rfl) (fun _ _ _ h => h) rfl (fun w' hw => X.move (by conv => lhs; whnf)) hS ?_
          refine D.va 5 rfl (by kernel_rfl) (fun _ _ _ h => h) rfl (fun w' hw => X.move (by conv => lhs; whnf)) hS ?_
          refine D.va 6 rfl (by kernel_rfl) (fun _ _ _ h => h) rfl (fun w' hw => (by first | exact X.index1n rfl rfl Tryz.underlying44 sz_3 (by first | exact Option.some_ne_none _ | exact hA) (by omega) | exact X.index1 rfl rfl Tryz.underlying44 sz_3 (by first | exact Option.some_ne_none _ | exact hA) (by omega))) hS ?_
          refine D.va 8 rfl (by kernel_rfl) (fun _ _ _ h => h) rfl (fun w' hw => X.move (by conv => lhs; whnf)) hS ?_
          refine D.va 9 rfl (by kernel_rfl) (fun _ _ _ h => h) rfl (fun w' hw => X.move (by conv => lhs; whnf)) hS ?_
          refine D.va 10 rfl (by kernel_rfl) (fun _ _ _ h => h) rfl (fun w' hw => (by first | exact X.index1n rfl rfl Tryz.underlying44 sz_3 (by first | exact Option.some_ne_none _ | exact hA) (by omega) | exact X.index1 rfl rfl Tryz.underlying44 sz_3 (by first | exact Option.some_ne_none _ | exact hA) (by omega))) hS ?_
          refine D.two 7 11 (by kernel_rfl) rfl rfl ?_ ?_
          ·refine L.va rfl (X.load rfl sc_3 (Ld.num hrw22 (j := j + 1) (by omega))) ?_
           refine L.nil ?_
           refine ⟨fun _ => hS, ?_⟩
           refine D.one 11 (by kernel_rfl) rfl ?_
           refine L.va rfl (X.load rfl sc_3 (Ld.num hrw22 (j := i) (by omega))) ?_
           refine L.nil ?_
           refine ⟨fun _ => hS, ?_⟩
           refine D.va 12 rfl (by kernel_rfl) (fun _ _ _ h => h) rfl (fun w' hw => (by first | exact X.index1n rfl rfl Tryz.underlying44 sz_3 (by first | exact Option.some_ne_none _ | exact hA) (by omega) | exact X.index1 rfl rfl Tryz.underlying44 sz_3 (by first | exact Option.some_ne_none _ | exact hA) (by omega))) hS ?_
           refine D.one 13 (by kernel_rfl) rfl ?_
           refine L.storeON rfl rfl (by conv => lhs; whnf) sz_3 (hoX) (by omega) ?_
           intro w22 hoX hg2 hb2 hs2
           have hS1 := trivial
           refine L.nil ?_
           refine ⟨fun _ => hS1, ?_⟩
           replace hG := grb_trans hG hg2
           refine D.va 14 rfl (by kernel_rfl) (fun _ _ _ h => h) rfl (fun w' hw => (by first | exact X.index1n rfl rfl Tryz.underlying44 sz_3 (by first | exact Option.some_ne_none _ | exact hA) (by omega) | exact X.index1 rfl rfl Tryz.underlying44 sz_3 (by first | exact Option.some_ne_none _ | exact hA) (by omega))) hS1 ?_
           refine D.one 15 (by kernel_rfl) rfl ?_
           refine L.storeON rfl rfl (by conv => lhs; whnf) sz_3 (hoX) (by omega) ?_
           intro w22 hoX hg2 hb2 hs2
           have hS2 := trivial
           refine L.nil ?_
           refine ⟨fun _ => hS2, ?_⟩
           replace hG := grb_trans hG hg2
           refine D.done (by kernel_rfl) ?_
           refine J.seq ?_
           refine J.region ?_
           refine L.va rfl (X.move (by conv => lhs; whnf)) ?_
           refine L.va rfl (X.add rfl rfl (by omega)) ?_
           refine L.va rfl (X.assign (by conv => lhs; whnf)) ?_
           refine L.nil ?_
           refine J.region ?_
           refine L.va rfl (X.move (by conv => lhs; whnf)) ?_
           refine L.va rfl (X.sub rfl rfl (by omega)) ?_
           refine L.va rfl (X.assign (by conv => lhs; whnf)) ?_
           refine L.nil ?_
           refine ⟨(i + 1, j, swp m i (j + 1)), At2 (by first | rfl | exact at_int rfl (by omega) | exact at_slice rfl (by omega) | exact at_int rfl (by simp)) (by first | rfl | exact at_int rfl (by omega) | exact at_slice rfl (by omega) | exact at_int rfl (by simp)), (by (iterate 23 refine Agr.lk rfl ?_); refine Agr.lk rfl ?_; refine Agr.hav rfl ?_; refine Agr.lk rfl ?_; refine Agr.hav rfl ?_; exact Agr.lk rfl (Agr.hav rfl Agr.rfl')), ?_⟩
           exact ⟨⟨⟨hoX, grb_trans hG19 hG, .step M.p ⟨by omega, by omega⟩ ⟨by omega, by omega⟩ (by omega)⟩, HP.swap (by omega) (by omega) (by omega) (by omega)⟩, by show j + 1 - (i + 1) < _ + 1 - _; omega⟩
          ·refine L.va rfl (X.load rfl sc_3 (Ld.num hrw22 (j := i) (by omega))) ?_
           refine L.nil ?_
           refine ⟨fun _ => hS, ?_⟩
           refine D.one 7 (by kernel_rfl) rfl ?_
           refine L.va rfl (X.load rfl sc_3 (Ld.num hrw22 (j := j + 1) (by omega))) ?_
           refine L.nil ?_
           refine ⟨fun _ => hS, ?_⟩
           refine D.va 12 rfl (by kernel_rfl) (fun _ _ _ h => h) rfl (fun w' hw => (by first | exact X.index1n rfl rfl Tryz.underlying44 sz_3 (by first | exact Option.some_ne_none _ | exact hA) (by omega) | exact X.index1 rfl rfl Tryz.underlying44 sz_3 (by first | exact Option.some_ne_none _ | exact hA) (by omega))) hS ?_
           refine D.one 13 (by kernel_rfl) rfl ?_
           refine L.storeON rfl rfl (by conv => lhs; whnf) sz_3 (hoX) (by omega) ?_
           intro w22 hoX hg2 hb2 hs2
           have hS1 := trivial
           refine L.nil ?_
           refine ⟨fun _ => hS1, ?_⟩
           replace hG := grb_trans hG hg2
           refine D.va 14 rfl (by kernel_rfl) (fun _ _ _ h => h) rfl (fun w' hw => (by first | exact X.index1n rfl rfl Tryz.underlying44 sz_3 (by first | exact Option.some_ne_none _ | exact hA) (by omega) | exact X.index1 rfl rfl Tryz.underlying44 sz_3 (by first | exact Option.some_ne_none _ | exact hA) (by omega))) hS1 ?_
           refine D.one 15 (by kernel_rfl) rfl ?_
           refine L.storeON rfl rfl (by conv => lhs; whnf) sz_3 (hoX) (by omega) ?_
           intro w22 hoX hg2 hb2 hs2
           have hS2 := trivial
           refine L.nil ?_
           refine ⟨fun _ => hS2, ?_⟩
           replace hG := grb_trans hG hg2
           refine D.done (by kernel_rfl) ?_
           refine J.seq ?_
           refine J.region ?_
           refine L.va rfl (X.move (by conv => lhs; whnf)) ?_
           refine L.va rfl (X.add rfl rfl (by omega)) ?_
           refine L.va rfl (X.assign (by conv => lhs; whnf)) ?_
           refine L.nil ?_
           refine J.region ?_
           refine L.va rfl (X.move (by conv => lhs; whnf)) ?_
           refine L.va rfl (X.sub rfl rfl (by omega)) ?_
           refine L.va rfl (X.assign (by conv => lhs; whnf)) ?_
           refine L.nil ?_
           refine ⟨(i + 1, j, swp m i (j + 1)), At2 (by first | rfl | exact at_int rfl (by omega) | exact at_slice rfl (by omega) | exact at_int rfl (by simp)) (by first | rfl | exact at_int rfl (by omega) | exact at_slice rfl (by omega) | exact at_int rfl (by simp)), (by (iterate 23 refine Agr.lk rfl ?_); refine Agr.lk rfl ?_; refine Agr.hav rfl ?_; refine Agr.lk rfl ?_; refine Agr.hav rfl ?_; exact Agr.lk rfl (Agr.hav rfl Agr.rfl')), ?_⟩
           exact ⟨⟨⟨hoX, grb_trans hG19 hG, .step M.p ⟨by omega, by omega⟩ ⟨by omega, by omega⟩ (by omega)⟩, HP.swap (by omega) (by omega) (by omega) (by omega)⟩, by show j + 1 - (i + 1) < _ + 1 - _; omega⟩
end Go.Proofs.YtpomklkfedpkfaaGreat
namespace Go.Proofs.YtpomklkfedpkfaaGreat
set_option maxRecDepth 100000
open Go.RowKit H
open Srt
set_option linter.unusedVariables false
theorem SwI.up {w w' w'' : World} {A : Option Addr} {n c N a b : Nat} {l m : List Int} (h : SwI w w' A n c N a b l m) (he : Ext w' w'') : SwI w w'' A n c N a b l m := ⟨h.o.ext he, grb_trans h.g (grown_ext he), h.p⟩
theorem SwI.sw {w w' w'' : World} {A : Option Addr} {n c N a b i j : Nat} {l m : List Int} (h : SwI w w' A n c N a b l m) (ho : w''.ownsRow N 3 1 (.slice A n c) n (nums .i64 (swp m i j))) (hg : w'.grownBy w'' (Value.ownBlock (.slice A n c))) (hi : a ≤ i ∧ i < b) (hj : a ≤ j ∧ j < b) (hb : b ≤ m.length) : SwI w w'' A n c N a b l (swp m i j) :=
  ⟨ho, grb_trans h.g hg, .step h.p hi hj hb⟩
theorem partinsI (A : Option Addr) (n c N a b : Nat) (l : List Int) (w : World) (ho : w.ownsRow N 3 1 (.slice A n c) n (nums .i64 l)) (hb : b ≤ n) (hn : n ≤ 900000) (hab : a + 1 ≤ b) (hLo : Lo l a b) :
  Calls Tryz.prog 92 #[.slice A n c, .int .i64 (a : Int), .int .i64 (b : Int)] w fun e w' => ∃ (l' : List Int) (z : Bool), e = .returned (.bool z) ∧ SwI w w' A n c N a b l l' ∧ (z = true → In l' a b) := by
 have hl : l.length = n := by have := ho.1; simpa [nums] using this
 have hA := (Reads.of_own ho).some_ (by omega)
 refine enter Tryz.func92 rfl (by kernel_rfl) ?_
 refine J.seq ?_
 refine J.region ?_
 refine L.va rfl (X.assign (by conv => lhs; whnf)) ?_
 refine L.nil ?_
 refine J.seq ?_
 refine J.region ?_
 refine L.va rfl (X.move (by conv => lhs; whnf)) ?_
 refine L.va rfl (X.add rfl rfl (by omega)) ?_
 refine L.va rfl (X.assign (by conv => lhs; whnf)) ?_
 refine L.nil ?_
 iterate 2 refine J.seq ?_
 refine J.region ?_
 refine L.va rfl (X.assign (by conv => lhs; whnf)) ?_
 refine L.nil ?_
 refine J.block ?_
 refine J.loop (X := Nat × Nat × List Int) [6, 7, 8, 9, 10, 13, 14, 15, 16, 17, 18, 19, 20, 21, 22, 23, 24, 25, 26, 27, 28, 29, 30, 31, 32, 33, 34, 35, 36, 37, 38, 39, 40, 41, 42, 43, 44, 45, 46, 47, 48, 49, 50, 51, 52, 53, 54, 55, 56, 57, 58, 59, 60, 61, 62, 63, 64, 65, 66, 67, 68, 69, 70, 71, 72, 73, 74, 75, 76, 77, 78, 79, 80, 81, 82, 83, 84, 85, 86, 87, 88, 89, 90, 91, 92, 93, 94, 95, 96, 97, 98, 99, 100, 101, 102, 103, 104, 105, 106, 107, 108, 109, 110, 111, 112, 113, 114, 115, 116, 117, 118, 119, 120, 121, 122, 123, 124, 125, 126, 127, 128, 129, 130, 131, 132] (fun (i, q, m) => [(7, .int .i64 (i : Int)), (8, .int .i64 (q : Int))]) (fun (i, q, m) w' => a + 1 ≤ i ∧ i ≤ b ∧ q ≤ 5 ∧ SwI w w' A n c N a b l m ∧ In m a i) (fun (_, q, _) => 5 - q) ((a + 1, 0, l)) (At2 (by first | rfl | exact at_int rfl (by omega) | exact at_slice rfl (by omega) | exact at_int rfl (by simp)) (by first | rfl | exact at_int rfl (by omega) | exact at_slice rfl (by omega) | exact at_int rfl (by simp))) ?_ ?_
 ·exact ⟨Nat.le_refl _, hab, by omega, ⟨ho, grown_ext (Ext.refl _), .refl _⟩, In.tiny (Nat.le_refl _)⟩
 ·rintro ⟨i, q, m⟩ g w2 ⟨h1, h2, hq5, M, hI⟩
  have hml : m.length = n := by rw [M.p.len, hl]
  iterate 2 refine J.seq ?_
  refine J.region ?_
  refine L.va rfl (X.move (by conv => lhs; whnf)) ?_
  refine L.va rfl (X.lss rfl rfl) ?_
  refine L.nil ?_
  refine J.dec rfl (fun hlt => ?_) (fun hlt => ?_)
  ·refine J.skip ?_
   refine J.cut (X := Nat × List Int) [6, 7, 9, 10, 17, 18, 19, 20, 21, 22, 23, 24, 25, 26, 27, 28, 29, 30, 31, 32, 33, 34, 35, 36, 37, 38, 39, 40, 41, 42, 43, 44, 45, 46, 47, 48, 49, 50, 51, 52, 53, 54, 55, 56, 57, 58, 59, 60, 61, 62, 63, 64, 65, 66, 67, 68, 69, 70, 71, 72, 73, 74, 75, 76, 77, 78, 79, 80, 81, 82, 83, 84, 85, 86, 87, 88, 89, 90, 91, 92, 93, 94, 95, 96, 97, 98, 99, 100, 101, 102, 103, 104, 105, 106, 107, 108, 109, 110, 111, 112, 113, 114, 115, 116, 117, 118, 119, 120, 121, 122, 123, 124, 125, 126, 127, 128, 129, 130, 131, 132] (fun (i, m) => [(7, .int .i64 (i : Int))]) (fun (i, m) w' => a + 1 ≤ i ∧ i ≤ b ∧ SwI w w' A n c N a b l m ∧ In m a i) ?_ ?_
   ·refine J.block ?_
    refine J.cut (X := Nat) [7, 17, 18, 19, 20, 21, 22, 23, 24, 25, 26, 27, 28, 29, 30, 31, 32, 33, 34] (fun i => [(7, .int .i64 (i : Int))]) (fun i w' => a + 1 ≤ i ∧ i ≤ b ∧ In m a i ∧ (i < b → m.getD i 0 < m.getD (i - 1) 0) ∧ Ext w2 w') ?_ ?_
    ·refine J.block ?_
     refine J.loop (X := Nat) [7, 17, 18, 19, 20, 21, 22, 23, 24, 25, 26, 27, 28, 29, 30, 31, 32, 33, 34] (fun i => [(7, .int .i64 (i : Int))]) (fun i w' => a + 1 ≤ i ∧ i ≤ b ∧ In m a i ∧ Ext w2 w') (fun i => b - i) (i) (At1 (by first | rfl | exact at_int rfl (by omega) | exact at_slice rfl (by omega) | exact at_int rfl (by simp))) ?_ ?_
     ·exact ⟨h1, h2, hI, Ext.refl _⟩
     ·rintro i g w3 ⟨h1, h2, hI, he⟩
      have hr := Reads.of_own (M.o.ext he)
      iterate 2 refine J.seq ?_
      refine J.quiet mixed (by kernel_rfl) ?_
      iterate 2 refine Qt.va rfl (fun w' hw => X.move (by conv => lhs; whnf)) ?_
      refine Qt.va rfl (fun w' hw => X.lss rfl rfl) ?_
      refine Qt.va rfl (fun w' hw => X.move (by conv => lhs; whnf)) ?_
      refine Qt.caseDec (k := 20) rfl (fun hib => ?_) (fun hib => ?_)
      ·refine Qt.va rfl (fun w' hw => X.move (by conv => lhs; whnf)) ?_
       refine Qt.va rfl (fun w' hw => X.move (by conv => lhs; whnf)) ?_
       refine Qt.va rfl (fun w' hw => (by first | exact X.index1n rfl rfl Tryz.underlying44 sz_3 (by first | exact Option.some_ne_none _ | exact hr.some_ (by omega) | exact hA) (by omega) | exact X.index1 rfl rfl Tryz.underlying44 sz_3 (by first | exact Option.some_ne_none _ | exact hr.some_ (by omega) | exact hA) (by omega))) ?_
       refine Qt.va rfl (fun w' hw => X.load rfl sc_3 (by first | exact Ld.num (hr.ext hw) (by omega) | exact hA)) ?_
       iterate 2 refine Qt.va rfl (fun w' hw => X.move (by conv => lhs; whnf)) ?_
       refine Qt.va rfl (fun w' hw => X.sub rfl rfl (by omega)) ?_
       refine Qt.va rfl (fun w' hw => X.index1eI (j := i - 1) rfl rfl (by omega) Tryz.underlying44 sz_3 hA (by omega)) ?_
       refine Qt.va rfl (fun w' hw => X.load rfl sc_3 (by first | exact Ld.num (hr.ext hw) (by omega) | exact hA)) ?_
       refine Qt.call rfl en_93 rfl (fun w' hw => calls_same hw (clessI (m.getD i 0) (m.getD (i - 1) 0) w')) ?_
       refine Qt.va rfl (fun w' hw => X.not rfl) ?_
       refine Qt.va rfl (fun w' hw => X.pickT rfl (by conv => lhs; whnf)) ?_
       refine Qt.nil (fun w4 hq => ?_)
       by_cases hd : m.getD i 0 < m.getD (i - 1) 0
       ·rw [decide_eq_true hd]
        refine J.iteF rfl ?_
        refine J.exit ?_
        refine ⟨i, At1 (by first | rfl | exact at_int rfl (by omega) | exact at_slice rfl (by omega) | exact at_int rfl (by simp)), (by (iterate 17 refine Agr.lk rfl ?_); refine Agr.lk rfl ?_; refine Agr.hav rfl ?_; exact Agr.rfl'), ?_⟩
        exact ⟨h1, h2, hI, (fun _ => hd), he.trans hq⟩
       ·rw [decide_eq_false hd]
        refine J.iteT rfl ?_
        refine J.skip ?_
        refine J.block ?_
        refine J.region ?_
        refine L.va rfl (X.move (by conv => lhs; whnf)) ?_
        refine L.va rfl (X.add rfl rfl (by omega)) ?_
        refine L.va rfl (X.assign (by conv => lhs; whnf)) ?_
        refine L.nil ?_
        refine ⟨i + 1, At1 (by first | rfl | exact at_int rfl (by omega) | exact at_slice rfl (by omega) | exact at_int rfl (by simp)), (by (iterate 20 refine Agr.lk rfl ?_); exact Agr.lk rfl (Agr.hav rfl Agr.rfl')), ?_⟩
        refine ⟨⟨by omega, by omega, fun p q k1 k2 k3 => ?_, he.trans hq⟩, by omega⟩
        by_cases e : q = i
        ·subst e
         by_cases e2 : p = q - 1
         ·rw [e2]; omega
         ·exact Int.le_trans (hI p (q - 1) k1 (by omega) (by omega)) (by omega)
        ·exact hI p q k1 k2 (by omega)
      ·skip
       iterate 11 refine Qt.no rfl ?_
       refine Qt.va rfl (fun w' hw => X.pickF rfl (by conv => lhs; whnf)) ?_
       refine Qt.nil (fun w4 hq => ?_)
       refine J.iteF rfl ?_
       refine J.exit ?_
       refine ⟨i, At1 (by first | rfl | exact at_int rfl (by omega) | exact at_slice rfl (by omega) | exact at_int rfl (by simp)), (by (iterate 17 refine Agr.lk rfl ?_); refine Agr.lk rfl ?_; refine Agr.hav rfl ?_; exact Agr.rfl'), ?_⟩
       exact ⟨h1, h2, hI, (fun h => absurd h (by omega)), he.trans hq⟩
    ·rintro i g w5 ⟨h1, h2, hI, hst, he5⟩
     replace M := M.up he5
     iterate 2 refine J.seq ?_
     refine J.region ?_
     iterate 2 refine L.va rfl (X.move (by conv => lhs; whnf)) ?_
     refine L.va rfl (X.eql rfl rfl) ?_
     refine L.nil ?_
     refine J.dec rfl (fun heq => ?_) (fun heq => ?_)
     ·obtain rfl : i = b := by omega
      refine J.seq ?_
      refine J.region ?_
      refine L.va rfl (X.assign (by conv => lhs; whnf)) ?_
      refine L.nil ?_
      refine J.ret ?_
      refine thn_ret <|  inB_ret <|  thn_ret <|  thn_ret <|  inB_ret <|  thn_ret <| ?_
      refine fin1 ?_
      exact ⟨m, true, rfl, M, fun _ => hI⟩
     ·have hst := hst (by omega)
      refine J.skip ?_
      iterate 2 refine J.seq ?_
      refine J.region ?_
      iterate 2 refine L.va rfl (X.move (by conv => lhs; whnf)) ?_
      refine L.va rfl (X.sub rfl rfl (by omega)) ?_
      refine L.va rfl (X.lss rfl rfl) ?_
      refine L.nil ?_
      refine J.dec rfl (fun h50 => ?_) (fun h50 => ?_)
      ·refine J.seq ?_
       refine J.region ?_
       refine L.va rfl (X.assign (by conv => lhs; whnf)) ?_
       refine L.nil ?_
       refine J.ret ?_
       refine thn_ret <|  inB_ret <|  thn_ret <|  thn_ret <|  inB_ret <|  thn_ret <| ?_
       refine fin1 ?_
       exact ⟨m, false, rfl, M, fun h => by cases h⟩
      ·obtain ⟨i, rfl⟩ : ∃ i', i = i' + 1 := ⟨i - 1, by omega⟩
       have HO := M.o
       refine J.skip ?_
       refine J.cut (X := List Int) [42, 43, 44, 45, 46, 47, 48, 49, 50, 51, 52, 53, 54, 55, 56, 57] (fun m => [(7, .int .i64 ((i + 1 : Nat) : Int))]) (fun m w' => SwI w w' A n c N a b l m ∧ InBut m a i i) ?_ ?_
       ·skip
        refine J.draw (ℓ := 1000000) (S := (fun _ => True)) mixed (fun w6d hSE hS_h => ?_)
        have hS : ((fun _ => True)) w6d := trivial
        have hrw6 := (Reads.of_own HO).ext hSE
        have hoX := HO.ext hSE
        have hG : w5.grownBy w6d (Value.ownBlock (.slice A n c)) := grown_ext hSE
        refine D.va 0 rfl (by kernel_rfl) (fun _ _ _ h => h) rfl (fun w' hw => X.move (by conv => lhs; whnf)) hS ?_
        refine D.va 1 rfl (by kernel_rfl) (fun _ _ _ h => h) rfl (fun w' hw => X.move (by conv => lhs; whnf)) hS ?_
        refine D.va 2 rfl (by kernel_rfl) (fun _ _ _ h => h) rfl (fun w' hw => X.move (by conv => lhs; whnf)) hS ?_
        refine D.va 3 rfl (by kernel_rfl) (fun _ _ _ h => h) rfl (fun w' hw => X.move (by conv => lhs; whnf)) hS ?_
        refine D.va 4 rfl (by kernel_rfl) (fun _ _ _ h => h) rfl (fun w' hw => X.sub rfl rfl (by omega)) hS ?_
        refine D.va 5 rfl (by kernel_rfl) (fun _ _ _ h => h) rfl (fun w' hw => X.move (by conv => lhs; whnf)) hS ?_
        refine D.va 6 rfl (by kernel_rfl) (fun _ _ _ h => h) rfl (fun w' hw => X.move (by conv => lhs; whnf)) hS ?_
        refine D.va 7 rfl (by kernel_rfl) (fun _ _ _ h => h) rfl (fun w' hw => X.sub rfl rfl (by omega)) hS ?_
        refine D.va 8 rfl (by kernel_rfl) (fun _ _ _ h => h) rfl (fun w' hw => X.index1eI (j := i) rfl rfl (by omega) Tryz.underlying44 sz_3 hA (by omega)) hS ?_
        refine D.va 10 rfl (by kernel_rfl) (fun _ _ _ h => h) rfl (fun w' hw => X.move (by conv => lhs; whnf)) hS ?_
        refine D.va 11 rfl (by kernel_rfl) (fun _ _ _ h => h) rfl (fun w' hw => X.move (by conv => lhs; whnf)) hS ?_
        refine D.va 12 rfl (by kernel_rfl) (fun _ _ _ h => h) rfl (fun w' hw => (by first | exact X.index1n rfl rfl Tryz.underlying44 sz_3 (by first | exact Option.some_ne_none _ | exact hA) (by omega) | exact X.index1 rfl rfl Tryz.underlying44 sz_3 (by first | exact Option.some_ne_none _ | exact hA) (by omega))) hS ?_
        refine D.two 9 13 (by kernel_rfl) rfl rfl ?_ ?_
        ·refine L.va rfl (X.load rfl sc_3 (Ld.num hrw6 (j := i) (by omega))) ?_
         refine L.nil ?_
         refine ⟨fun _ => hS, ?_⟩
         refine D.one 13 (by kernel_rfl) rfl ?_
         refine L.va rfl (X.load rfl sc_3 (Ld.num hrw6 (j := i + 1) (by omega))) ?_
         refine L.nil ?_
         refine ⟨fun _ => hS, ?_⟩
         refine D.va 14 rfl (by kernel_rfl) (fun _ _ _ h => h) rfl (fun w' hw => (by first | exact X.index1n rfl rfl Tryz.underlying44 sz_3 (by first | exact Option.some_ne_none _ | exact hA) (by omega) | exact X.index1 rfl rfl Tryz.underlying44 sz_3 (by first | exact Option.some_ne_none _ | exact hA) (by omega))) hS ?_
         refine D.one 15 (by kernel_rfl) rfl ?_
         refine L.storeON rfl rfl (by conv => lhs; whnf) sz_3 (hoX) (by omega) ?_
         intro w6 hoX hg2 hb2 hs2
         have hS1 := trivial
         refine L.nil ?_
         refine ⟨fun _ => hS1, ?_⟩
         replace hG := grb_trans hG hg2
         refine D.va 16 rfl (by kernel_rfl) (fun _ _ _ h => h) rfl (fun w' hw => X.index1eI (j := i) rfl rfl (by omega) Tryz.underlying44 sz_3 hA (by omega)) hS1 ?_
         refine D.one 17 (by kernel_rfl) rfl ?_
         refine L.storeON rfl rfl (by conv => lhs; whnf) sz_3 (hoX) (by omega) ?_
         intro w6 hoX hg2 hb2 hs2
         have hS2 := trivial
         refine L.nil ?_
         refine ⟨fun _ => hS2, ?_⟩
         replace hG := grb_trans hG hg2
         refine D.done (by kernel_rfl) ?_
         refine ⟨swp m (i + 1) i, At1 (by first | rfl | exact at_int rfl (by omega) | exact at_slice rfl (by omega) | exact at_int rfl (by simp)), (by (iterate 16 refine Agr.lk rfl ?_); exact Agr.rfl'), ?_⟩
         exact ⟨M.sw hoX hG ⟨by omega, by omega⟩ ⟨by omega, by omega⟩ (by omega), hI.but (by omega)⟩
        ·refine L.va rfl (X.load rfl sc_3 (Ld.num hrw6 (j := i + 1) (by omega))) ?_
         refine L.nil ?_
         refine ⟨fun _ => hS, ?_⟩
         refine D.one 9 (by kernel_rfl) rfl ?_
         refine L.va rfl (X.load rfl sc_3 (Ld.num hrw6 (j := i) (by omega))) ?_
         refine L.nil ?_
         refine ⟨fun _ => hS, ?_⟩
         refine D.va 14 rfl (by kernel_rfl) (fun _ _ _ h => h) rfl (fun w' hw => (by first | exact X.index1n rfl rfl Tryz.underlying44 sz_3 (by first | exact Option.some_ne_none _ | exact hA) (by omega) | exact X.index1 rfl rfl Tryz.underlying44 sz_3 (by first | exact Option.some_ne_none _ | exact hA) (by omega))) hS ?_
         refine D.one 15 (by kernel_rfl) rfl ?_
         refine L.storeON rfl rfl (by conv => lhs; whnf) sz_3 (hoX) (by omega) ?_
         intro w6 hoX hg2 hb2 hs2
         have hS1 := trivial
         refine L.nil ?_
         refine ⟨fun _ => hS1, ?_⟩
         replace hG := grb_trans hG hg2
         refine D.va 16 rfl (by kernel_rfl) (fun _ _ _ h => h) rfl (fun w' hw => X.index1eI (j := i) rfl rfl (by omega) Tryz.underlying44 sz_3 hA (by omega)) hS1 ?_
         refine D.one 17 (by kernel_rfl) rfl ?_
         refine L.storeON rfl rfl (by conv => lhs; whnf) sz_3 (hoX) (by omega) ?_
         intro w6 hoX hg2 hb2 hs2
         have hS2 := trivial
         refine L.nil ?_
         refine ⟨fun _ => hS2, ?_⟩
         replace hG := grb_trans hG hg2
         refine D.done (by kernel_rfl) ?_
         refine ⟨swp m (i + 1) i, At1 (by first | rfl | exact at_int rfl (by omega) | exact at_slice rfl (by omega) | exact at_int rfl (by simp)), (by (iterate 16 refine Agr.lk rfl ?_); exact Agr.rfl'), ?_⟩
         exact ⟨M.sw hoX hG ⟨by omega, by omega⟩ ⟨by omega, by omega⟩ (by omega), hI.but (by omega)⟩
       ·rintro m g w7 ⟨M, hB⟩
        have hml : m.length = n := by rw [M.p.len, hl]
        refine J.cut (X := List Int) [9, 58, 59, 60, 61, 62, 63, 64, 65, 66, 67, 68, 69, 70, 71, 72, 73, 74, 75, 76, 77, 78, 79, 80, 81, 82, 83, 84, 85, 86, 87, 88, 89, 90, 91, 92, 93, 94] (fun m => [(7, .int .i64 ((i + 1 : Nat) : Int))]) (fun m w' => SwI w w' A n c N a b l m ∧ In m a (i + 1)) ?_ ?_
        ·refine J.seq ?_
         refine J.region ?_
         iterate 2 refine L.va rfl (X.move (by conv => lhs; whnf)) ?_
         refine L.va rfl (X.sub rfl rfl (by omega)) ?_
         refine L.va rfl (X.geq rfl rfl) ?_
         refine L.nil ?_
         refine J.dec rfl (fun hi2 => ?_) (fun hi2 => ?_)
         ·refine J.seq ?_
          refine J.region ?_
          refine L.va rfl (X.move (by conv => lhs; whnf)) ?_
          refine L.va rfl (X.sub rfl rfl (by omega)) ?_
          refine L.va rfl (X.assign (by conv => lhs; whnf)) ?_
          refine L.nil ?_
          refine J.block ?_
          rw [show ((i + 1 : Nat) : Int) - 1 = (i : Int) by omega]
          refine J.loop (X := Nat × List Int) [9, 64, 65, 66, 67, 68, 69, 70, 71, 72, 73, 74, 75, 76, 77, 78, 79, 80, 81, 82, 83, 84, 85, 86, 87, 88, 89, 90, 91, 92, 93, 94] (fun (j, m) => [(9, .int .i64 (j : Int))]) (fun (j, m) w' => a ≤ j ∧ j ≤ i ∧ SwI w w' A n c N a b l m ∧ InBut m a i j) (fun (j, _) => j) ((i, m)) (At1 (by first | rfl | exact at_int rfl (by omega) | exact at_slice rfl (by omega) | exact at_int rfl (by simp))) ?_ ?_
          ·exact ⟨by omega, Nat.le_refl _, M, hB⟩
          ·rintro ⟨j, m⟩ g w8 ⟨j1, j2, M, hB⟩
           have hml : m.length = n := by rw [M.p.len, hl]
           have hr := Reads.of_own M.o
           have hlo := hLo.keep M.p
           iterate 2 refine J.seq ?_
           refine J.region ?_
           refine L.va rfl (X.move (by conv => lhs; whnf)) ?_
           refine L.va rfl (X.geq rfl rfl) ?_
           refine L.nil ?_
           refine J.dec rfl (fun hj1 => ?_) (fun hj1 => ?_)
           ·skip
            refine J.skip ?_
            refine J.seq ?_
            refine J.block ?_
            iterate 2 refine J.seq ?_
            refine J.quiet mixed (by kernel_rfl) ?_
            iterate 2 refine Qt.va rfl (fun w' hw => X.move (by conv => lhs; whnf)) ?_
            refine Qt.va rfl (fun w' hw => (by first | exact X.index1n rfl rfl Tryz.underlying44 sz_3 (by first | exact Option.some_ne_none _ | exact hr.some_ (by omega) | exact hA) (by omega) | exact X.index1 rfl rfl Tryz.underlying44 sz_3 (by first | exact Option.some_ne_none _ | exact hr.some_ (by omega) | exact hA) (by omega))) ?_
            refine Qt.va rfl (fun w' hw => X.load rfl sc_3 (by first | exact Ld.num (hr.ext hw) (by omega) | exact hA)) ?_
            iterate 2 refine Qt.va rfl (fun w' hw => X.move (by conv => lhs; whnf)) ?_
            refine Qt.va rfl (fun w' hw => X.sub rfl rfl (by omega)) ?_
            refine Qt.va rfl (fun w' hw => X.index1eI (j := j - 1) rfl rfl (by omega) Tryz.underlying44 sz_3 hA (by omega)) ?_
            refine Qt.va rfl (fun w' hw => X.load rfl sc_3 (by first | exact Ld.num (hr.ext hw) (by omega) | exact hA)) ?_
            refine Qt.call rfl en_93 rfl (fun w' hw => calls_same hw (clessI (m.getD j 0) (m.getD (j - 1) 0) w')) ?_
            refine Qt.va rfl (fun w' hw => X.not rfl) ?_
            refine Qt.nil (fun w9 hq => ?_)
            have M9 := M.up hq
            have HO := M9.o
            by_cases hd : m.getD j 0 < m.getD (j - 1) 0
            ·rw [decide_eq_true hd]
             have hja : a < j := by
              rcases Nat.lt_or_ge a j with h | h
              ·exact h
              ·obtain rfl : j = a := by omega
               have := hlo (by omega) j (Nat.le_refl _) (by omega)
               omega
             obtain ⟨j, rfl⟩ : ∃ j', j = j' + 1 := ⟨j - 1, by omega⟩
             rw [Nat.add_sub_cancel] at hd
             refine J.iteF rfl ?_
             refine J.skip ?_
             refine J.draw (ℓ := 1000000) (S := (fun _ => True)) mixed (fun w10d hSE hS_h => ?_)
             have hS : ((fun _ => True)) w10d := trivial
             have hrw10 := (Reads.of_own HO).ext hSE
             have hoX := HO.ext hSE
             have hG : w9.grownBy w10d (Value.ownBlock (.slice A n c)) := grown_ext hSE
             refine D.va 0 rfl (by kernel_rfl) (fun _ _ _ h => h) rfl (fun w' hw => X.move (by conv => lhs; whnf)) hS ?_
             refine D.va 1 rfl (by kernel_rfl) (fun _ _ _ h => h) rfl (fun w' hw => X.move (by conv => lhs; whnf)) hS ?_
             refine D.va 2 rfl (by kernel_rfl) (fun _ _ _ h => h) rfl (fun w' hw => X.move (by conv => lhs; whnf)) hS ?_
             refine D.va 3 rfl (by kernel_rfl) (fun _ _ _ h => h) rfl (fun w' hw => X.move (by conv => lhs; whnf)) hS ?_
             refine D.va 4 rfl (by kernel_rfl) (fun _ _ _ h => h) rfl (fun w' hw => X.sub rfl rfl (by omega)) hS ?_
             refine D.va 5 rfl (by kernel_rfl) (fun _ _ _ h => h) rfl (fun w' hw => X.move (by conv => lhs; whnf)) hS ?_
             refine D.va 6 rfl (by kernel_rfl) (fun _ _ _ h => h) rfl (fun w' hw => X.move (by conv => lhs; whnf)) hS ?_
             refine D.va 7 rfl (by kernel_rfl) (fun _ _ _ h => h) rfl (fun w' hw => X.sub rfl rfl (by omega)) hS ?_
             refine D.va 8 rfl (by kernel_rfl) (fun _ _ _ h => h) rfl (fun w' hw => X.index1eI (j := j) rfl rfl (by omega) Tryz.underlying44 sz_3 hA (by omega)) hS ?_
             refine D.va 10 rfl (by kernel_rfl) (fun _ _ _ h => h) rfl (fun w' hw => X.move (by conv => lhs; whnf)) hS ?_
             refine D.va 11 rfl (by kernel_rfl) (fun _ _ _ h => h) rfl (fun w' hw => X.move (by conv => lhs; whnf)) hS ?_
             refine D.va 12 rfl (by kernel_rfl) (fun _ _ _ h => h) rfl (fun w' hw => (by first | exact X.index1n rfl rfl Tryz.underlying44 sz_3 (by first | exact Option.some_ne_none _ | exact hA) (by omega) | exact X.index1 rfl rfl Tryz.underlying44 sz_3 (by first | exact Option.some_ne_none _ | exact hA) (by omega))) hS ?_
             refine D.two 9 13 (by kernel_rfl) rfl rfl ?_ ?_
             ·refine L.va rfl (X.load rfl sc_3 (Ld.num hrw10 (j := j) (by omega))) ?_
              refine L.nil ?_
              refine ⟨fun _ => hS, ?_⟩
              refine D.one 13 (by kernel_rfl) rfl ?_
              refine L.va rfl (X.load rfl sc_3 (Ld.num hrw10 (j := j + 1) (by omega))) ?_
              refine L.nil ?_
              refine ⟨fun _ => hS, ?_⟩
              refine D.va 14 rfl (by kernel_rfl) (fun _ _ _ h => h) rfl (fun w' hw => (by first | exact X.index1n rfl rfl Tryz.underlying44 sz_3 (by first | exact Option.some_ne_none _ | exact hA) (by omega) | exact X.index1 rfl rfl Tryz.underlying44 sz_3 (by first | exact Option.some_ne_none _ | exact hA) (by omega))) hS ?_
              refine D.one 15 (by kernel_rfl) rfl ?_
              refine L.storeON rfl rfl (by conv => lhs; whnf) sz_3 (hoX) (by omega) ?_
              intro w10 hoX hg2 hb2 hs2
              have hS1 := trivial
              refine L.nil ?_
              refine ⟨fun _ => hS1, ?_⟩
              replace hG := grb_trans hG hg2
              refine D.va 16 rfl (by kernel_rfl) (fun _ _ _ h => h) rfl (fun w' hw => X.index1eI (j := j) rfl rfl (by omega) Tryz.underlying44 sz_3 hA (by omega)) hS1 ?_
              refine D.one 17 (by kernel_rfl) rfl ?_
              refine L.storeON rfl rfl (by conv => lhs; whnf) sz_3 (hoX) (by omega) ?_
              intro w10 hoX hg2 hb2 hs2
              have hS2 := trivial
              refine L.nil ?_
              refine ⟨fun _ => hS2, ?_⟩
              replace hG := grb_trans hG hg2
              refine D.done (by kernel_rfl) ?_
              refine J.region ?_
              refine L.va rfl (X.move (by conv => lhs; whnf)) ?_
              refine L.va rfl (X.sub rfl rfl (by omega)) ?_
              refine L.va rfl (X.assign (by conv => lhs; whnf)) ?_
              refine L.nil ?_
              refine ⟨(j, swp m (j + 1) j), At1 (by first | rfl | exact at_int rfl (by omega) | exact at_slice rfl (by omega) | exact at_int rfl (by simp)), (by (iterate 32 refine Agr.lk rfl ?_); exact Agr.lk rfl (Agr.hav rfl Agr.rfl')), ?_⟩
              exact ⟨⟨by omega, by omega, M9.sw hoX hG ⟨by omega, by omega⟩ ⟨by omega, by omega⟩ (by omega), hB.step (by omega) j2 (by omega) hd⟩, by show j < j + 1; omega⟩
             ·refine L.va rfl (X.load rfl sc_3 (Ld.num hrw10 (j := j + 1) (by omega))) ?_
              refine L.nil ?_
              refine ⟨fun _ => hS, ?_⟩
              refine D.one 9 (by kernel_rfl) rfl ?_
              refine L.va rfl (X.load rfl sc_3 (Ld.num hrw10 (j := j) (by omega))) ?_
              refine L.nil ?_
              refine ⟨fun _ => hS, ?_⟩
              refine D.va 14 rfl (by kernel_rfl) (fun _ _ _ h => h) rfl (fun w' hw => (by first | exact X.index1n rfl rfl Tryz.underlying44 sz_3 (by first | exact Option.some_ne_none _ | exact hA) (by omega) | exact X.index1 rfl rfl Tryz.underlying44 sz_3 (by first | exact Option.some_ne_none _ | exact hA) (by omega))) hS ?_
              refine D.one 15 (by kernel_rfl) rfl ?_
              refine L.storeON rfl rfl (by conv => lhs; whnf) sz_3 (hoX) (by omega) ?_
              intro w10 hoX hg2 hb2 hs2
              have hS1 := trivial
              refine L.nil ?_
              refine ⟨fun _ => hS1, ?_⟩
              replace hG := grb_trans hG hg2
              refine D.va 16 rfl (by kernel_rfl) (fun _ _ _ h => h) rfl (fun w' hw => X.index1eI (j := j) rfl rfl (by omega) Tryz.underlying44 sz_3 hA (by omega)) hS1 ?_
              refine D.one 17 (by kernel_rfl) rfl ?_
              refine L.storeON rfl rfl (by conv => lhs; whnf) sz_3 (hoX) (by omega) ?_
              intro w10 hoX hg2 hb2 hs2
              have hS2 := trivial
              refine L.nil ?_
              refine ⟨fun _ => hS2, ?_⟩
              replace hG := grb_trans hG hg2
              refine D.done (by kernel_rfl) ?_
              refine J.region ?_
              refine L.va rfl (X.move (by conv => lhs; whnf)) ?_
              refine L.va rfl (X.sub rfl rfl (by omega)) ?_
              refine L.va rfl (X.assign (by conv => lhs; whnf)) ?_
              refine L.nil ?_
              refine ⟨(j, swp m (j + 1) j), At1 (by first | rfl | exact at_int rfl (by omega) | exact at_slice rfl (by omega) | exact at_int rfl (by simp)), (by (iterate 32 refine Agr.lk rfl ?_); exact Agr.lk rfl (Agr.hav rfl Agr.rfl')), ?_⟩
              exact ⟨⟨by omega, by omega, M9.sw hoX hG ⟨by omega, by omega⟩ ⟨by omega, by omega⟩ (by omega), hB.step (by omega) j2 (by omega) hd⟩, by show j < j + 1; omega⟩
            ·rw [decide_eq_false hd]
             refine J.iteT rfl ?_
             refine J.exit ?_
             refine ⟨m, At1 (by first | rfl | exact at_int rfl (by omega) | exact at_slice rfl (by omega) | exact at_int rfl (by simp)), (by (iterate 13 refine Agr.lk rfl ?_); refine Agr.lk rfl ?_; refine Agr.hav rfl ?_; (iterate 7 refine Agr.lk rfl ?_); exact Agr.rfl'), ?_⟩
             exact ⟨M9, hB.stop j2 (.inr (by omega))⟩
           ·refine J.exit ?_
            refine ⟨m, At1 (by first | rfl | exact at_int rfl (by omega) | exact at_slice rfl (by omega) | exact at_int rfl (by simp)), (by (iterate 2 refine Agr.lk rfl ?_); refine Agr.lk rfl ?_; refine Agr.hav rfl ?_; (iterate 7 refine Agr.lk rfl ?_); exact Agr.rfl'), ?_⟩
            exact ⟨M, hB.stop j2 (.inl (by omega))⟩
         ·refine J.skip ?_
          refine ⟨m, At1 (by first | rfl | exact at_int rfl (by omega) | exact at_slice rfl (by omega) | exact at_int rfl (by simp)), (by (iterate 4 refine Agr.lk rfl ?_); exact Agr.rfl'), ?_⟩
          exact ⟨M, In.tiny (by omega)⟩
        ·rintro m g w11 ⟨M, hI⟩
         have hml : m.length = n := by rw [M.p.len, hl]
         refine J.seq ?_
         refine J.region ?_
         iterate 2 refine L.va rfl (X.move (by conv => lhs; whnf)) ?_
         refine L.va rfl (X.sub rfl rfl (by omega)) ?_
         refine L.va rfl (X.geq rfl rfl) ?_
         refine L.nil ?_
         refine J.dec rfl (fun hb2 => ?_) (fun hb2 => ?_)
         ·refine J.seq ?_
          refine J.region ?_
          refine L.va rfl (X.move (by conv => lhs; whnf)) ?_
          refine L.va rfl (X.add rfl rfl (by omega)) ?_
          refine L.va rfl (X.assign (by conv => lhs; whnf)) ?_
          refine L.nil ?_
          refine J.block ?_
          refine J.loop (X := Nat × List Int) [10, 101, 102, 103, 104, 105, 106, 107, 108, 109, 110, 111, 112, 113, 114, 115, 116, 117, 118, 119, 120, 121, 122, 123, 124, 125, 126, 127, 128, 129, 130, 131, 132] (fun (j, m) => [(10, .int .i64 (j : Int))]) (fun (j, m) w' => i + 2 ≤ j ∧ j ≤ b ∧ SwI w w' A n c N a b l m ∧ In m a (i + 1)) (fun (j, _) => b - j) ((i + 2, m)) (At1 (by first | rfl | exact at_int rfl (by omega) | exact at_slice rfl (by omega) | exact at_int rfl (by simp))) ?_ ?_
          ·exact ⟨Nat.le_refl _, by omega, M, hI⟩
          ·rintro ⟨j, m⟩ g w12 ⟨j1, j2, M, hI⟩
           have hml : m.length = n := by rw [M.p.len, hl]
           have hr := Reads.of_own M.o
           iterate 2 refine J.seq ?_
           refine J.region ?_
           iterate 2 refine L.va rfl (X.move (by conv => lhs; whnf)) ?_
           refine L.va rfl (X.lss rfl rfl) ?_
           refine L.nil ?_
           refine J.dec rfl (fun hjb => ?_) (fun hjb => ?_)
           ·skip
            refine J.skip ?_
            refine J.seq ?_
            refine J.block ?_
            iterate 2 refine J.seq ?_
            refine J.quiet mixed (by kernel_rfl) ?_
            iterate 2 refine Qt.va rfl (fun w' hw => X.move (by conv => lhs; whnf)) ?_
            refine Qt.va rfl (fun w' hw => (by first | exact X.index1n rfl rfl Tryz.underlying44 sz_3 (by first | exact Option.some_ne_none _ | exact hr.some_ (by omega) | exact hA) (by omega) | exact X.index1 rfl rfl Tryz.underlying44 sz_3 (by first | exact Option.some_ne_none _ | exact hr.some_ (by omega) | exact hA) (by omega))) ?_
            refine Qt.va rfl (fun w' hw => X.load rfl sc_3 (by first | exact Ld.num (hr.ext hw) (by omega) | exact hA)) ?_
            iterate 2 refine Qt.va rfl (fun w' hw => X.move (by conv => lhs; whnf)) ?_
            refine Qt.va rfl (fun w' hw => X.sub rfl rfl (by omega)) ?_
            refine Qt.va rfl (fun w' hw => X.index1eI (j := j - 1) rfl rfl (by omega) Tryz.underlying44 sz_3 hA (by omega)) ?_
            refine Qt.va rfl (fun w' hw => X.load rfl sc_3 (by first | exact Ld.num (hr.ext hw) (by omega) | exact hA)) ?_
            refine Qt.call rfl en_93 rfl (fun w' hw => calls_same hw (clessI (m.getD j 0) (m.getD (j - 1) 0) w')) ?_
            refine Qt.va rfl (fun w' hw => X.not rfl) ?_
            refine Qt.nil (fun w13 hq => ?_)
            have M13 := M.up hq
            have HO := M13.o
            by_cases hd : m.getD j 0 < m.getD (j - 1) 0
            ·rw [decide_eq_true hd]
             obtain ⟨j, rfl⟩ : ∃ j', j = j' + 1 := ⟨j - 1, by omega⟩
             refine J.iteF rfl ?_
             refine J.skip ?_
             refine J.draw (ℓ := 1000000) (S := (fun _ => True)) mixed (fun w14d hSE hS_h => ?_)
             have hS : ((fun _ => True)) w14d := trivial
             have hrw14 := (Reads.of_own HO).ext hSE
             have hoX := HO.ext hSE
             have hG : w13.grownBy w14d (Value.ownBlock (.slice A n c)) := grown_ext hSE
             refine D.va 0 rfl (by kernel_rfl) (fun _ _ _ h => h) rfl (fun w' hw => X.move (by conv => lhs; whnf)) hS ?_
             refine D.va 1 rfl (by kernel_rfl) (fun _ _ _ h => h) rfl (fun w' hw => X.move (by conv => lhs; whnf)) hS ?_
             refine D.va 2 rfl (by kernel_rfl) (fun _ _ _ h => h) rfl (fun w' hw => X.move (by conv => lhs; whnf)) hS ?_
             refine D.va 3 rfl (by kernel_rfl) (fun _ _ _ h => h) rfl (fun w' hw => X.move (by conv => lhs; whnf)) hS ?_
             refine D.va 4 rfl (by kernel_rfl) (fun _ _ _ h => h) rfl (fun w' hw => X.sub rfl rfl (by omega)) hS ?_
             refine D.va 5 rfl (by kernel_rfl) (fun _ _ _ h => h) rfl (fun w' hw => X.move (by conv => lhs; whnf)) hS ?_
             refine D.va 6 rfl (by kernel_rfl) (fun _ _ _ h => h) rfl (fun w' hw => X.move (by conv => lhs; whnf)) hS ?_
             refine D.va 7 rfl (by kernel_rfl) (fun _ _ _ h => h) rfl (fun w' hw => X.sub rfl rfl (by omega)) hS ?_
             refine D.va 8 rfl (by kernel_rfl) (fun _ _ _ h => h) rfl (fun w' hw => X.index1eI (j := j) rfl rfl (by omega) Tryz.underlying44 sz_3 hA (by omega)) hS ?_
             refine D.va 10 rfl (by kernel_rfl) (fun _ _ _ h => h) rfl (fun w' hw => X.move (by conv => lhs; whnf)) hS ?_
             refine D.va 11 rfl (by kernel_rfl) (fun _ _ _ h => h) rfl (fun w' hw => X.move (by conv => lhs; whnf)) hS ?_
             refine D.va 12 rfl (by kernel_rfl) (fun _ _ _ h => h) rfl (fun w' hw => (by first | exact X.index1n rfl rfl Tryz.underlying44 sz_3 (by first | exact Option.some_ne_none _ | exact hA) (by omega) | exact X.index1 rfl rfl Tryz.underlying44 sz_3 (by first | exact Option.some_ne_none _ | exact hA) (by omega))) hS ?_
             refine D.two 9 13 (by kernel_rfl) rfl rfl ?_ ?_
             ·refine L.va rfl (X.load rfl sc_3 (Ld.num hrw14 (j := j) (by omega))) ?_
              refine L.nil ?_
              refine ⟨fun _ => hS, ?_⟩
              refine D.one 13 (by kernel_rfl) rfl ?_
              refine L.va rfl (X.load rfl sc_3 (Ld.num hrw14 (j := j + 1) (by omega))) ?_
              refine L.nil ?_
              refine ⟨fun _ => hS, ?_⟩
              refine D.va 14 rfl (by kernel_rfl) (fun _ _ _ h => h) rfl (fun w' hw => (by first | exact X.index1n rfl rfl Tryz.underlying44 sz_3 (by first | exact Option.some_ne_none _ | exact hA) (by omega) | exact X.index1 rfl rfl Tryz.underlying44 sz_3 (by first | exact Option.some_ne_none _ | exact hA) (by omega))) hS ?_
              refine D.one 15 (by kernel_rfl) rfl ?_
              refine L.storeON rfl rfl (by conv => lhs; whnf) sz_3 (hoX) (by omega) ?_
              intro w14 hoX hg2 hb2 hs2
              have hS1 := trivial
              refine L.nil ?_
              refine ⟨fun _ => hS1, ?_⟩
              replace hG := grb_trans hG hg2
              refine D.va 16 rfl (by kernel_rfl) (fun _ _ _ h => h) rfl (fun w' hw => X.index1eI (j := j) rfl rfl (by omega) Tryz.underlying44 sz_3 hA (by omega)) hS1 ?_
              refine D.one 17 (by kernel_rfl) rfl ?_
              refine L.storeON rfl rfl (by conv => lhs; whnf) sz_3 (hoX) (by omega) ?_
              intro w14 hoX hg2 hb2 hs2
              have hS2 := trivial
              refine L.nil ?_
              refine ⟨fun _ => hS2, ?_⟩
              replace hG := grb_trans hG hg2
              refine D.done (by kernel_rfl) ?_
              refine J.region ?_
              refine L.va rfl (X.move (by conv => lhs; whnf)) ?_
              refine L.va rfl (X.add rfl rfl (by omega)) ?_
              refine L.va rfl (X.assign (by conv => lhs; whnf)) ?_
              refine L.nil ?_
              refine ⟨(j + 2, swp m (j + 1) j), At1 (by first | rfl | exact at_int rfl (by omega) | exact at_slice rfl (by omega) | exact at_int rfl (by simp)), (by (iterate 33 refine Agr.lk rfl ?_); exact Agr.lk rfl (Agr.hav rfl Agr.rfl')), ?_⟩
              exact ⟨⟨by omega, by omega, M13.sw hoX hG ⟨by omega, by omega⟩ ⟨by omega, by omega⟩ (by omega), hI.same fun k hk => by rw [swp_at m (by omega) (by omega), if_neg (by omega), if_neg (by omega)]⟩, by show b - (j + 2) < b - (j + 1); omega⟩
             ·refine L.va rfl (X.load rfl sc_3 (Ld.num hrw14 (j := j + 1) (by omega))) ?_
              refine L.nil ?_
              refine ⟨fun _ => hS, ?_⟩
              refine D.one 9 (by kernel_rfl) rfl ?_
              refine L.va rfl (X.load rfl sc_3 (Ld.num hrw14 (j := j) (by omega))) ?_
              refine L.nil ?_
              refine ⟨fun _ => hS, ?_⟩
              refine D.va 14 rfl (by kernel_rfl) (fun _ _ _ h => h) rfl (fun w' hw => (by first | exact X.index1n rfl rfl Tryz.underlying44 sz_3 (by first | exact Option.some_ne_none _ | exact hA) (by omega) | exact X.index1 rfl rfl Tryz.underlying44 sz_3 (by first | exact Option.some_ne_none _ | exact hA) (by omega))) hS ?_
              refine D.one 15 (by kernel_rfl) rfl ?_
              refine L.storeON rfl rfl (by conv => lhs; whnf) sz_3 (hoX) (by omega) ?_
              intro w14 hoX hg2 hb2 hs2
              have hS1 := trivial
              refine L.nil ?_
              refine ⟨fun _ => hS1, ?_⟩
              replace hG := grb_trans hG hg2
              refine D.va 16 rfl (by kernel_rfl) (fun _ _ _ h => h) rfl (fun w' hw => X.index1eI (j := j) rfl rfl (by omega) Tryz.underlying44 sz_3 hA (by omega)) hS1 ?_
              refine D.one 17 (by kernel_rfl) rfl ?_
              refine L.storeON rfl rfl (by conv => lhs; whnf) sz_3 (hoX) (by omega) ?_
              intro w14 hoX hg2 hb2 hs2
              have hS2 := trivial
              refine L.nil ?_
              refine ⟨fun _ => hS2, ?_⟩
              replace hG := grb_trans hG hg2
              refine D.done (by kernel_rfl) ?_
              refine J.region ?_
              refine L.va rfl (X.move (by conv => lhs; whnf)) ?_
              refine L.va rfl (X.add rfl rfl (by omega)) ?_
              refine L.va rfl (X.assign (by conv => lhs; whnf)) ?_
              refine L.nil ?_
              refine ⟨(j + 2, swp m (j + 1) j), At1 (by first | rfl | exact at_int rfl (by omega) | exact at_slice rfl (by omega) | exact at_int rfl (by simp)), (by (iterate 33 refine Agr.lk rfl ?_); exact Agr.lk rfl (Agr.hav rfl Agr.rfl')), ?_⟩
              exact ⟨⟨by omega, by omega, M13.sw hoX hG ⟨by omega, by omega⟩ ⟨by omega, by omega⟩ (by omega), hI.same fun k hk => by rw [swp_at m (by omega) (by omega), if_neg (by omega), if_neg (by omega)]⟩, by show b - (j + 2) < b - (j + 1); omega⟩
            ·rw [decide_eq_false hd]
             refine J.iteT rfl ?_
             refine J.exit ?_
             refine ⟨(i + 1, m), At1 (by first | rfl | exact at_int rfl (by omega) | exact at_slice rfl (by omega) | exact at_int rfl (by simp)), (by (iterate 14 refine Agr.lk rfl ?_); refine Agr.lk rfl ?_; refine Agr.hav rfl ?_; (iterate 7 refine Agr.lk rfl ?_); refine Agr.lk rfl ?_; refine Agr.hav rfl ?_; refine Agr.lk rfl ?_; refine Agr.hav rfl ?_; (iterate 7 refine Agr.lk rfl ?_); refine Agr.lk rfl ?_; refine Agr.hav rfl ?_; exact Agr.rfl'), ?_⟩
             exact ⟨by omega, by omega, M13, hI⟩
           ·refine J.exit ?_
            refine ⟨(i + 1, m), At1 (by first | rfl | exact at_int rfl (by omega) | exact at_slice rfl (by omega) | exact at_int rfl (by simp)), (by (iterate 3 refine Agr.lk rfl ?_); refine Agr.lk rfl ?_; refine Agr.hav rfl ?_; (iterate 7 refine Agr.lk rfl ?_); refine Agr.lk rfl ?_; refine Agr.hav rfl ?_; refine Agr.lk rfl ?_; refine Agr.hav rfl ?_; (iterate 7 refine Agr.lk rfl ?_); refine Agr.lk rfl ?_; refine Agr.hav rfl ?_; exact Agr.rfl'), ?_⟩
            exact ⟨by omega, by omega, M, hI⟩
         ·refine J.skip ?_
          refine ⟨(i + 1, m), At1 (by first | rfl | exact at_int rfl (by omega) | exact at_slice rfl (by omega) | exact at_int rfl (by simp)), (by (iterate 4 refine Agr.lk rfl ?_); refine Agr.lk rfl ?_; refine Agr.hav rfl ?_; refine Agr.lk rfl ?_; refine Agr.hav rfl ?_; (iterate 7 refine Agr.lk rfl ?_); refine Agr.lk rfl ?_; refine Agr.hav rfl ?_; exact Agr.rfl'), ?_⟩
          exact ⟨by omega, by omega, M, hI⟩
   ·rintro ⟨i, m⟩ g w15 ⟨i1, i2, M, hI⟩
    refine J.region ?_
    refine L.va rfl (X.move (by conv => lhs; whnf)) ?_
    refine L.va rfl (X.add rfl rfl (by omega)) ?_
    refine L.va rfl (X.assign (by conv => lhs; whnf)) ?_
    refine L.nil ?_
    refine ⟨(i, q + 1, m), At2 (by first | rfl | exact at_int rfl (by omega) | exact at_slice rfl (by omega) | exact at_int rfl (by simp)) (by first | rfl | exact at_int rfl (by omega) | exact at_slice rfl (by omega) | exact at_int rfl (by simp)), (by (iterate 3 refine Agr.lk rfl ?_); refine Agr.lk rfl ?_; refine Agr.hav rfl ?_; (iterate 2 refine Agr.lk rfl ?_); exact Agr.lk rfl (Agr.hav rfl Agr.rfl')), ?_⟩
    exact ⟨⟨i1, i2, by omega, M, hI⟩, by show 5 - (q + 1) < 5 - q; omega⟩
  ·refine J.exit ?_
   refine J.seq ?_
   refine J.region ?_
   refine L.va rfl (X.assign (by conv => lhs; whnf)) ?_
   refine L.nil ?_
   refine J.ret ?_
   refine fin1 ?_
   exact ⟨m, false, rfl, M, fun h => by cases h⟩
end Go.Proofs.YtpomklkfedpkfaaGreat
namespace Go.Proofs.YtpomklkfedpkfaaGreat
set_option maxRecDepth 100000
open Go.RowKit H
open Srt
set_option linter.unusedVariables false
theorem pdqI (A : Option Addr) (n c N : Nat) (hn : n ≤ 900000) : ∀ (h a : Nat) (lim : Int) (l : List Int) (w : World), w.ownsRow N 3 1 (.slice A n c) n (nums .i64 l) → a + h ≤ n → 0 ≤ lim → lim ≤ 100 → Lo l a (a + h) →
  Calls Tryz.prog 72 #[.slice A n c, .int .i64 (a : Int), .int .i64 ((a + h : Nat) : Int), .int .i64 lim] w fun e w' => e = .returned (.tuple #[]) ∧ ∃ l', SwI w w' A n c N a (a + h) l l' ∧ In l' a (a + h) := by
 intro h
 induction h using Nat.strongRecOn with
 | ind H IH =>
 intro a0 lim0 l w ho hf hl0 hl1 hLo0
 have hl : l.length = n := by have := ho.1; simpa [nums] using this
 refine enter Tryz.func72 rfl (by kernel_rfl) ?_
 refine J.seq ?_
 refine J.region ?_
 refine L.va rfl (X.assign (by conv => lhs; whnf)) ?_
 refine L.nil ?_
 refine J.seq ?_
 refine J.region ?_
 refine L.va rfl (X.assign (by conv => lhs; whnf)) ?_
 refine L.nil ?_
 refine J.block ?_
 refine J.loop (X := Nat × Nat × Int × Bool × Bool × List Int) [1, 2, 3, 8, 9, 10, 11, 12, 13, 14, 15, 16, 17, 18, 19, 20, 21, 22, 23, 24, 25, 26, 27, 28, 29, 30, 31, 32, 33, 34, 35, 36, 37, 38, 39, 40, 41, 42, 43, 44, 45, 46, 47, 48, 49, 50, 51, 52, 53, 54, 55, 56, 57, 58, 59, 60, 61, 62, 63, 64, 65, 66, 67, 68, 69, 70, 71, 72, 73, 74, 75, 76, 77, 78, 79, 80, 81, 82, 83, 84, 85, 86, 87, 88, 89, 90, 91, 92, 93, 94, 95, 96, 97, 98, 99, 100, 101, 102, 103, 104, 105, 106, 107, 108, 109, 110, 111, 112, 113, 114, 115, 116, 117, 118, 119, 120, 121, 122, 123, 124, 125, 126, 127, 128, 129, 130, 131, 132, 133] (fun (a, h, lim, wb, wp, m) => [(1, .int .i64 (a : Int)), (2, .int .i64 ((a + h : Nat) : Int)), (3, .int .i64 lim), (8, .bool wb), (9, .bool wp)]) (fun (a, h, lim, wb, wp, m) w' => a0 ≤ a ∧ a + h ≤ a0 + H ∧ 0 ≤ lim ∧ lim ≤ 100 ∧ SwI w w' A n c N a0 (a0 + H) l m ∧ Lo m a (a + h) ∧ (∀ m', Pr a (a + h) m m' → In m' a (a + h) → In m' a0 (a0 + H))) (fun (_, h, _) => h) ((a0, H, lim0, true, true, l)) (At5 (by first | rfl | exact at_int rfl (by omega) | exact at_slice rfl (by omega) | exact at_int rfl (by simp)) (by first | rfl | exact at_int rfl (by omega) | exact at_slice rfl (by omega) | exact at_int rfl (by simp)) (by first | rfl | exact at_int rfl (by omega) | exact at_slice rfl (by omega) | exact at_int rfl (by simp)) (by first | rfl | exact at_int rfl (by omega) | exact at_slice rfl (by omega) | exact at_int rfl (by simp)) (by first | rfl | exact at_int rfl (by omega) | exact at_slice rfl (by omega) | exact at_int rfl (by simp))) ?_ ?_
 ·exact ⟨Nat.le_refl _, Nat.le_refl _, hl0, hl1, ⟨ho, grown_ext (Ext.refl _), .refl _⟩, hLo0, fun m' _ hI => hI⟩
 ·rintro ⟨a, h, lim, wb, wp, m⟩ g w2 ⟨ha, hh, hm0, hm1, M, hLo, hK⟩
  have hml : m.length = n := by rw [M.p.len, hl]
  have eh : ((a + h : Nat) : Int) - (a : Int) = (h : Int) := by omega
  have hwide : ∀ {x y : List Int}, Pr a (a + h) x y → x.length = n → Pr a0 (a0 + H) x y := fun hp hx => hp.wide ha hh (by omega)
  refine J.block ?_
  refine J.seq ?_
  refine J.region ?_
  iterate 2 refine L.va rfl (X.move (by conv => lhs; whnf)) ?_
  refine L.va rfl (X.sub rfl rfl (by omega)) ?_
  refine L.va rfl (X.assign (by conv => lhs; whnf)) ?_
  refine L.nil ?_
  rw [eh]
  iterate 2 refine J.seq ?_
  refine J.region ?_
  refine L.va rfl (X.move (by conv => lhs; whnf)) ?_
  refine L.va rfl (X.leq rfl rfl) ?_
  refine L.nil ?_
  refine J.dec rfl (fun h12 => ?_) (fun h12 => ?_)
  ·have c1 := isortI A n c N a (a + h) m w2 M.o (by omega) (by omega) (by omega)
   refine J.seq ?_
   refine J.region ?_
   iterate 3 refine L.va rfl (X.move (by conv => lhs; whnf)) ?_
   refine L.call rfl en_87 rfl (c1) ?_
   rintro e w3 ⟨rfl, m', M', hI'⟩
   refine ⟨_, rfl, ?_⟩
   refine L.nil ?_
   refine J.ret ?_
   refine thn_ret <|  inB_ret <|  thn_ret <|  inB_ret <| ?_
   refine fin0 (.inl rfl) ?_
   exact ⟨rfl, m', ⟨M'.o, grb_trans M.g M'.g, M.p.trans (hwide M'.p hml)⟩, hK m' M'.p hI'⟩
  ·refine J.skip ?_
   iterate 2 refine J.seq ?_
   refine J.region ?_
   refine L.va rfl (X.move (by conv => lhs; whnf)) ?_
   refine L.va rfl (X.eql rfl rfl) ?_
   refine L.nil ?_
   refine J.dec rfl (fun hz => ?_) (fun hz => ?_)
   ·have c1 := hsortI A n c N a h m w2 M.o (by omega) (by omega) (by omega)
    refine J.seq ?_
    refine J.region ?_
    iterate 3 refine L.va rfl (X.move (by conv => lhs; whnf)) ?_
    refine L.call rfl en_88 rfl (c1) ?_
    rintro e w3 ⟨rfl, m', M', hI'⟩
    refine ⟨_, rfl, ?_⟩
    refine L.nil ?_
    refine J.ret ?_
    refine thn_ret <|  inB_ret <|  thn_ret <|  inB_ret <| ?_
    refine fin0 (.inl rfl) ?_
    exact ⟨rfl, m', ⟨M'.o, grb_trans M.g M'.g, M.p.trans (hwide M'.p hml)⟩, hK m' M'.p hI'⟩
   ·refine J.skip ?_
    refine J.cut (X := Int × List Int) [3, 34, 35, 36, 37, 38, 39, 40, 41] (fun (lim, m') => [(3, .int .i64 lim)]) (fun (lim, m') w' => 0 ≤ lim ∧ lim ≤ 100 ∧ SwI w2 w' A n c N a (a + h) m m') ?_ ?_
    ·refine J.seq ?_
     refine J.region ?_
     refine L.va rfl (X.move (by conv => lhs; whnf)) ?_
     refine L.va rfl (X.not rfl) ?_
     refine L.nil ?_
     cases wb
     ·refine J.iteT rfl ?_
      have c1 := breakpI A n c N a h m w2 M.o (by omega) hn (by omega)
      refine J.seq ?_
      refine J.region ?_
      iterate 3 refine L.va rfl (X.move (by conv => lhs; whnf)) ?_
      refine L.call rfl en_89 rfl (c1) ?_
      rintro e w3 ⟨rfl, m', M'⟩
      refine ⟨_, rfl, ?_⟩
      refine L.nil ?_
      refine J.region ?_
      refine L.va rfl (X.move (by conv => lhs; whnf)) ?_
      refine L.va rfl (X.sub rfl rfl (by omega)) ?_
      refine L.va rfl (X.assign (by conv => lhs; whnf)) ?_
      refine L.nil ?_
      refine ⟨(lim - 1, m'), At1 (by first | rfl | exact at_int rfl (by omega) | exact at_slice rfl (by omega) | exact at_int rfl (by simp)), (by (iterate 9 refine Agr.lk rfl ?_); exact Agr.rfl'), ?_⟩
      exact ⟨by omega, by omega, M'⟩
     ·refine J.iteF rfl ?_
      refine J.skip ?_
      refine ⟨(lim, m), At1 (by first | rfl | exact at_int rfl (by omega) | exact at_slice rfl (by omega) | exact at_int rfl (by simp)), (by (iterate 2 refine Agr.lk rfl ?_); exact Agr.rfl'), ?_⟩
      exact ⟨hm0, hm1, M.o, grown_ext (Ext.refl _), .refl _⟩
    ·rintro ⟨lim, m1⟩ g w3 ⟨hm0, hm1, M1⟩
     have hml1 : m1.length = n := by rw [M1.p.len, hml]
     refine J.seq ?_
     refine J.region ?_
     iterate 3 refine L.va rfl (X.move (by conv => lhs; whnf)) ?_
     refine L.call rfl en_90 rfl (pivotI A n c N a h m1 w3 M1.o (by omega) hn (by omega)) ?_
     rintro e w4 ⟨p, k, rfl, hp1, hp2, hk2, he4⟩
     refine ⟨_, rfl, ?_⟩
     replace M1 := M1.up he4
     refine L.va rfl (X.move (by conv => lhs; whnf)) ?_
     iterate 2 refine L.va rfl (X.extract rfl rfl) ?_
     iterate 2 refine L.va rfl (X.assign (by conv => lhs; whnf)) ?_
     refine L.nil ?_
     refine J.cut (X := Nat × Nat × List Int) [11, 12, 49, 50, 51, 52, 53, 54, 55, 56, 57, 58, 59, 60] (fun (p, k, m') => [(11, .int .i64 (p : Int)), (12, .int .i64 (k : Int))]) (fun (p, k, m') w' => a ≤ p ∧ p < a + h ∧ SwI w2 w' A n c N a (a + h) m m') ?_ ?_
     ·refine J.seq ?_
      refine J.region ?_
      refine L.va rfl (X.move (by conv => lhs; whnf)) ?_
      refine L.va rfl (X.eql rfl rfl) ?_
      refine L.nil ?_
      refine J.dec rfl (fun hk => ?_) (fun hk => ?_)
      ·have c1 := reverseI A n c N a h m1 w4 M1.o (by omega) hn (by omega)
       refine J.seq ?_
       refine J.region ?_
       iterate 3 refine L.va rfl (X.move (by conv => lhs; whnf)) ?_
       refine L.call rfl en_91 rfl (c1) ?_
       rintro e w5 ⟨rfl, m', M'⟩
       refine ⟨_, rfl, ?_⟩
       refine L.nil ?_
       refine J.seq ?_
       refine J.region ?_
       refine L.va rfl (X.move (by conv => lhs; whnf)) ?_
       refine L.va rfl (X.sub rfl rfl (by omega)) ?_
       iterate 2 refine L.va rfl (X.move (by conv => lhs; whnf)) ?_
       iterate 2 refine L.va rfl (X.sub rfl rfl (by omega)) ?_
       refine L.va rfl (X.assign (by conv => lhs; whnf)) ?_
       refine L.nil ?_
       refine J.region ?_
       refine L.va rfl (X.assign (by conv => lhs; whnf)) ?_
       refine L.nil ?_
       refine ⟨(a + h - 1 - (p - a), 1, m'), At2 (by first | rfl | exact at_int rfl (by omega) | exact at_slice rfl (by omega) | exact at_int rfl (by simp)) (by first | rfl | exact at_int rfl (by omega) | exact at_slice rfl (by omega) | exact at_int rfl (by simp)), (by (iterate 14 refine Agr.lk rfl ?_); exact Agr.rfl'), ?_⟩
       exact ⟨by omega, by omega, M'.o, grb_trans M1.g M'.g, M1.p.trans M'.p⟩
      ·refine J.skip ?_
       refine ⟨(p, k, m1), At2 (by first | rfl | exact at_int rfl (by omega) | exact at_slice rfl (by omega) | exact at_int rfl (by simp)) (by first | rfl | exact at_int rfl (by omega) | exact at_slice rfl (by omega) | exact at_int rfl (by simp)), (by (iterate 2 refine Agr.lk rfl ?_); exact Agr.rfl'), ?_⟩
       exact ⟨hp1, hp2, M1⟩
     ·rintro ⟨p, k, m2⟩ g w5 ⟨hp1, hp2, M2⟩
      have hml2 : m2.length = n := by rw [M2.p.len, hml]
      have hLo2 := hLo.keep M2.p
      refine J.cut (X := List Int) [61, 62, 63, 64, 65, 66, 67, 68, 69, 70, 71, 72] (fun _ => [(1, .int .i64 (a : Int))]) (fun m' w' => SwI w2 w' A n c N a (a + h) m m') ?_ ?_
      ·refine J.seq ?_
       refine J.region ?_
       iterate 2 refine L.va rfl (X.move (by conv => lhs; whnf)) ?_
       cases wb
       ·refine L.caseBF (k := 62) rfl (by rfl) ?_
        refine L.no rfl ?_
        refine L.va rfl (X.pickF rfl (by conv => lhs; whnf)) ?_
        refine L.va rfl (X.move (by conv => lhs; whnf)) ?_
        iterate 2 refine L.no rfl ?_
        refine L.va rfl (X.pickF rfl (by conv => lhs; whnf)) ?_
        refine L.nil ?_
        refine J.iteF rfl ?_
        refine J.skip ?_
        refine ⟨m2, At1 (by first | rfl | exact at_int rfl (by omega) | exact at_slice rfl (by omega) | exact at_int rfl (by simp)), (by (iterate 9 refine Agr.lk rfl ?_); exact Agr.rfl'), ?_⟩
        exact M2
       ·refine L.caseBT (k := 62) rfl (by rfl) ?_
        refine L.va rfl (X.move (by conv => lhs; whnf)) ?_
        refine L.va rfl (X.pickT rfl (by conv => lhs; whnf)) ?_
        refine L.va rfl (X.move (by conv => lhs; whnf)) ?_
        cases wp
        ·refine L.caseBF (k := 65) rfl (by rfl) ?_
         iterate 2 refine L.no rfl ?_
         refine L.va rfl (X.pickF rfl (by conv => lhs; whnf)) ?_
         refine L.nil ?_
         refine J.iteF rfl ?_
         refine J.skip ?_
         refine ⟨m2, At1 (by first | rfl | exact at_int rfl (by omega) | exact at_slice rfl (by omega) | exact at_int rfl (by simp)), (by (iterate 10 refine Agr.lk rfl ?_); exact Agr.rfl'), ?_⟩
         exact M2
        ·refine L.caseBT (k := 65) rfl (by rfl) ?_
         refine L.va rfl (X.move (by conv => lhs; whnf)) ?_
         refine L.va rfl (X.eql rfl rfl) ?_
         refine L.va rfl (X.pickT rfl (by conv => lhs; whnf)) ?_
         refine L.nil ?_
         refine J.dec rfl (fun hk1 => ?_) (fun hk1 => ?_)
         ·have c1 := partinsI A n c N a (a + h) m2 w5 M2.o (by omega) hn (by omega) hLo2
          refine J.seq ?_
          refine J.region ?_
          iterate 3 refine L.va rfl (X.move (by conv => lhs; whnf)) ?_
          refine L.call rfl en_92 rfl (c1) ?_
          rintro e w6 ⟨m3, z, rfl, M3, hz3⟩
          refine ⟨_, rfl, ?_⟩
          refine L.nil ?_
          cases z
          ·refine J.iteF rfl ?_
           refine J.skip ?_
           refine ⟨m3, At1 (by first | rfl | exact at_int rfl (by omega) | exact at_slice rfl (by omega) | exact at_int rfl (by simp)), (by (iterate 14 refine Agr.lk rfl ?_); exact Agr.rfl'), ?_⟩
           exact ⟨M3.o, grb_trans M2.g M3.g, M2.p.trans M3.p⟩
          ·refine J.iteT rfl ?_
           refine J.ret ?_
           refine thn_ret <|  inB_ret <|  thn_ret <|  inB_ret <| ?_
           refine fin0 (.inl rfl) ?_
           exact ⟨rfl, m3, ⟨M3.o, grb_trans M.g (grb_trans M2.g M3.g), M.p.trans (hwide (M2.p.trans M3.p) hml)⟩, hK m3 (M2.p.trans M3.p) (hz3 rfl)⟩
         ·refine J.skip ?_
          refine ⟨m2, At1 (by first | rfl | exact at_int rfl (by omega) | exact at_slice rfl (by omega) | exact at_int rfl (by simp)), (by (iterate 10 refine Agr.lk rfl ?_); exact Agr.rfl'), ?_⟩
          exact M2
      ·rintro m3 g w6 M3
       have hml3 : m3.length = n := by rw [M3.p.len, hml]
       have hLo3 := hLo.keep M3.p
       have hr := Reads.of_own M3.o
       have hA := hr.some_ (by omega)
       refine J.cut (X := Unit) [1, 13, 73, 74, 75, 76, 77, 78, 79, 80, 81, 82, 83, 84, 85, 86, 87, 88, 89, 90, 91, 92, 93] (fun _ => [(1, .int .i64 (a : Int))]) (fun _ w' => Ext w6 w') ?_ ?_
       ·refine J.seq ?_
        refine J.quiet mixed (by kernel_rfl) ?_
        refine Qt.va rfl (fun w' hw => X.move (by conv => lhs; whnf)) ?_
        refine Qt.va rfl (fun w' hw => X.gtr rfl rfl) ?_
        refine Qt.va rfl (fun w' hw => X.move (by conv => lhs; whnf)) ?_
        refine Qt.caseDec (k := 75) rfl (fun h0 => ?_) (fun h0 => ?_)
        ·refine Qt.va rfl (fun w' hw => X.move (by conv => lhs; whnf)) ?_
         refine Qt.va rfl (fun w' hw => X.move (by conv => lhs; whnf)) ?_
         refine Qt.va rfl (fun w' hw => X.sub rfl rfl (by omega)) ?_
         refine Qt.va rfl (fun w' hw => X.index1eI (j := a - 1) rfl rfl (by omega) Tryz.underlying44 sz_3 hA (by omega)) ?_
         refine Qt.va rfl (fun w' hw => X.load rfl sc_3 (by first | exact Ld.num (hr.ext hw) (by omega) | exact hA)) ?_
         iterate 2 refine Qt.va rfl (fun w' hw => X.move (by conv => lhs; whnf)) ?_
         refine Qt.va rfl (fun w' hw => (by first | exact X.index1n rfl rfl Tryz.underlying44 sz_3 (by first | exact Option.some_ne_none _ | exact hr.some_ (by omega) | exact hA) (by omega) | exact X.index1 rfl rfl Tryz.underlying44 sz_3 (by first | exact Option.some_ne_none _ | exact hr.some_ (by omega) | exact hA) (by omega))) ?_
         refine Qt.va rfl (fun w' hw => X.load rfl sc_3 (by first | exact Ld.num (hr.ext hw) (by omega) | exact hA)) ?_
         refine Qt.call rfl en_93 rfl (fun w' hw => calls_same hw (clessI (m3.getD (a - 1) 0) (m3.getD p 0) w')) ?_
         refine Qt.va rfl (fun w' hw => X.not rfl) ?_
         refine Qt.va rfl (fun w' hw => X.pickT rfl (by conv => lhs; whnf)) ?_
         refine Qt.nil (fun w7 hq => ?_)
         by_cases hd : m3.getD (a - 1) 0 < m3.getD p 0
         ·rw [decide_eq_true hd]
          refine J.iteF rfl ?_
          refine J.skip ?_
          refine ⟨(), At1 (by first | rfl | exact at_int rfl (by omega) | exact at_slice rfl (by omega) | exact at_int rfl (by simp)), (by (iterate 16 refine Agr.lk rfl ?_); exact Agr.rfl'), ?_⟩
          exact hq
         ·rw [decide_eq_false hd]
          have M7 := M3.up hq
          have hv : ∀ k, a ≤ k → k < a + h → m3.getD p 0 ≤ m3.getD k 0 := fun k k1 k2 => by
           have := hLo3 (by omega) k k1 k2
           omega
          have c1 := parteqI A n c N a (a + h) p m3 w7 M7.o (by omega) hn ⟨hp1, hp2⟩
          refine J.iteT rfl ?_
          refine J.seq ?_
          refine J.region ?_
          iterate 4 refine L.va rfl (X.move (by conv => lhs; whnf)) ?_
          refine L.call rfl en_94 rfl (c1) ?_
          rintro e w8 ⟨m4, q, rfl, M4, hq1, hq2, hq3, hq4⟩
          refine ⟨_, rfl, ?_⟩
          obtain ⟨r1, r2⟩ := rest_eq hq1 hq3 hq4 (M4.p.all (p := fun z => m3.getD p 0 ≤ z) hv) hq2
          have hqb : q + (a + h - q) = a + h := by omega
          have P4 := M3.p.trans M4.p
          refine L.va rfl (X.assign (by conv => lhs; whnf)) ?_
          refine L.nil ?_
          refine J.seq ?_
          refine J.region ?_
          refine L.va rfl (X.move (by conv => lhs; whnf)) ?_
          refine L.va rfl (X.assign (by conv => lhs; whnf)) ?_
          refine L.nil ?_
          refine J.exit ?_
          refine ⟨(q, a + h - q, lim, wb, wp, m4), At5 (by first | rfl | exact at_int rfl (by omega) | exact at_slice rfl (by omega) | exact at_int rfl (by simp)) (by first | rfl | exact at_int rfl (by omega) | exact at_slice rfl (by omega) | exact at_int rfl (by simp)) (by first | rfl | exact at_int rfl (by omega) | exact at_slice rfl (by omega) | exact at_int rfl (by simp)) (by first | rfl | exact at_int rfl (by omega) | exact at_slice rfl (by omega) | exact at_int rfl (by simp)) (by first | rfl | exact at_int rfl (by omega) | exact at_slice rfl (by omega) | exact at_int rfl (by simp)), (by (iterate 24 refine Agr.lk rfl ?_); refine Agr.lk rfl ?_; refine Agr.hav rfl ?_; refine Agr.lk rfl ?_; refine Agr.hav rfl ?_; (iterate 9 refine Agr.lk rfl ?_); refine Agr.lk rfl ?_; refine Agr.hav rfl ?_; (iterate 8 refine Agr.lk rfl ?_); exact Agr.lk rfl (Agr.hav rfl Agr.rfl')), ?_⟩
          refine ⟨⟨by omega, by omega, hm0, hm1, ⟨M4.o, grb_trans M.g (grb_trans M7.g M4.g), M.p.trans (hwide P4 hml)⟩, by rw [hqb]; exact r1, fun m' hP hI => ?_⟩, by show a + h - q < h; omega⟩
          rw [hqb] at hP hI
          exact hK m' (P4.trans (hP.wide (by omega) (Nat.le_refl _) (by rw [P4.len, hml]; omega))) (r2 m' hP hI)
        ·skip
         iterate 11 refine Qt.no rfl ?_
         refine Qt.va rfl (fun w' hw => X.pickF rfl (by conv => lhs; whnf)) ?_
         refine Qt.nil (fun w7 hq => ?_)
         refine J.iteF rfl ?_
         refine J.skip ?_
         refine ⟨(), At1 (by first | rfl | exact at_int rfl (by omega) | exact at_slice rfl (by omega) | exact at_int rfl (by simp)), (by (iterate 16 refine Agr.lk rfl ?_); exact Agr.rfl'), ?_⟩
         exact hq
       ·rintro ⟨⟩ g w7 he7
        have M7 := M3.up he7
        have c1 := partI A n c N a (a + h) p m3 w7 M7.o (by omega) hn ⟨hp1, hp2⟩
        refine J.seq ?_
        refine J.region ?_
        iterate 4 refine L.va rfl (X.move (by conv => lhs; whnf)) ?_
        refine L.call rfl en_95 rfl (c1) ?_
        rintro e w8 ⟨m4, q, z, rfl, M4, hq1, hq2, hq3, hq4⟩
        refine ⟨_, rfl, ?_⟩
        have P4 := M3.p.trans M4.p
        have hml4 : m4.length = n := by rw [M4.p.len, hml3]
        have hLo4 := hLo.keep P4
        obtain ⟨d, rfl⟩ : ∃ d, q = a + d := ⟨q - a, by omega⟩
        refine L.va rfl (X.move (by conv => lhs; whnf)) ?_
        iterate 2 refine L.va rfl (X.extract rfl rfl) ?_
        iterate 2 refine L.va rfl (X.assign (by conv => lhs; whnf)) ?_
        refine L.nil ?_
        refine J.seq ?_
        refine J.region ?_
        refine L.va rfl (X.move (by conv => lhs; whnf)) ?_
        refine L.va rfl (X.assign (by conv => lhs; whnf)) ?_
        refine L.nil ?_
        refine J.seq ?_
        refine J.region ?_
        iterate 2 refine L.va rfl (X.move (by conv => lhs; whnf)) ?_
        refine L.va rfl (X.sub rfl rfl (by omega)) ?_
        iterate 2 refine L.va rfl (X.move (by conv => lhs; whnf)) ?_
        refine L.va rfl (X.sub rfl rfl (by omega)) ?_
        iterate 2 refine L.va rfl (X.assign (by conv => lhs; whnf)) ?_
        refine L.nil ?_
        refine J.seq ?_
        refine J.region ?_
        refine L.va rfl (X.move (by conv => lhs; whnf)) ?_
        refine L.va rfl (X.quo rfl rfl (by omega)) ?_
        refine L.va rfl (X.assign (by conv => lhs; whnf)) ?_
        refine L.nil ?_
        refine J.seq ?_
        refine J.region ?_
        iterate 2 refine L.va rfl (X.move (by conv => lhs; whnf)) ?_
        refine L.va rfl (X.lss rfl rfl) ?_
        refine L.nil ?_
        refine J.dec rfl (fun hlr => ?_) (fun hlr => ?_)
        ·have c2 := IH d (by omega) a lim m4 w8 M4.o (by omega) hm0 hm1 (fun h0 k k1 k2 => hLo4 h0 k k1 (by omega))
         refine J.seq ?_
         refine J.region ?_
         iterate 2 refine L.va rfl (X.move (by conv => lhs; whnf)) ?_
         refine L.va rfl (X.geq rfl rfl) ?_
         refine L.va rfl (X.assign (by conv => lhs; whnf)) ?_
         refine L.nil ?_
         refine J.seq ?_
         refine J.region ?_
         iterate 4 refine L.va rfl (X.move (by conv => lhs; whnf)) ?_
         refine L.call rfl en_72 rfl (c2) ?_
         rintro e w9 ⟨rfl, m5, M5, hI5⟩
         refine ⟨_, rfl, ?_⟩
         obtain ⟨r1, r2⟩ := rest_right (by omega) hq3 hq4 M5.p hI5
         have P5 := P4.trans (M5.p.wide (Nat.le_refl _) (show a + d ≤ a + h by omega) (by omega))
         have hqb : a + d + 1 + (h - d - 1) = a + h := by omega
         refine L.nil ?_
         refine J.region ?_
         refine L.va rfl (X.move (by conv => lhs; whnf)) ?_
         refine L.va rfl (X.add rfl rfl (by omega)) ?_
         refine L.va rfl (X.assign (by conv => lhs; whnf)) ?_
         refine L.nil ?_
         refine ⟨(a + d + 1, h - d - 1, lim, decide ((h : Int) / 8 ≤ ((a + d : Nat) : Int) - (a : Int)), z, m5), At5 (by first | rfl | exact at_int rfl (by omega) | exact at_slice rfl (by omega) | exact at_int rfl (by simp)) (by first | rfl | exact at_int rfl (by omega) | exact at_slice rfl (by omega) | exact at_int rfl (by simp)) (by first | rfl | exact at_int rfl (by omega) | exact at_slice rfl (by omega) | exact at_int rfl (by simp)) (by first | rfl | exact at_int rfl (by omega) | exact at_slice rfl (by omega) | exact at_int rfl (by simp)) (by first | rfl | exact at_int rfl (by omega) | exact at_slice rfl (by omega) | exact at_int rfl (by simp)), (by (iterate 38 refine Agr.lk rfl ?_); refine Agr.lk rfl ?_; refine Agr.hav rfl ?_; refine Agr.lk rfl ?_; refine Agr.hav rfl ?_; refine Agr.lk rfl ?_; refine Agr.hav rfl ?_; (iterate 9 refine Agr.lk rfl ?_); refine Agr.lk rfl ?_; refine Agr.hav rfl ?_; (iterate 8 refine Agr.lk rfl ?_); exact Agr.lk rfl (Agr.hav rfl Agr.rfl')), ?_⟩
         refine ⟨⟨by omega, by omega, hm0, hm1, ⟨M5.o, grb_trans M.g (grb_trans M7.g (grb_trans M4.g M5.g)), M.p.trans (hwide P5 hml)⟩, by rw [hqb]; exact r1, fun m' hP hI => ?_⟩, by show h - d - 1 < h; omega⟩
         rw [hqb] at hP hI
         exact hK m' (P5.trans (hP.wide (by omega) (Nat.le_refl _) (by rw [P5.len, hml]; omega))) (r2 m' hP hI)
        ·have hqb : a + d + 1 + (h - d - 1) = a + h := by omega
         have c2 := IH (h - d - 1) (by omega) (a + d + 1) lim m4 w8 M4.o (by omega) hm0 hm1 (by
          rw [hqb]
          exact fun _ k k1 k2 => by rw [Nat.add_sub_cancel]; exact hq4 k (by omega) k2)
         rw [hqb] at c2
         refine J.seq ?_
         refine J.region ?_
         iterate 2 refine L.va rfl (X.move (by conv => lhs; whnf)) ?_
         refine L.va rfl (X.geq rfl rfl) ?_
         refine L.va rfl (X.assign (by conv => lhs; whnf)) ?_
         refine L.nil ?_
         refine J.seq ?_
         refine J.region ?_
         iterate 2 refine L.va rfl (X.move (by conv => lhs; whnf)) ?_
         refine L.va rfl (X.add rfl rfl (by omega)) ?_
         iterate 2 refine L.va rfl (X.move (by conv => lhs; whnf)) ?_
         refine L.call rfl en_72 rfl (c2) ?_
         rintro e w9 ⟨rfl, m5, M5, hI5⟩
         refine ⟨_, rfl, ?_⟩
         obtain ⟨r1, r2⟩ := rest_left (by omega) hq3 hq4 hLo4 hq2 M5.p hI5
         have P5 := P4.trans (M5.p.wide (show a ≤ a + d + 1 by omega) (Nat.le_refl _) (by omega))
         refine L.nil ?_
         refine J.region ?_
         refine L.va rfl (X.move (by conv => lhs; whnf)) ?_
         refine L.va rfl (X.assign (by conv => lhs; whnf)) ?_
         refine L.nil ?_
         refine ⟨(a, d, lim, decide ((h : Int) / 8 ≤ ((a + h : Nat) : Int) - ((a + d : Nat) : Int)), z, m5), At5 (by first | rfl | exact at_int rfl (by omega) | exact at_slice rfl (by omega) | exact at_int rfl (by simp)) (by first | rfl | exact at_int rfl (by omega) | exact at_slice rfl (by omega) | exact at_int rfl (by simp)) (by first | rfl | exact at_int rfl (by omega) | exact at_slice rfl (by omega) | exact at_int rfl (by simp)) (by first | rfl | exact at_int rfl (by omega) | exact at_slice rfl (by omega) | exact at_int rfl (by simp)) (by first | rfl | exact at_int rfl (by omega) | exact at_slice rfl (by omega) | exact at_int rfl (by simp)), (by (iterate 38 refine Agr.lk rfl ?_); refine Agr.lk rfl ?_; refine Agr.hav rfl ?_; refine Agr.lk rfl ?_; refine Agr.hav rfl ?_; refine Agr.lk rfl ?_; refine Agr.hav rfl ?_; (iterate 9 refine Agr.lk rfl ?_); refine Agr.lk rfl ?_; refine Agr.hav rfl ?_; (iterate 8 refine Agr.lk rfl ?_); exact Agr.lk rfl (Agr.hav rfl Agr.rfl')), ?_⟩
         refine ⟨⟨ha, by omega, hm0, hm1, ⟨M5.o, grb_trans M.g (grb_trans M7.g (grb_trans M4.g M5.g)), M.p.trans (hwide P5 hml)⟩, r1, fun m' hP hI => ?_⟩, by show d < h; omega⟩
         exact hK m' (P5.trans (hP.wide (Nat.le_refl _) (by omega) (by rw [P5.len, hml]; omega))) (r2 m' hP hI)
theorem sortI (A : Option Addr) (n c N : Nat) (l : List Int) (w : World) (ho : w.ownsRow N 3 1 (.slice A n c) n (nums .i64 l)) (hn : n ≤ 900000) :
  Calls Tryz.prog 48 #[.slice A n c] w fun e w' => e = .returned (.tuple #[]) ∧ ∃ l', w'.ownsRow N 3 1 (.slice A n c) n (nums .i64 l') ∧ w.grownBy w' (Value.ownBlock (.slice A n c)) ∧ l'.Perm l ∧ In l' 0 n := by
 refine enter Tryz.func48 rfl (by kernel_rfl) ?_
 refine J.seq ?_
 refine J.region ?_
 refine L.va rfl (X.move (by conv => lhs; whnf)) ?_
 refine L.va rfl (X.len rfl Tryz.underlying44) ?_
 refine L.va rfl (X.assign (by conv => lhs; whnf)) ?_
 refine L.nil ?_
 refine J.region ?_
 iterate 3 refine L.va rfl (X.move (by conv => lhs; whnf)) ?_
 refine L.va rfl ((by first | exact X.convU rfl is_3 Tryz.underlying120 (by omega) | exact X.convw rfl is_3 Tryz.underlying120)) ?_
 refine L.call rfl en_73 rfl (len_ n w (by omega)) ?_
 rintro e _ ⟨k, rfl, hk, _, rfl⟩
 refine ⟨_, rfl, ?_⟩
 have c1 := pdqI A n c N hn n 0 (k : Int) l w ho (by omega) (by omega) (by omega) (fun h => absurd h (by omega))
 rw [Nat.zero_add] at c1
 refine L.call rfl en_72 rfl (c1) ?_
 rintro e w1 ⟨rfl, l', M, hI⟩
 refine ⟨_, rfl, ?_⟩
 refine L.nil ?_
 refine fin0 (.inr rfl) ?_
 exact ⟨rfl, l', M.o, M.g, M.p.perm, hI⟩
end Go.Proofs.YtpomklkfedpkfaaGreat
namespace Go.Proofs.YtpomklkfedpkfaaGreat
set_option maxRecDepth 100000
open Go.RowKit H
open Srt
set_option linter.unusedVariables false
theorem own_setCells {base e n cap g : Nat} : ∀ (vs : List Value) (o : Nat) (w : World) (xs : List Value), w.ownsRow base e 1 (.slice (some ⟨g, 0, none⟩) n cap) n xs →
    ∃ ys, (w.setCells g o vs).ownsRow base e 1 (.slice (some ⟨g, 0, none⟩) n cap) n ys ∧ w.grownBy (w.setCells g o vs) (some g) ∧ ys.take o = xs.take o
  | [], o, w, xs, h => ⟨xs, h, grown_ext (Ext.refl _), rfl⟩
  | v :: vs, o, w, xs, h => by
    obtain ⟨h1, g1⟩ := h.stored o v
    obtain ⟨ys, h2, g2, e2⟩ := own_setCells vs (o + 1) _ _ h1
    refine ⟨ys, h2, grb_trans g1 g2, ?_⟩
    have e3 := congrArg (List.take o) e2
    rw [List.take_take, List.take_take, Nat.min_eq_left (by omega)] at e3
    rw [e3, List.take_set_of_le (Nat.le_refl _)]
theorem L.clear {P : Program} {m : Nat} {ops rest : List Oper} {Q : Exit → Fr → World → Prop} {f : Fr} {w : World} {ty : TypeId} {pos : String} {aft : Array Edge} {g : Option (Nat × Bool)} {x : Operand} {t e base n c i : Nat} {A : Option Addr} {k : IntKind} {zs : List Int} {z : Value}
    (hg : wn ops f g = true) (hx : ev f x = .slice (if c = i then A else A.map (·.add (i * 1))) (n - i) (c - i)) (ht : P.underlying t = some (.slice e)) (hz : (P.info? e).bind (·.zero) = some z) (hzc : z.cells = #[z]) (h1 : z.oneCell' = true)
    (hown : w.ownsRow base e 1 (.slice A n c) n (nums k zs)) (hi : i < n)
    (h : ∀ w', w'.ownsRow base e 1 (.slice A i c) i (nums k (zs.take i)) → w.grownBy w' (Value.ownBlock (.slice A n c)) → L P m ops Q rest f w') :
    L P m ops Q (⟨none, .call { callee := .builtin .clear, args := #[x], argTypes := #[t] }, ty, pos, aft, g⟩ :: rest) f w := by
  have hnc := (own_bd hown).1
  obtain ⟨b, cap, hA, hb, hlt⟩ := hown.form (by omega)
  injection hA with hA _ hc
  subst hA hc
  rw [if_neg (by omega)] at hx
  have hx : ev f x = .slice (some ⟨b, i, none⟩) (n - i) (c - i) := by rw [hx]; simp [Addr.add_mid]
  obtain ⟨ys, o2, g2, e2⟩ := own_setCells (List.replicate (n - i) z) i w _ hown
  have hzr : ∀ w, (zeroValue e).run P w = .ok z w := fun w => by
    cases hi2 : P.info? e with
    | none => rw [hi2] at hz; cases hz
    | some inf => rw [hi2] at hz; have hz : inf.zero = some z := hz; simp [zeroValue, typeInfo, hi2, hz]
  have hcl : ∀ j, j < n - i → (w.cell? ⟨b, i + j, none⟩).isSome = true := fun j hj => by
    rw [hown.cellAt (i + j) (by omega), List.getElem?_eq_getElem (by rw [hown.1]; omega)]; rfl
  have hrun := Go.Lib.run_clear_slice (P := P) w t e ty z ht hzr hzc h1 b i (n - i) (c - i) (by omega) hcl (fun j hj => hown.frozenAt (i + j))
  refine L.val hg (w' := w.setCells b i (List.replicate (n - i) z)) (v := .tuple #[]) ?_ (h _ ?_ g2)
  · simp [hx, go_sem, hrun]
  · have := own_cut o2 (k := i) (by omega)
    rw [Nat.mul_one, e2] at this
    simpa [nums] using this
theorem ixI (A : Option Addr) (n c : Nat) (l : List Int) (x : Int) (w : World) (hr : Reads w w.heap.size 1 A n (nums .i64 l)) (hn : n ≤ maxLen) : Calls Tryz.prog 57 #[.slice A n c, .int .i64 x] w fun e w' => (∃ k : Int, e = .returned (.int .i64 k) ∧ (0 ≤ k ↔ x ∈ l)) ∧ w = w' := by
 have hl : l.length = n := by have := hr.1; simpa [nums] using this
 unfold maxLen at hn
 refine enter Tryz.func57 rfl (by kernel_rfl) ?_
 refine J.seq ?_
 refine J.region ?_
 refine L.va rfl (X.assign (by conv => lhs; whnf)) ?_
 refine L.nil ?_
 iterate 2 refine J.seq ?_
 refine J.region ?_
 refine L.va rfl (X.move (by conv => lhs; whnf)) ?_
 refine L.va rfl (X.len rfl Tryz.underlying44) ?_
 refine L.va rfl (X.move (by conv => lhs; whnf)) ?_
 refine L.nil ?_
 refine J.block ?_
 refine J.loop (X := Nat) [4, 5, 8, 9, 10, 11, 12, 13, 14, 15, 16, 17, 18] (fun i => [(8, .int .i64 (i : Int))]) (fun i w' => i ≤ n ∧ (∀ j, j < i → l.getD j 0 ≠ x) ∧ w = w') (fun i => n - i) (0) (At1 (by first | rfl | exact at_int rfl (by omega) | exact at_slice rfl (by omega) | exact at_int rfl (by simp))) ?_ ?_
 ·exact ⟨Nat.zero_le _, fun j hj => absurd hj (by omega), rfl⟩
 ·rintro i g w2 ⟨hi, hP, rfl⟩
  refine J.seq ?_
  refine J.region ?_
  refine L.va rfl (X.lss rfl rfl) ?_
  refine L.nil ?_
  refine J.seq ?_
  refine J.dec rfl (fun hlt => ?_) (fun hlt => ?_)
  ·have hA := hr.some_ (by omega)
   refine J.skip ?_
   refine J.seq ?_
   refine J.block ?_
   refine J.seq ?_
   refine J.region ?_
   refine L.va rfl (X.move (by conv => lhs; whnf)) ?_
   refine L.va rfl (X.assign (by conv => lhs; whnf)) ?_
   refine L.nil ?_
   refine J.seq ?_
   refine J.region ?_
   iterate 3 refine L.va rfl (X.move (by conv => lhs; whnf)) ?_
   refine L.va rfl ((by first | exact X.index1n rfl rfl Tryz.underlying44 sz_3 (by first | exact Option.some_ne_none _ | exact hr.some_ (by omega) | exact hA) (by omega) | exact X.index1 rfl rfl Tryz.underlying44 sz_3 (by first | exact Option.some_ne_none _ | exact hr.some_ (by omega) | exact hA) (by omega))) ?_
   refine L.va rfl (X.load rfl sc_3 (by first | exact Ld.num hr (by omega) | exact hA)) ?_
   refine L.va rfl (X.eql rfl rfl) ?_
   refine L.nil ?_
   refine J.dec rfl (fun he => ?_) (fun he => ?_)
   ·refine J.seq ?_
    refine J.region ?_
    refine L.va rfl (X.move (by conv => lhs; whnf)) ?_
    refine L.va rfl (X.assign (by conv => lhs; whnf)) ?_
    refine L.nil ?_
    refine J.ret ?_
    refine inB_ret <|  thn_ret <|  thn_ret <|  inB_ret <|  thn_ret <| ?_
    refine fin1 ?_
    refine ⟨⟨_, rfl, ⟨fun _ => ?_, fun _ => by omega⟩⟩, rfl⟩
    rw [he, List.getD, List.getElem?_eq_getElem (by omega)]
    exact List.getElem_mem _
   ·refine J.skip ?_
    refine J.region ?_
    refine L.va rfl (X.add rfl rfl (by omega)) ?_
    refine L.va rfl (X.move (by conv => lhs; whnf)) ?_
    refine L.nil ?_
    refine ⟨i + 1, At1 (by first | rfl | exact at_int rfl (by omega) | exact at_slice rfl (by omega) | exact at_int rfl (by simp)), (by (iterate 11 refine Agr.lk rfl ?_); exact Agr.lk rfl (Agr.hav rfl Agr.rfl')), ?_⟩
    refine ⟨⟨by omega, fun j hj => ?_, rfl⟩, by omega⟩
    rcases Nat.lt_or_ge j i with h | h
    ·exact hP j h
    ·obtain rfl : j = i := by omega
     exact fun h => he h.symm
  ·refine J.exit ?_
   refine J.seq ?_
   refine J.region ?_
   refine L.va rfl (X.assign (by conv => lhs; whnf)) ?_
   refine L.nil ?_
   refine J.ret ?_
   refine fin1 ?_
   refine ⟨⟨_, rfl, ⟨fun h => absurd h (by decide), fun h => ?_⟩⟩, rfl⟩
   obtain ⟨j, hj, e⟩ := List.getElem_of_mem h
   have := hP j (by omega)
   rw [List.getD, List.getElem?_eq_getElem hj] at this
   exact absurd e this
theorem containsI (A : Option Addr) (n c : Nat) (l : List Int) (x : Int) (w : World) (hr : Reads w w.heap.size 1 A n (nums .i64 l)) (hn : n ≤ maxLen) : Calls Tryz.prog 35 #[.slice A n c, .int .i64 x] w fun e w' => e = .returned (.bool (l.contains x)) ∧ w = w' := by
 refine enter Tryz.func35 rfl (by kernel_rfl) ?_
 refine J.seq ?_
 refine J.region ?_
 refine L.va rfl (X.assign (by conv => lhs; whnf)) ?_
 refine L.nil ?_
 refine J.seq ?_
 refine J.region ?_
 iterate 2 refine L.va rfl (X.move (by conv => lhs; whnf)) ?_
 refine L.call rfl en_57 rfl (ixI A n c l x w hr hn) ?_
 rintro e _ ⟨⟨k, rfl, hk⟩, rfl⟩
 refine ⟨_, rfl, ?_⟩
 refine L.va rfl (X.geq rfl rfl) ?_
 refine L.va rfl (X.assign (by conv => lhs; whnf)) ?_
 refine L.nil ?_
 refine J.ret ?_
 refine fin1 ?_
 refine ⟨?_, rfl⟩
 have : l.contains x = decide (0 ≤ k) := by
  rw [Bool.eq_iff_iff, List.contains_iff_mem, decide_eq_true_eq, hk]
 rw [this]
 rfl
theorem has28 (A : Option Addr) (n c : Nat) (l : List Int) (x : Int) (w : World) (hr : Reads w w.heap.size 1 A n (nums .i64 l)) (hn : n ≤ maxLen) : Calls Tryz.prog 44 #[.slice A n c, .int .i64 x] w fun e w' => e = .returned (.bool (l.contains x)) ∧ w = w' := by
 have hl : l.length = n := by have := hr.1; simpa [nums] using this
 unfold maxLen at hn
 refine enter Tryz.func44 rfl (by kernel_rfl) ?_
 refine J.seq ?_
 refine J.region ?_
 refine L.va rfl (X.assign (by conv => lhs; whnf)) ?_
 refine L.nil ?_
 iterate 2 refine J.seq ?_
 refine J.region ?_
 refine L.va rfl (X.assign (by conv => lhs; whnf)) ?_
 refine L.nil ?_
 refine J.block ?_
 refine J.loop (X := Nat) [4, 5, 6, 7, 8, 9, 10, 11, 12, 13, 14, 15, 16, 17] (fun i => [(5, .int .i64 (i : Int))]) (fun i w' => i ≤ n ∧ (∀ j, j < i → l.getD j 0 ≠ x) ∧ w = w') (fun i => n - i) (0) (At1 (by first | rfl | exact at_int rfl (by omega) | exact at_slice rfl (by omega) | exact at_int rfl (by simp))) ?_ ?_
 ·exact ⟨Nat.zero_le _, fun j hj => absurd hj (by omega), rfl⟩
 ·rintro i g w2 ⟨hi, hP, rfl⟩
  iterate 2 refine J.seq ?_
  refine J.region ?_
  iterate 2 refine L.va rfl (X.move (by conv => lhs; whnf)) ?_
  refine L.va rfl (X.len rfl Tryz.underlying44) ?_
  refine L.va rfl (X.lss rfl rfl) ?_
  refine L.nil ?_
  refine J.dec rfl (fun hlt => ?_) (fun hlt => ?_)
  ·have hA := hr.some_ (by omega)
   refine J.skip ?_
   refine J.seq ?_
   refine J.block ?_
   refine J.seq ?_
   refine J.region ?_
   iterate 2 refine L.va rfl (X.move (by conv => lhs; whnf)) ?_
   refine L.va rfl ((by first | exact X.index1n rfl rfl Tryz.underlying44 sz_3 (by first | exact Option.some_ne_none _ | exact hr.some_ (by omega) | exact hA) (by omega) | exact X.index1 rfl rfl Tryz.underlying44 sz_3 (by first | exact Option.some_ne_none _ | exact hr.some_ (by omega) | exact hA) (by omega))) ?_
   refine L.va rfl (X.load rfl sc_3 (by first | exact Ld.num hr (by omega) | exact hA)) ?_
   refine L.va rfl (X.move (by conv => lhs; whnf)) ?_
   refine L.va rfl (X.eql rfl rfl) ?_
   refine L.nil ?_
   refine J.dec rfl (fun he => ?_) (fun he => ?_)
   ·refine J.seq ?_
    refine J.region ?_
    refine L.va rfl (X.assign (by conv => lhs; whnf)) ?_
    refine L.nil ?_
    refine J.ret ?_
    refine inB_ret <|  thn_ret <|  thn_ret <|  inB_ret <|  thn_ret <| ?_
    refine fin1 ?_
    have : x ∈ l := by
     rw [← he, List.getD, List.getElem?_eq_getElem (by omega)]
     exact List.getElem_mem _
    rw [List.contains_iff_mem.2 this]
    exact ⟨rfl, rfl⟩
   ·refine J.skip ?_
    refine J.region ?_
    refine L.va rfl (X.move (by conv => lhs; whnf)) ?_
    refine L.va rfl (X.add rfl rfl (by omega)) ?_
    refine L.va rfl (X.assign (by conv => lhs; whnf)) ?_
    refine L.nil ?_
    refine ⟨i + 1, At1 (by first | rfl | exact at_int rfl (by omega) | exact at_slice rfl (by omega) | exact at_int rfl (by simp)), (by (iterate 13 refine Agr.lk rfl ?_); exact Agr.lk rfl (Agr.hav rfl Agr.rfl')), ?_⟩
    refine ⟨⟨by omega, fun j hj => ?_, rfl⟩, by omega⟩
    rcases Nat.lt_or_ge j i with h | h
    ·exact hP j h
    ·obtain rfl : j = i := by omega
     exact he
  ·refine J.exit ?_
   refine J.seq ?_
   refine J.region ?_
   refine L.va rfl (X.assign (by conv => lhs; whnf)) ?_
   refine L.nil ?_
   refine J.ret ?_
   refine fin1 ?_
   have : l.contains x = false := by
    rw [Bool.eq_false_iff, Ne, List.contains_iff_mem]
    intro h
    obtain ⟨j, hj, e⟩ := List.getElem_of_mem h
    have := hP j (by omega)
    rw [List.getD, List.getElem?_eq_getElem hj] at this
    exact absurd e this
   rw [this]
   exact ⟨rfl, rfl⟩
end Go.Proofs.YtpomklkfedpkfaaGreat
namespace Go.Proofs.YtpomklkfedpkfaaGreat
set_option maxRecDepth 100000
open Go.RowKit H
open Srt
open Nrm (Up Dd Cmn)
set_option linter.unusedVariables false
theorem drop_getD (m : List Int) (i j : Nat) : (m.drop i).getD j 0 = m.getD (i + j) 0 := by rw [List.getD, List.getD, List.getElem?_drop]
theorem compactI (A : Option Addr) (n c N : Nat) (l : List Int) (w : World) (ho : w.ownsRow N 3 1 (.slice A n c) n (nums .i64 l)) (hs : In l 0 n) (hn : n ≤ 900000) :
  Calls Tryz.prog 49 #[.slice A n c] w fun e w' => ∃ k y, e = .returned (.slice A k c) ∧ w'.ownsRow N 3 1 (.slice A k c) k (nums .i64 y) ∧ w.grownBy w' (Value.ownBlock (.slice A n c)) ∧ Up y ∧ (∀ x, x ∈ y ↔ x ∈ l) := by
 have hl : l.length = n := by have := ho.1; simpa [nums] using this
 have hnc := (own_bd ho).1
 have hcm := (own_bd ho).2
 unfold maxLen at hcm
 refine enter Tryz.func49 rfl (by kernel_rfl) ?_
 refine J.seq ?_
 refine J.region ?_
 refine L.va rfl (X.assign (by conv => lhs; whnf)) ?_
 refine L.nil ?_
 iterate 2 refine J.seq ?_
 refine J.region ?_
 refine L.va rfl (X.move (by conv => lhs; whnf)) ?_
 refine L.va rfl (X.len rfl Tryz.underlying44) ?_
 refine L.va rfl (X.lss rfl rfl) ?_
 refine L.nil ?_
 refine J.dec rfl (fun h2 => ?_) (fun h2 => ?_)
 ·refine J.seq ?_
  refine J.region ?_
  refine L.va rfl (X.move (by conv => lhs; whnf)) ?_
  refine L.va rfl (X.assign (by conv => lhs; whnf)) ?_
  refine L.nil ?_
  refine J.ret ?_
  refine thn_ret <| ?_
  refine fin1 ?_
  refine ⟨n, l, rfl, ho, grown_ext (Ext.refl _), ?_, fun x => Iff.rfl⟩
  match l, hl with
  | [], _ => exact List.Pairwise.nil
  | [a], _ => exact List.pairwise_singleton _ _
  | a :: b :: t, hl => simp only [List.length_cons] at hl; omega
 ·refine J.skip ?_
  iterate 2 refine J.seq ?_
  refine J.region ?_
  refine L.va rfl (X.assign (by conv => lhs; whnf)) ?_
  refine L.nil ?_
  refine J.block ?_
  refine J.loop (X := Nat) [2, 3, 4, 5, 10, 11, 12, 13, 14, 15, 16, 17, 18, 19, 20, 21, 22, 23, 24, 25, 26, 27, 28, 29, 30, 31, 32, 33, 34, 35, 36, 37, 38, 39, 40, 41, 42, 43, 44, 45, 46, 47, 48, 49, 50, 51, 52, 53, 54, 55, 56, 57, 58, 59] (fun i => [(3, .int .i64 (i : Int))]) (fun i w' => 1 ≤ i ∧ i ≤ n ∧ Dd l i (l.take i) ∧ Ext w w') (fun i => n - i) (1) (At1 (by first | rfl | exact at_int rfl (by omega) | exact at_slice rfl (by omega) | exact at_int rfl (by simp))) ?_ ?_
  ·exact ⟨Nat.le_refl _, by omega, Dd.one (by omega), Ext.refl _⟩
  ·rintro i g w2 ⟨h1, hi, hD, he⟩
   have ho2 := ho.ext he
   have hr := Reads.of_own ho2
   have hA := hr.some_ (by omega)
   iterate 2 refine J.seq ?_
   refine J.region ?_
   iterate 2 refine L.va rfl (X.move (by conv => lhs; whnf)) ?_
   refine L.va rfl (X.len rfl Tryz.underlying44) ?_
   refine L.va rfl (X.lss rfl rfl) ?_
   refine L.nil ?_
   refine J.dec rfl (fun hlt => ?_) (fun hlt => ?_)
   ·refine J.skip ?_
    refine J.seq ?_
    refine J.block ?_
    refine J.seq ?_
    refine J.quiet mixed (by kernel_rfl) ?_
    iterate 2 refine Qt.va rfl (fun w' hw => X.move (by conv => lhs; whnf)) ?_
    refine Qt.va rfl (fun w' hw => (by first | exact X.index1n rfl rfl Tryz.underlying44 sz_3 (by first | exact Option.some_ne_none _ | exact hr.some_ (by omega) | exact hA) (by omega) | exact X.index1 rfl rfl Tryz.underlying44 sz_3 (by first | exact Option.some_ne_none _ | exact hr.some_ (by omega) | exact hA) (by omega))) ?_
    refine Qt.va rfl (fun w' hw => X.load rfl sc_3 (by first | exact Ld.num (hr.ext hw) (by omega) | exact hA)) ?_
    iterate 2 refine Qt.va rfl (fun w' hw => X.move (by conv => lhs; whnf)) ?_
    refine Qt.va rfl (fun w' hw => X.sub rfl rfl (by omega)) ?_
    refine Qt.va rfl (fun w' hw => X.index1eI (j := i - 1) rfl rfl (by omega) Tryz.underlying44 sz_3 hA (by omega)) ?_
    refine Qt.va rfl (fun w' hw => X.load rfl sc_3 (by first | exact Ld.num (hr.ext hw) (by omega) | exact hA)) ?_
    refine Qt.va rfl (fun w' hw => X.eql rfl rfl) ?_
    refine Qt.nil (fun w3 hq => ?_)
    replace hr := hr.ext hq
    refine J.dec rfl (fun hd => ?_) (fun hd => ?_)
    ·have hD1 := hD.same h1 (by omega) hd
     have ho3 := ho2.ext hq
     refine J.seq ?_
     refine J.region ?_
     iterate 2 refine L.va rfl (X.move (by conv => lhs; whnf)) ?_
     refine L.va rfl ((by first | exact X.sliceFromn rfl rfl Tryz.underlying44 sz_3 (by omega) | exact X.sliceFrom rfl rfl Tryz.underlying44 sz_3 (by omega))) ?_
     refine L.va rfl (X.assign (by conv => lhs; whnf)) ?_
     refine L.nil ?_
     iterate 2 refine J.seq ?_
     refine J.region ?_
     refine L.va rfl (X.assign (by conv => lhs; whnf)) ?_
     refine L.nil ?_
     refine J.block ?_
     refine J.loop (X := Nat × Nat × List Int) [3, 5, 29, 30, 31, 32, 33, 34, 35, 36, 37, 38, 39, 40, 41, 42, 43, 44, 45, 46, 47, 48, 49, 50, 51, 52, 53] (fun (k, q, m) => [(3, .int .i64 (k : Int)), (5, .int .i64 (q : Int))]) (fun (k, q, m) w' => 1 ≤ k ∧ k < i + q ∧ 1 ≤ q ∧ i + q ≤ n ∧ w'.ownsRow N 3 1 (.slice A n c) n (nums .i64 m) ∧ w.grownBy w' (Value.ownBlock (.slice A n c)) ∧ m.length = n ∧ Dd l (i + q) (m.take k) ∧ (∀ j, i + q - 1 ≤ j → m.getD j 0 = l.getD j 0)) (fun (_, q, _) => n - (i + q)) ((i, 1, l)) (At2 (by first | rfl | exact at_int rfl (by omega) | exact at_slice rfl (by omega) | exact at_int rfl (by simp)) (by first | rfl | exact at_int rfl (by omega) | exact at_slice rfl (by omega) | exact at_int rfl (by simp))) ?_ ?_
     ·exact ⟨h1, Nat.lt_succ_self _, Nat.le_refl _, by omega, ho3, grown_ext (he.trans hq), hl, hD1, fun j _ => rfl⟩
     ·rintro ⟨k, q, m⟩ g w4 ⟨k1, k2, k3, k4, ho4, hg4, hml, hDp, hsame⟩
      have hr4 := Reads.of_own ho4
      have hr5 := part_nums hr4 (i := i) (j := n) (by omega) (Nat.le_refl _) hnc
      rw [List.take_of_length_le (by rw [List.length_drop]; omega)] at hr5
      have hA5 : (if c = i then A else A.map (·.add (i * 1))) ≠ none := by
       rw [if_neg (by omega)]
       cases A with
       | none => exact absurd rfl hA
       | some a => exact fun h => by cases h
      iterate 2 refine J.seq ?_
      refine J.region ?_
      iterate 2 refine L.va rfl (X.move (by conv => lhs; whnf)) ?_
      refine L.va rfl (X.len rfl Tryz.underlying44) ?_
      refine L.va rfl (X.lss rfl rfl) ?_
      refine L.nil ?_
      refine J.dec rfl (fun hlt2 => ?_) (fun hlt2 => ?_)
      ·have hlt2 : i + q < n := by omega
       refine J.skip ?_
       refine J.seq ?_
       refine J.block ?_
       refine J.seq ?_
       refine J.quiet mixed (by kernel_rfl) ?_
       iterate 2 refine Qt.va rfl (fun w' hw => X.move (by conv => lhs; whnf)) ?_
       refine Qt.va rfl (fun w' hw => (by first | exact X.index1n rfl rfl Tryz.underlying44 sz_3 (by first | exact Option.some_ne_none _ | exact hr5.some_ (by omega) | exact hA5) (by omega) | exact X.index1 rfl rfl Tryz.underlying44 sz_3 (by first | exact Option.some_ne_none _ | exact hr5.some_ (by omega) | exact hA5) (by omega))) ?_
       refine Qt.va rfl (fun w' hw => X.load rfl sc_3 (by first | exact Ld.num (hr5.ext hw) (by omega) | exact hA5)) ?_
       iterate 2 refine Qt.va rfl (fun w' hw => X.move (by conv => lhs; whnf)) ?_
       refine Qt.va rfl (fun w' hw => X.sub rfl rfl (by omega)) ?_
       refine Qt.va rfl (fun w' hw => X.index1eI (j := q - 1) rfl rfl (by omega) Tryz.underlying44 sz_3 hA5 (by omega)) ?_
       refine Qt.va rfl (fun w' hw => X.load rfl sc_3 (by first | exact Ld.num (hr5.ext hw) (by omega) | exact hA5)) ?_
       refine Qt.va rfl (fun w' hw => X.neq rfl rfl) ?_
       refine Qt.nil (fun w5 hq5 => ?_)
       replace hr5 := hr5.ext hq5
       rw [drop_getD, drop_getD, show i + (q - 1) = i + q - 1 by omega, hsame _ (by omega), hsame _ (Nat.le_refl _)]
       have hs5 := hs (i + q - 1) (i + q) (by omega) (by omega) hlt2
       have ho5 := ho4.ext hq5
       refine J.ndec rfl (fun hne => ?_) (fun hne => ?_)
       ·skip
        refine J.seq ?_
        refine J.region ?_
        iterate 4 refine L.va rfl (X.move (by conv => lhs; whnf)) ?_
        refine L.va rfl ((by first | exact X.index1n rfl rfl Tryz.underlying44 sz_3 (by first | exact Option.some_ne_none _ | exact hr5.some_ (by omega) | exact hA5) (by omega) | exact X.index1 rfl rfl Tryz.underlying44 sz_3 (by first | exact Option.some_ne_none _ | exact hr5.some_ (by omega) | exact hA5) (by omega))) ?_
        refine L.va rfl (X.load rfl sc_3 (by first | exact Ld.num hr5 (by omega) | exact hA5)) ?_
        refine L.va rfl (X.index1n rfl rfl Tryz.underlying44 sz_3 hA (by omega)) ?_
        refine L.storeON rfl rfl (by conv => lhs; whnf) sz_3 (ho5) (by omega) ?_
        intro w6 ho6 hg6 hb6 hs6
        rw [drop_getD, hsame _ (by omega)] at ho6
        refine L.nil ?_
        refine J.region ?_
        refine L.va rfl (X.move (by conv => lhs; whnf)) ?_
        refine L.va rfl (X.add rfl rfl (by omega)) ?_
        refine L.va rfl (X.assign (by conv => lhs; whnf)) ?_
        refine L.nil ?_
        refine J.region ?_
        refine L.va rfl (X.move (by conv => lhs; whnf)) ?_
        refine L.va rfl (X.add rfl rfl (by omega)) ?_
        refine L.va rfl (X.assign (by conv => lhs; whnf)) ?_
        refine L.nil ?_
        refine ⟨(k + 1, q + 1, m.set k (l.getD (i + q) 0)), At2 (by first | rfl | exact at_int rfl (by omega) | exact at_slice rfl (by omega) | exact at_int rfl (by simp)) (by first | rfl | exact at_int rfl (by omega) | exact at_slice rfl (by omega) | exact at_int rfl (by simp)), (by (iterate 27 refine Agr.lk rfl ?_); exact Agr.lk rfl (Agr.hav rfl Agr.rfl')), ?_⟩
        refine ⟨⟨by omega, by omega, by omega, by omega, ho6, grb_trans hg4 (grb_trans (grown_ext hq5) hg6), by rw [List.length_set]; exact hml, ?_, fun j hj => ?_⟩, by show n - (i + (q + 1)) < n - (i + q); omega⟩
        ·have e : (m.set k (l.getD (i + q) 0)).take (k + 1) = m.take k ++ [l.getD (i + q) 0] := by
          rw [Nrm.take_next _ 0 (by rw [List.length_set]; omega), List.take_set_of_le (Nat.le_refl _)]
          congr 2
          rw [List.getD, List.getElem?_set_self (by omega)]
          rfl
         rw [e]
         exact hDp.new (by omega) (by omega)
        ·have : k ≠ j := by omega
         rw [List.getD, List.getElem?_set_ne this]
         exact hsame j (by omega)
       ·skip
        refine J.skip ?_
        refine J.region ?_
        refine L.va rfl (X.move (by conv => lhs; whnf)) ?_
        refine L.va rfl (X.add rfl rfl (by omega)) ?_
        refine L.va rfl (X.assign (by conv => lhs; whnf)) ?_
        refine L.nil ?_
        refine ⟨(k, q + 1, m), At2 (by first | rfl | exact at_int rfl (by omega) | exact at_slice rfl (by omega) | exact at_int rfl (by simp)) (by first | rfl | exact at_int rfl (by omega) | exact at_slice rfl (by omega) | exact at_int rfl (by simp)), (by (iterate 17 refine Agr.lk rfl ?_); exact Agr.lk rfl (Agr.hav rfl Agr.rfl')), ?_⟩
        refine ⟨⟨by omega, by omega, by omega, by omega, ho5, grb_trans hg4 (grown_ext hq5), hml, hDp.same (by omega) (by omega) (by omega), fun j hj => hsame j (by omega)⟩, by show n - (i + (q + 1)) < n - (i + q); omega⟩
      ·refine J.exit ?_
       refine J.seq ?_
       refine J.region ?_
       iterate 2 refine L.va rfl (X.move (by conv => lhs; whnf)) ?_
       refine L.va rfl ((by first | exact X.sliceFromn rfl rfl Tryz.underlying44 sz_3 (by omega) | exact X.sliceFrom rfl rfl Tryz.underlying44 sz_3 (by omega))) ?_
       refine L.clear (z := .int .i64 0) rfl rfl Tryz.underlying44 (by kernel_rfl) rfl rfl ho4 (show k < n by omega) ?_
       intro w5 ho5 hg5
       refine L.nil ?_
       refine J.seq ?_
       refine J.region ?_
       iterate 2 refine L.va rfl (X.move (by conv => lhs; whnf)) ?_
       refine L.va rfl ((by first | exact X.sliceTon rfl rfl Tryz.underlying44 sz_3 (by omega) | exact X.sliceTo rfl rfl Tryz.underlying44 sz_3 (by omega))) ?_
       refine L.va rfl (X.assign (by conv => lhs; whnf)) ?_
       refine L.nil ?_
       refine J.ret ?_
       refine inB_ret <|  thn_ret <|  thn_ret <|  inB_ret <|  thn_ret <| ?_
       refine fin1 ?_
       refine ⟨k, m.take k, rfl, ho5, grb_trans hg4 hg5, hDp.up, fun x => hDp.mems (by omega) x⟩
    ·skip
     refine J.skip ?_
     refine J.region ?_
     refine L.va rfl (X.move (by conv => lhs; whnf)) ?_
     refine L.va rfl (X.add rfl rfl (by omega)) ?_
     refine L.va rfl (X.assign (by conv => lhs; whnf)) ?_
     refine L.nil ?_
     refine ⟨i + 1, At1 (by first | rfl | exact at_int rfl (by omega) | exact at_slice rfl (by omega) | exact at_int rfl (by simp)), (by (iterate 17 refine Agr.lk rfl ?_); exact Agr.lk rfl (Agr.hav rfl Agr.rfl')), ?_⟩
     refine ⟨⟨by omega, by omega, ?_, he.trans hq⟩, by omega⟩
     rw [Nrm.take_next l 0 (by omega)]
     have := hs (i - 1) i (by omega) (by omega) (by omega)
     exact hD.new (by omega) (by omega)
   ·refine J.exit ?_
    refine J.seq ?_
    refine J.region ?_
    refine L.va rfl (X.move (by conv => lhs; whnf)) ?_
    refine L.va rfl (X.assign (by conv => lhs; whnf)) ?_
    refine L.nil ?_
    refine J.ret ?_
    refine fin1 ?_
    obtain rfl : i = n := by omega
    rw [← hl, List.take_length, hl] at hD
    exact ⟨i, l, rfl, ho2, grown_ext he, hD.up, fun x => Iff.rfl⟩
end Go.Proofs.YtpomklkfedpkfaaGreat
namespace Go.Proofs.YtpomklkfedpkfaaGreat
set_option maxRecDepth 100000
open Go.RowKit H
open Srt
open Nrm (Up Dd Cmn)
set_option linter.unusedVariables false
theorem own_bot {w : World} {base : Nat} {e : TypeId} {size n : Nat} {v : Value} {xs : List Value} (h : w.ownsRow base e size v n xs) (g : Nat) (hg : v.ownBlock = some g) : base ≤ g := by
  rcases h.2 with ⟨rfl, _⟩ | ⟨b, cap, cur, rfl, hb, hh, _⟩
  · cases hg
  · obtain rfl : b = g := by injection hg
    exact hb
structure Cs where
  (A : Option Addr) (n c : Nat) (l : List Int)
namespace Cs
abbrev val (s : Cs) : Value := .slice s.A s.n s.c
structure At (s : Cs) (N : Nat) (w : World) : Prop where
  r : Reads w N 1 s.A s.n (nums .i64 s.l)
  c : s.n ≤ s.c
  m : s.c ≤ maxLen
theorem At.ext {f : Cs} {N : Nat} {w w' : World} (h : f.At N w) (he : Ext w w') : f.At N w' := ⟨h.r.ext he, h.c, h.m⟩
theorem At.low {f : Cs} {N B : Nat} {w w' : World} (h : f.At N w) (he : Below B w w') (hB : N ≤ B) : f.At N w' := ⟨h.r.low he hB, h.c, h.m⟩
theorem At.more {f : Cs} {N N' : Nat} {w : World} (h : f.At N w) (hN : N ≤ N') : f.At N' w := ⟨h.r.more hN, h.c, h.m⟩
theorem At.len {f : Cs} {N : Nat} {w : World} (h : f.At N w) : f.l.length = f.n := by have := h.r.1; simpa [nums] using this
theorem At.own {A : Option Addr} {n c N : Nat} {l : List Int} {w : World} {e : TypeId} (h : w.ownsRow N e 1 (.slice A n c) n (nums .i64 l)) : (Cs.mk A n c l).At w.heap.size w := ⟨Reads.of_own h, (own_bd h).1, (own_bd h).2⟩
def tl (s : Cs) : Cs := ⟨if s.c = 1 then s.A else s.A.map (·.add (1 * 1)), s.n - 1, s.c - 1, s.l.tail⟩
theorem At.tl {f : Cs} {N : Nat} {w : World} (h : f.At N w) (hn : 0 < f.n) : f.tl.At N w := by
  have hl := h.len
  have hc := h.c
  have hm := h.m
  have := part_nums h.r (i := 1) (j := f.n) hn (Nat.le_refl _) h.c
  rw [List.take_of_length_le (by rw [List.length_drop]; omega), List.drop_one] at this
  exact ⟨this, show f.n - 1 ≤ f.c - 1 by omega, show f.c - 1 ≤ maxLen by omega⟩
end Cs
theorem plainI (A : Option Addr) (n c : Nat) (l : List Int) (w : World) (hr : Reads w w.heap.size 1 A n (nums .i64 l)) (hn : n ≤ 5000) :
  Calls Tryz.prog 29 #[.slice A n c] w fun e w' => ∃ s : Cs, e = .returned s.val ∧ w'.ownsRow w.heap.size 3 1 s.val s.n (nums .i64 s.l) ∧ Ext w w' ∧ Up s.l ∧ (∀ x, x ∈ s.l ↔ x ∈ l) := by
 refine enter Tryz.func29 rfl (by kernel_rfl) ?_
 refine J.seq ?_
 refine J.region ?_
 refine L.va rfl (X.assign (by conv => lhs; whnf)) ?_
 refine L.nil ?_
 refine J.seq ?_
 refine J.region ?_
 refine L.va rfl (X.move (by conv => lhs; whnf)) ?_
 refine L.call rfl en_47 rfl (cloneI A n c l w hr hn) ?_
 rintro e w1 ⟨A1, c1, rfl, ho1, he1⟩
 refine ⟨_, rfl, ?_⟩
 refine L.va rfl (X.assign (by conv => lhs; whnf)) ?_
 refine L.nil ?_
 refine J.seq ?_
 refine J.region ?_
 refine L.va rfl (X.move (by conv => lhs; whnf)) ?_
 refine L.call rfl en_48 rfl (sortI A1 n c1 w.heap.size l w1 ho1 (by omega)) ?_
 rintro e w2 ⟨rfl, l2, ho2, hg2, hp2, hs2⟩
 refine ⟨_, rfl, ?_⟩
 refine L.nil ?_
 refine J.seq ?_
 refine J.region ?_
 refine L.va rfl (X.move (by conv => lhs; whnf)) ?_
 refine L.call rfl en_49 rfl (compactI A1 n c1 w.heap.size l2 w2 ho2 hs2 (by omega)) ?_
 rintro e w3 ⟨k, y, rfl, ho3, hg3, hu, hm⟩
 refine ⟨_, rfl, ?_⟩
 refine L.va rfl (X.assign (by conv => lhs; whnf)) ?_
 refine L.nil ?_
 refine J.ret ?_
 refine fin1 ?_
 exact ⟨⟨A1, k, c1, y⟩, rfl, ho3, he1.grw (grb_trans hg2 hg3) (fun g hg => own_bot ho1 g hg), hu, fun x => (hm x).trans hp2.mem_iff⟩
theorem commonI (a b : Cs) (w : World) (ha : a.At w.heap.size w) (hb : b.At w.heap.size w) (ua : Up a.l) (ub : Up b.l) (hn : a.n ≤ 5000) :
  Calls Tryz.prog 28 #[a.val, b.val] w fun e w' => ∃ s : Cs, e = .returned s.val ∧ w'.ownsRow w.heap.size 3 1 s.val s.n (nums .i64 s.l) ∧ Ext w w' ∧ Up s.l ∧ (∀ x, x ∈ s.l ↔ (x ∈ a.l ∧ x ∈ b.l)) := by
 have hma := ha.m
 have hca := ha.c
 have hmb := hb.m
 have hcb := hb.c
 unfold maxLen at hma hmb
 refine enter Tryz.func28 rfl (by kernel_rfl) ?_
 refine J.seq ?_
 refine J.region ?_
 refine L.va rfl (X.assign (by conv => lhs; whnf)) ?_
 refine L.nil ?_
 refine J.seq ?_
 refine J.region ?_
 refine L.va rfl (X.assign (by conv => lhs; whnf)) ?_
 refine L.nil ?_
 refine J.seq ?_
 refine J.block ?_
 refine J.loop (X := Cs × Cs × Cs) [0, 1, 5, 6, 7, 8, 9, 10, 11, 12, 13, 14, 15, 16, 17, 18, 19, 20, 21, 22, 23, 24, 25, 26, 27, 28, 29, 30, 31, 32, 33, 34, 35, 36, 37, 38, 39, 40, 41, 42, 43] (fun (u, v, o) => [(0, u.val), (1, v.val), (5, o.val)]) (fun (u, v, o) w' => u.At w.heap.size w' ∧ v.At w.heap.size w' ∧ w'.ownsRow w.heap.size 3 1 o.val o.n (nums .i64 o.l) ∧ Cmn a.l b.l u.l v.l o.l ∧ o.n + u.n ≤ a.n ∧ Ext w w') (fun (u, v, _) => u.n + v.n) ((a, b, ⟨none, 0, 0, []⟩)) (At3 (by first | rfl | exact at_int rfl (by omega) | exact at_slice rfl (by omega) | exact at_int rfl (by simp)) (by first | rfl | exact at_int rfl (by omega) | exact at_slice rfl (by omega) | exact at_int rfl (by simp)) (by first | rfl | exact at_int rfl (by omega) | exact at_slice rfl (by omega) | exact at_int rfl (by simp))) ?_ ?_
 ·exact ⟨ha, hb, own_nilN _ _ _ _, Cmn.start ua ub, by show 0 + a.n ≤ a.n; omega, Ext.refl _⟩
 ·rintro ⟨u, v, o⟩ g w2 ⟨hu, hv, ho, hC, hlen, he⟩
  have hmu := hu.m
  have hcu := hu.c
  have hlu := hu.len
  have hmv := hv.m
  have hcv := hv.c
  have hlv := hv.len
  unfold maxLen at hmu hmv
  have hru := hu.r
  have hrv := hv.r
  iterate 2 refine J.seq ?_
  refine J.region ?_
  refine L.va rfl (X.move (by conv => lhs; whnf)) ?_
  refine L.va rfl (X.len rfl Tryz.underlying44) ?_
  refine L.va rfl (X.gtr rfl rfl) ?_
  refine L.va rfl (X.move (by conv => lhs; whnf)) ?_
  refine L.caseDec (k := 9) rfl (fun h1 => ?_) (fun h1 => ?_)
  ·refine L.va rfl (X.move (by conv => lhs; whnf)) ?_
   refine L.va rfl (X.len rfl Tryz.underlying44) ?_
   refine L.va rfl (X.gtr rfl rfl) ?_
   refine L.va rfl (X.pickT rfl (by conv => lhs; whnf)) ?_
   refine L.nil ?_
   refine J.dec rfl (fun h2 => ?_) (fun h2 => ?_)
   ·have hAu := hru.some_ (by omega)
    have hAv := hrv.some_ (by omega)
    obtain ⟨x, xt, ex⟩ : ∃ x xt, u.l = x :: xt := by
     match h : u.l with
     | [] => rw [h] at hlu; simp at hlu; omega
     | x :: xt => exact ⟨x, xt, rfl⟩
    obtain ⟨z, zt, ez⟩ : ∃ x xt, v.l = x :: xt := by
     match h : v.l with
     | [] => rw [h] at hlv; simp at hlv; omega
     | x :: xt => exact ⟨x, xt, rfl⟩
    rw [ex, ez] at hC
    have eu : u.tl.l = xt := by show u.l.tail = xt; rw [ex]; rfl
    have ew : v.tl.l = zt := by show v.l.tail = zt; rw [ez]; rfl
    rw [ex] at hru
    rw [ez] at hrv
    have hut := hu.tl (by omega)
    have hvt := hv.tl (by omega)
    refine J.skip ?_
    iterate 2 refine J.block ?_
    refine J.seq ?_
    refine J.quiet mixed (by kernel_rfl) ?_
    refine Qt.va rfl (fun w' hw => X.move (by conv => lhs; whnf)) ?_
    refine Qt.va rfl (fun w' hw => X.index1n (j := 0) rfl rfl Tryz.underlying44 sz_3 (by first | exact Option.some_ne_none _ | exact hru.some_ (by omega) | exact hrv.some_ (by omega) | exact hAu | exact hAv) (by omega)) ?_
    refine Qt.va rfl (fun w' hw => X.load rfl sc_3 (by first | exact Ld.num (hru.ext hw) (by omega) | exact Ld.num (hrv.ext hw) (by omega) | exact hAu | exact hAv)) ?_
    refine Qt.va rfl (fun w' hw => X.move (by conv => lhs; whnf)) ?_
    refine Qt.va rfl (fun w' hw => X.index1n (j := 0) rfl rfl Tryz.underlying44 sz_3 (by first | exact Option.some_ne_none _ | exact hru.some_ (by omega) | exact hrv.some_ (by omega) | exact hAu | exact hAv) (by omega)) ?_
    refine Qt.va rfl (fun w' hw => X.load rfl sc_3 (by first | exact Ld.num (hru.ext hw) (by omega) | exact Ld.num (hrv.ext hw) (by omega) | exact hAu | exact hAv)) ?_
    refine Qt.va rfl (fun w' hw => X.lss rfl rfl) ?_
    refine Qt.va rfl (fun w' hw => X.assign (by conv => lhs; whnf)) ?_
    refine Qt.nil (fun w3 hq => ?_)
    replace hru := hru.ext hq
    replace hrv := hrv.ext hq
    refine J.dec rfl (fun h3 => ?_) (fun h3 => ?_)
    ·refine J.region ?_
     refine L.va rfl (X.move (by conv => lhs; whnf)) ?_
     refine L.va rfl ((by first | exact X.sliceFromn (i := 1) rfl rfl Tryz.underlying44 sz_3 (by omega) | exact X.sliceFrom rfl rfl Tryz.underlying44 sz_3 (by omega))) ?_
     refine L.va rfl (X.assign (by conv => lhs; whnf)) ?_
     refine L.nil ?_
     refine ⟨(u.tl, v, o), At3 (by first | rfl | exact at_int rfl (by omega) | exact at_slice rfl (by omega) | exact at_int rfl (by simp)) (by first | rfl | exact at_int rfl (by omega) | exact at_slice rfl (by omega) | exact at_int rfl (by simp)) (by first | rfl | exact at_int rfl (by omega) | exact at_slice rfl (by omega) | exact at_int rfl (by simp)), (by (iterate 20 refine Agr.lk rfl ?_); exact Agr.lk rfl (Agr.hav rfl Agr.rfl')), ?_⟩
     refine ⟨⟨hut.ext hq, hv.ext hq, ho.ext hq, ?_, ?_, he.trans hq⟩, ?_⟩
     ·rw [eu, ez]; exact hC.left h3
     ·show o.n + (u.n - 1) ≤ a.n; omega
     ·show u.n - 1 + v.n < u.n + v.n; omega
    ·refine J.seq ?_
     refine J.quiet mixed (by kernel_rfl) ?_
     refine Qt.va rfl (fun w' hw => X.move (by conv => lhs; whnf)) ?_
     refine Qt.va rfl (fun w' hw => X.index1n (j := 0) rfl rfl Tryz.underlying44 sz_3 (by first | exact Option.some_ne_none _ | exact hru.some_ (by omega) | exact hrv.some_ (by omega) | exact hAu | exact hAv) (by omega)) ?_
     refine Qt.va rfl (fun w' hw => X.load rfl sc_3 (by first | exact Ld.num (hru.ext hw) (by omega) | exact Ld.num (hrv.ext hw) (by omega) | exact hAu | exact hAv)) ?_
     refine Qt.va rfl (fun w' hw => X.move (by conv => lhs; whnf)) ?_
     refine Qt.va rfl (fun w' hw => X.index1n (j := 0) rfl rfl Tryz.underlying44 sz_3 (by first | exact Option.some_ne_none _ | exact hru.some_ (by omega) | exact hrv.some_ (by omega) | exact hAu | exact hAv) (by omega)) ?_
     refine Qt.va rfl (fun w' hw => X.load rfl sc_3 (by first | exact Ld.num (hru.ext hw) (by omega) | exact Ld.num (hrv.ext hw) (by omega) | exact hAu | exact hAv)) ?_
     refine Qt.va rfl (fun w' hw => X.gtr rfl rfl) ?_
     refine Qt.va rfl (fun w' hw => X.assign (by conv => lhs; whnf)) ?_
     refine Qt.nil (fun w4 hq4 => ?_)
     replace hru := hru.ext hq4
     replace hrv := hrv.ext hq4
     refine J.dec rfl (fun h4 => ?_) (fun h4 => ?_)
     ·refine J.region ?_
      refine L.va rfl (X.move (by conv => lhs; whnf)) ?_
      refine L.va rfl ((by first | exact X.sliceFromn (i := 1) rfl rfl Tryz.underlying44 sz_3 (by omega) | exact X.sliceFrom rfl rfl Tryz.underlying44 sz_3 (by omega))) ?_
      refine L.va rfl (X.assign (by conv => lhs; whnf)) ?_
      refine L.nil ?_
      refine ⟨(u, v.tl, o), At3 (by first | rfl | exact at_int rfl (by omega) | exact at_slice rfl (by omega) | exact at_int rfl (by simp)) (by first | rfl | exact at_int rfl (by omega) | exact at_slice rfl (by omega) | exact at_int rfl (by simp)) (by first | rfl | exact at_int rfl (by omega) | exact at_slice rfl (by omega) | exact at_int rfl (by simp)), (by (iterate 28 refine Agr.lk rfl ?_); exact Agr.lk rfl (Agr.hav rfl Agr.rfl')), ?_⟩
      refine ⟨⟨(hu.ext hq).ext hq4, (hvt.ext hq).ext hq4, (ho.ext hq).ext hq4, ?_, hlen, (he.trans hq).trans hq4⟩, ?_⟩
      ·rw [ew, ex]; exact hC.right h4
      ·show u.n + (v.n - 1) < u.n + v.n; omega
     ·have e0 : x = z := by
       have h3 : ¬ x < z := h3
       have h4 : ¬ z < x := h4
       omega
      subst e0
      have ho4 := (ho.ext hq).ext hq4
      have he4 := (he.trans hq).trans hq4
      have z4 := he4.le
      refine J.seq ?_
      refine J.region ?_
      iterate 2 refine L.va rfl (X.move (by conv => lhs; whnf)) ?_
      refine L.va rfl (X.index1n (j := 0) rfl rfl Tryz.underlying44 sz_3 (by first | exact Option.some_ne_none _ | exact hru.some_ (by omega) | exact hrv.some_ (by omega) | exact hAu | exact hAv) (by omega)) ?_
      refine L.va rfl (X.load rfl sc_3 (by first | exact Ld.num hru (by omega) | exact Ld.num hrv (by omega) | exact hAu | exact hAv)) ?_
      refine L.bslice (vs := [_]) rfl (Evs.cons (by conv => lhs; whnf) Evs.nil) rfl rfl rfl rfl Tryz.underlying44 sz_3 zr_3 (by decide) ?_
      intro b5 w5 hb5 hs5 hk5 he5
      refine L.appendQ (q := o.n + 1) (ys := o.l ++ [x]) rfl rfl rfl Tryz.underlying44 el_3 (ho4.ext he5) ((blk_reads (q := 1) (l := nums .i64 [x]) hk5 hk5.lt rfl)) (by omega) (by simp) (by unfold maxLen; omega) (by omega) ?_
      intro A6 c6 w6 ho6 hg6 hb6 hor6
      have he46 : Ext w w6 := (he4.trans he5).low hb6 (Nat.le_refl _)
      have hut6 : u.tl.At w.heap.size w6 := ((((hut.ext hq).ext hq4).ext he5)).low hb6 (Nat.le_refl _)
      have hvt6 : v.tl.At w.heap.size w6 := ((((hvt.ext hq).ext hq4).ext he5)).low hb6 (Nat.le_refl _)
      refine L.va rfl (X.assign (by conv => lhs; whnf)) ?_
      refine L.nil ?_
      refine J.quiet mixed (by kernel_rfl) ?_
      refine Qt.va rfl (fun w' hw => X.move (by conv => lhs; whnf)) ?_
      refine Qt.va rfl (fun w' hw => (by first | exact X.sliceFromn (i := 1) rfl rfl Tryz.underlying44 sz_3 (by omega) | exact X.sliceFrom rfl rfl Tryz.underlying44 sz_3 (by omega))) ?_
      refine Qt.va rfl (fun w' hw => X.move (by conv => lhs; whnf)) ?_
      refine Qt.va rfl (fun w' hw => (by first | exact X.sliceFromn (i := 1) rfl rfl Tryz.underlying44 sz_3 (by omega) | exact X.sliceFrom rfl rfl Tryz.underlying44 sz_3 (by omega))) ?_
      iterate 2 refine Qt.va rfl (fun w' hw => X.assign (by conv => lhs; whnf)) ?_
      refine Qt.nil (fun w7 hq7 => ?_)
      refine ⟨(u.tl, v.tl, ⟨A6, o.n + 1, c6, o.l ++ [x]⟩), At3 (by first | rfl | exact at_int rfl (by omega) | exact at_slice rfl (by omega) | exact at_int rfl (by simp)) (by first | rfl | exact at_int rfl (by omega) | exact at_slice rfl (by omega) | exact at_int rfl (by simp)) (by first | rfl | exact at_int rfl (by omega) | exact at_slice rfl (by omega) | exact at_int rfl (by simp)), (by (iterate 38 refine Agr.lk rfl ?_); exact Agr.lk rfl (Agr.hav rfl Agr.rfl')), ?_⟩
      refine ⟨⟨hut6.ext hq7, hvt6.ext hq7, ho6.ext hq7, ?_, ?_, he46.trans hq7⟩, ?_⟩
      ·rw [eu, ew]; exact hC.both
      ·show o.n + 1 + (u.n - 1) ≤ a.n; omega
      ·show u.n - 1 + (v.n - 1) < u.n + v.n; omega
   ·refine J.exit ?_
    refine J.seq ?_
    refine J.region ?_
    refine L.va rfl (X.move (by conv => lhs; whnf)) ?_
    refine L.va rfl (X.assign (by conv => lhs; whnf)) ?_
    refine L.nil ?_
    refine J.ret ?_
    refine fin1 ?_
    have e0 : v.l = [] := List.length_eq_zero_iff.1 (by omega)
    exact ⟨o, rfl, ho, he, hC.uo, hC.stop (.inr e0)⟩
  ·refine L.no rfl ?_
   iterate 2 refine L.no rfl ?_
   refine L.va rfl (X.pickF rfl (by conv => lhs; whnf)) ?_
   refine L.nil ?_
   refine J.iteF rfl ?_
   refine J.exit ?_
   refine J.seq ?_
   refine J.region ?_
   refine L.va rfl (X.move (by conv => lhs; whnf)) ?_
   refine L.va rfl (X.assign (by conv => lhs; whnf)) ?_
   refine L.nil ?_
   refine J.ret ?_
   refine fin1 ?_
   have e0 : u.l = [] := List.length_eq_zero_iff.1 (by omega)
   exact ⟨o, rfl, ho, he, hC.uo, hC.stop (.inl e0)⟩
end Go.Proofs.YtpomklkfedpkfaaGreat
namespace Go.Proofs.YtpomklkfedpkfaaGreat
set_option maxRecDepth 100000
open Go.RowKit H
set_option linter.unusedVariables false
def fst' {α : Type} (g : α → Int) : List α → Int
  | [] => 0
  | x :: t => if g x ≠ 0 then g x else fst' g t
theorem fst_at {α : Type} {g : α → Int} {d : α} : ∀ {l : List α} {i : Nat}, i < l.length → (∀ j, j < i → g (l.getD j d) = 0) → g (l.getD i d) ≠ 0 → fst' g l = g (l.getD i d)
  | [], i, h, _, _ => absurd h (by simp)
  | x :: t, 0, _, _, h => by
    have h : g x ≠ 0 := h
    show (if g x ≠ 0 then g x else fst' g t) = g x
    rw [if_pos h]
  | x :: t, i + 1, h, hP, he => by
    have h0 : g x = 0 := hP 0 (by omega)
    show (if g x ≠ 0 then g x else fst' g t) = g ((x :: t).getD (i + 1) d)
    rw [if_neg (fun k => k h0)]
    exact fst_at (l := t) (i := i) (by simpa using h) (fun j hj => hP (j + 1) (by omega)) he
theorem fst_0 {α : Type} {g : α → Int} {d : α} : ∀ {l : List α}, (∀ j, j < l.length → g (l.getD j d) = 0) → fst' g l = 0
  | [], _ => rfl
  | x :: t, hP => by
    have h0 : g x = 0 := hP 0 (by simp)
    show (if g x ≠ 0 then g x else fst' g t) = 0
    rw [if_neg (fun k => k h0)]
    exact fst_0 (l := t) fun j hj => hP (j + 1) (by simpa using hj)
theorem fst_ok {α : Type} {g : α → Int} {d : α} : ∀ {l : List α}, fst' g l = 0 → ∀ j, j < l.length → g (l.getD j d) = 0
  | [], _, j, hj => absurd hj (by simp)
  | x :: t, h, j, hj => by
    have h : (if g x ≠ 0 then g x else fst' g t) = 0 := h
    by_cases h0 : g x = 0
    · rw [if_neg (fun k => k h0)] at h
      cases j with
      | zero => exact h0
      | succ j => exact fst_ok (l := t) h j (by simpa using hj)
    · rw [if_pos h0] at h; exact absurd h h0
structure Fi where
  (d : Int) (A : Option Addr) (n c : Nat) (l : List Int)
namespace Fi
abbrev vs (f : Fi) : List Value := [.int .i64 f.d, .slice f.A f.n f.c]
abbrev val (f : Fi) : Value := .agg f.vs.toArray
structure At (f : Fi) (N : Nat) (w : World) : Prop where
  r : Reads w N 1 f.A f.n (nums .i64 f.l)
  m : f.n ≤ maxLen
theorem At.ext {f : Fi} {N : Nat} {w w' : World} (h : f.At N w) (he : Ext w w') : f.At N w' := ⟨h.r.ext he, h.m⟩
theorem At.low {f : Fi} {N B : Nat} {w w' : World} (h : f.At N w) (he : Below B w w') (hB : N ≤ B) : f.At N w' := ⟨h.r.low he hB, h.m⟩
theorem At.more {f : Fi} {N N' : Nat} {w : World} (h : f.At N w) (hN : N ≤ N') : f.At N' w := ⟨h.r.more hN, h.m⟩
theorem At.len {f : Fi} {N : Nat} {w : World} (h : f.At N w) : f.l.length = f.n := by have := h.r.1; simpa [nums] using this
end Fi
def fi0 : Fi := ⟨0, none, 0, 0, []⟩
theorem fi_len (f : Fi) : f.vs.length = 2 := rfl
theorem gtF {l : List Fi} {i : Nat} (h : i < l.length) : l[i]? = some (l.getD i fi0) := by rw [List.getD, List.getElem?_eq_getElem h]; rfl
theorem memF {l : List Fi} {i : Nat} (h : i < l.length) : l.getD i fi0 ∈ l := by rw [List.getD, List.getElem?_eq_getElem h]; exact List.getElem_mem _
structure Fis where
  (A : Option Addr) (n c : Nat) (l : List Fi)
namespace Fis
abbrev val (s : Fis) : Value := .slice s.A s.n s.c
structure At (s : Fis) (N : Nat) (w : World) : Prop where
  r : Reads w N 2 s.A s.n (s.l.flatMap Fi.vs)
  h : ∀ x ∈ s.l, x.At N w
  l : s.l.length = s.n
  m : s.n ≤ maxLen
theorem At.ext {s : Fis} {N : Nat} {w w' : World} (h : s.At N w) (he : Ext w w') : s.At N w' := ⟨h.r.ext he, fun x hx => (h.h x hx).ext he, h.l, h.m⟩
theorem At.low {s : Fis} {N B : Nat} {w w' : World} (h : s.At N w) (he : Below B w w') (hB : N ≤ B) : s.At N w' := ⟨h.r.low he hB, fun x hx => (h.h x hx).low he hB, h.l, h.m⟩
theorem At.more {s : Fis} {N N' : Nat} {w : World} (h : s.At N w) (hN : N ≤ N') : s.At N' w := ⟨h.r.more hN, fun x hx => (h.h x hx).more hN, h.l, h.m⟩
theorem At.one {s : Fis} {N : Nat} {w : World} (h : s.At N w) {i : Nat} (hi : i < s.n) : (s.l.getD i fi0).At N w := h.h _ (memF (by rw [h.l]; exact hi))
end Fis
abbrev cOk (s : Sch) (d : Int) (c : Int) : Prop := 0 ≤ c ∧ c < (s.ds.getD d.toNat d0).2
def fE (s : Sch) (f : Fi) : Int := if f.d < 0 ∨ (s.nd : Int) ≤ f.d then 11 else if 4096 < f.n then 3 else if ∃ i, i < f.n ∧ ¬ cOk s f.d (f.l.getD i 0) then 2 else 0
def fcode (s : Sch) (f : Fis) : Int := if s.code ≠ 0 then 1 else if 20 < f.n then 3 else fst' (fE s) f.l
theorem fE_11 {s : Sch} {f : Fi} (h : f.d < 0 ∨ (s.nd : Int) ≤ f.d) : fE s f = 11 := by unfold fE; rw [if_pos h]
theorem fE_3 {s : Sch} {f : Fi} (h : ¬ (f.d < 0 ∨ (s.nd : Int) ≤ f.d)) (h2 : 4096 < f.n) : fE s f = 3 := by unfold fE; rw [if_neg h, if_pos h2]
theorem fE_2 {s : Sch} {f : Fi} (h : ¬ (f.d < 0 ∨ (s.nd : Int) ≤ f.d)) (h2 : ¬ 4096 < f.n) {i : Nat} (hi : i < f.n) (h3 : ¬ cOk s f.d (f.l.getD i 0)) : fE s f = 2 := by unfold fE; rw [if_neg h, if_neg h2, if_pos ⟨i, hi, h3⟩]
theorem fE_0 {s : Sch} {f : Fi} (h : ¬ (f.d < 0 ∨ (s.nd : Int) ≤ f.d)) (h2 : ¬ 4096 < f.n) (h3 : ∀ i, i < f.n → cOk s f.d (f.l.getD i 0)) : fE s f = 0 := by
  unfold fE; rw [if_neg h, if_neg h2, if_neg]; rintro ⟨i, hi, k⟩; exact k (h3 i hi)
theorem fcheck {s : Sch} {f : Fis} {w : World} (H : s.Here w) (hf : f.At w.heap.size w) : Calls Tryz.prog 15 #[s.val, f.val] w fun e w' => e = .returned (.int .i64 (fcode s f)) ∧ Ext w w' := by
 have hl := hf.l
 have hm := hf.m
 have hle := H.hle
 unfold maxLen at hm
 refine enter Tryz.func15 rfl (by kernel_rfl) ?_
 refine J.seq ?_
 refine J.region ?_
 refine L.boxA (l := [_, _, _, _]) rfl rfl ?_
 intro b1 w1 hb1 hs1 hk1 he1
 have H1 := H.ext he1
 refine L.va rfl (X.assign (by conv => lhs; whnf)) ?_
 refine L.nil ?_
 iterate 2 refine J.seq ?_
 refine J.region ?_
 refine L.va rfl ((by first | exact X.loadAgg rfl (range_l hk1) Tryz.underlying26 rfl (by kernel_rfl) | exact X.loadAgg rfl (range_blk hk1) Tryz.underlying26 rfl (by kernel_rfl))) ?_
 refine L.call rfl en_30 rfl (H1.check) ?_
 rintro e w2 ⟨rfl, he2⟩
 refine ⟨_, rfl, ?_⟩
 have he02 := he1.trans he2
 replace hk1 := hk1.ext he2
 refine L.va rfl (X.neq rfl rfl) ?_
 refine L.nil ?_
 refine J.ndec rfl (fun h1 => ?_) (fun h1 => ?_)
 ·have e : fcode s f = 1 := by unfold fcode; rw [if_pos h1]
  rw [e]
  refine J.seq ?_
  refine J.region ?_
  refine L.va rfl (X.assign (by conv => lhs; whnf)) ?_
  refine L.nil ?_
  refine J.ret ?_
  refine thn_ret <| ?_
  refine fin1 ?_
  exact ⟨rfl, he02⟩
 refine J.skip ?_
 iterate 2 refine J.seq ?_
 refine J.region ?_
 refine L.va rfl (X.move (by conv => lhs; whnf)) ?_
 refine L.va rfl (X.len rfl Tryz.underlying28) ?_
 refine L.va rfl (X.gtr rfl rfl) ?_
 refine L.nil ?_
 refine J.dec rfl (fun h2 => ?_) (fun h2 => ?_)
 ·have e : fcode s f = 3 := by unfold fcode; rw [if_neg (fun h => h h1), if_pos (by omega)]
  rw [e]
  refine J.seq ?_
  refine J.region ?_
  refine L.va rfl (X.assign (by conv => lhs; whnf)) ?_
  refine L.nil ?_
  refine J.ret ?_
  refine thn_ret <| ?_
  refine fin1 ?_
  exact ⟨rfl, he02⟩
 have e : fcode s f = fst' (fE s) f.l := by unfold fcode; rw [if_neg (fun h => h h1), if_neg (by omega)]
 rw [e]
 have z2 := he02.le
 have H2 := H.ext he02
 refine J.skip ?_
 iterate 2 refine J.seq ?_
 refine J.region ?_
 refine L.va rfl (X.move (by conv => lhs; whnf)) ?_
 refine L.va rfl (X.len rfl Tryz.underlying28) ?_
 refine L.va rfl (X.move (by conv => lhs; whnf)) ?_
 refine L.nil ?_
 refine J.block ?_
 refine J.loop (X := Nat) [4, 6, 8, 17, 18, 19, 20, 21, 22, 23, 24, 25, 26, 27, 28, 29, 30, 31, 32, 33, 34, 35, 36, 37, 38, 39, 40, 41, 42, 43, 44, 45, 46, 47, 48, 49, 50, 51, 52, 53, 54, 55, 56, 57] (fun i => [(17, .int .i64 (i : Int))]) (fun i w' => i ≤ f.n ∧ (∀ j, j < i → fE s (f.l.getD j fi0) = 0) ∧ Ext w2 w') (fun i => f.n - i) (0) (At1 (by first | rfl | exact at_int rfl (by omega) | exact at_slice rfl (by omega) | exact at_int rfl (by simp))) ?_ ?_
 ·exact ⟨Nat.zero_le _, fun j hj => absurd hj (by omega), Ext.refl _⟩
 ·rintro i g w3 ⟨hi, hP, he3⟩
  have z3 := he3.le
  have he03 := he02.trans he3
  have hf3 := hf.ext he03
  have hk3 := hk1.ext he3
  have H3 := H2.ext he3
  refine J.seq ?_
  refine J.region ?_
  refine L.va rfl (X.lss rfl rfl) ?_
  refine L.nil ?_
  refine J.seq ?_
  refine J.dec rfl (fun hlt => ?_) (fun hlt => ?_)
  ·have hin : i < f.n := by omega
   have hA := hf3.r.some_ (by omega)
   obtain ⟨x, hx⟩ : ∃ x, x = f.l.getD i fi0 := ⟨_, rfl⟩
   have hX := hf3.one hin
   have hgt := gtF (l := f.l) (i := i) (by omega)
   rw [← hx] at hX hgt
   refine J.skip ?_
   refine J.seq ?_
   refine J.block ?_
   refine J.seq ?_
   refine J.region ?_
   refine L.va rfl ((by first | exact X.indexAddrn rfl rfl Tryz.underlying28 sz_46 (by first | exact Option.some_ne_none _ | exact hA) (by omega) | exact X.indexAddr rfl rfl Tryz.underlying28 sz_46 (by first | exact Option.some_ne_none _ | exact hA) (by omega))) ?_
   refine L.va rfl (X.loadRow (cs := x.vs) rfl hf3.r (fun r u hu => flat_row fi_len hgt r u hu) (Nat.zero_lt_succ _) Tryz.underlying46 rfl (by kernel_rfl)) ?_
   refine L.alloc rfl zr_46 ?_
   intro b4 w4 hb4 hs4 hk4 he4
   refine L.storeAgg (vs := [_, _]) rfl rfl rfl rfl sz_46 (hk4) rfl ?_
   intro w5 hk5 hg5 hs5
   have he35 : Ext w3 w5 := he4.grw hg5 (by intro g hg; injection hg with hg; omega)
   have hk5 : Blk w5 b4 46 x.vs.toArray := hk5
   have he05 := he03.trans he35
   have he25 := he3.trans he35
   have hk15 := hk3.ext he35
   have hX5 := hX.ext he35
   have H5 := H3.ext he35
   have hxl := hX5.len
   have hxm := hX5.m
   unfold maxLen at hxm
   have z5 := he25.le
   refine L.nil ?_
   iterate 2 refine J.seq ?_
   refine J.region ?_
   refine L.va rfl (X.fieldAddr rfl Tryz.underlying46 rfl sz_3 (by decide)) ?_
   refine L.va rfl (X.load rfl sc_3 (by first | exact Ld.blk hk5 rfl | exact Ld.blk hk15 rfl | exact hA)) ?_
   refine L.va rfl (X.lss rfl rfl) ?_
   refine L.va rfl (X.move (by conv => lhs; whnf)) ?_
   refine L.caseDec (k := 24) rfl (fun h3 => ?_) (fun h3 => ?_)
   ·refine L.no rfl ?_
    iterate 5 refine L.no rfl ?_
    refine L.va rfl (X.pickT rfl (by conv => lhs; whnf)) ?_
    refine L.nil ?_
    refine J.iteT rfl ?_
    rw [fst_at (d := fi0) (i := i) (by omega) hP (by rw [← hx, fE_11 (by omega)]; decide), ← hx, fE_11 (by omega)]
    refine J.seq ?_
    refine J.region ?_
    refine L.va rfl (X.assign (by conv => lhs; whnf)) ?_
    refine L.nil ?_
    refine J.ret ?_
    refine thn_ret <|  inB_ret <|  thn_ret <|  thn_ret <|  inB_ret <|  thn_ret <| ?_
    refine fin1 ?_
    exact ⟨rfl, he05⟩
   refine L.va rfl (X.fieldAddr rfl Tryz.underlying46 rfl sz_3 (by decide)) ?_
   refine L.va rfl (X.load rfl sc_3 (by first | exact Ld.blk hk5 rfl | exact Ld.blk hk15 rfl | exact hA)) ?_
   refine L.va rfl (X.fieldAddr rfl Tryz.underlying26 rfl sz_22 (by decide)) ?_
   refine L.va rfl (X.load rfl sc_22 (by first | exact Ld.blk hk5 rfl | exact Ld.blk hk15 rfl | exact hA)) ?_
   refine L.va rfl (X.len rfl Tryz.underlying22) ?_
   refine L.va rfl (X.geq rfl rfl) ?_
   refine L.va rfl (X.pickF rfl (by conv => lhs; whnf)) ?_
   refine L.nil ?_
   refine J.dec rfl (fun h4 => ?_) (fun h4 => ?_)
   ·rw [fst_at (d := fi0) (i := i) (by omega) hP (by rw [← hx, fE_11 (by omega)]; decide), ← hx, fE_11 (by omega)]
    refine J.seq ?_
    refine J.region ?_
    refine L.va rfl (X.assign (by conv => lhs; whnf)) ?_
    refine L.nil ?_
    refine J.ret ?_
    refine thn_ret <|  inB_ret <|  thn_ret <|  thn_ret <|  inB_ret <|  thn_ret <| ?_
    refine fin1 ?_
    exact ⟨rfl, he05⟩
   refine J.skip ?_
   iterate 2 refine J.seq ?_
   refine J.region ?_
   refine L.va rfl (X.fieldAddr rfl Tryz.underlying46 rfl sz_44 (by decide)) ?_
   refine L.va rfl (X.load rfl sc_44 (by first | exact Ld.blk hk5 rfl | exact Ld.blk hk15 rfl | exact hA)) ?_
   refine L.va rfl (X.len rfl Tryz.underlying44) ?_
   refine L.va rfl (X.gtr rfl rfl) ?_
   refine L.nil ?_
   refine J.dec rfl (fun h5 => ?_) (fun h5 => ?_)
   ·rw [fst_at (d := fi0) (i := i) (by omega) hP (by rw [← hx, fE_3 (by omega) (by omega)]; decide), ← hx, fE_3 (by omega) (by omega)]
    refine J.seq ?_
    refine J.region ?_
    refine L.va rfl (X.assign (by conv => lhs; whnf)) ?_
    refine L.nil ?_
    refine J.ret ?_
    refine thn_ret <|  inB_ret <|  thn_ret <|  thn_ret <|  inB_ret <|  thn_ret <| ?_
    refine fin1 ?_
    exact ⟨rfl, he05⟩
   obtain ⟨dn, hdn⟩ : ∃ dn : Nat, x.d = (dn : Int) := ⟨x.d.toNat, by omega⟩
   have hdlt : dn < s.nd := by omega
   refine J.skip ?_
   refine J.seq ?_
   refine J.region ?_
   refine L.va rfl (X.fieldAddr rfl Tryz.underlying46 rfl sz_44 (by decide)) ?_
   refine L.va rfl (X.load rfl sc_44 (by first | exact Ld.blk hk5 rfl | exact Ld.blk hk15 rfl | exact hA)) ?_
   refine L.va rfl (X.len rfl Tryz.underlying44) ?_
   refine L.va rfl (X.move (by conv => lhs; whnf)) ?_
   refine L.nil ?_
   refine J.block ?_
   refine J.loop (X := Nat) [4, 8, 39, 40, 41, 42, 43, 44, 45, 46, 47, 48, 49, 50, 51, 52, 53, 54, 55, 56] (fun k => [(39, .int .i64 (k : Int))]) (fun k w' => k ≤ x.n ∧ (∀ j, j < k → cOk s x.d (x.l.getD j 0)) ∧ Ext w5 w') (fun k => x.n - k) (0) (At1 (by first | rfl | exact at_int rfl (by omega) | exact at_slice rfl (by omega) | exact at_int rfl (by simp))) ?_ ?_
   ·exact ⟨Nat.zero_le _, fun j hj => absurd hj (by omega), Ext.refl _⟩
   ·rintro k g w6 ⟨hk, hQ, he6⟩
    have hk6 := hk5.ext he6
    have hk16 := hk15.ext he6
    have r6 := hX5.r.ext he6
    have hd6 := (H5.ext he6).hd
    refine J.seq ?_
    refine J.region ?_
    refine L.va rfl (X.lss rfl rfl) ?_
    refine L.nil ?_
    refine J.seq ?_
    refine J.dec rfl (fun hlt2 => ?_) (fun hlt2 => ?_)
    ·have hkn : k < x.n := by omega
     have hA1 := r6.some_ (by omega)
     have hA2 := hd6.some_ (by omega)
     refine J.skip ?_
     refine J.seq ?_
     refine J.block ?_
     refine J.seq ?_
     refine J.region ?_
     refine L.va rfl ((by first | exact X.index1n rfl rfl Tryz.underlying44 sz_3 (by first | exact Option.some_ne_none _ | exact r6.some_ (by omega) | exact hd6.some_ (by omega) | exact hA1 | exact hA2) (by omega) | exact X.index1 rfl rfl Tryz.underlying44 sz_3 (by first | exact Option.some_ne_none _ | exact r6.some_ (by omega) | exact hd6.some_ (by omega) | exact hA1 | exact hA2) (by omega))) ?_
     refine L.va rfl (X.load rfl sc_3 (by first | exact Ld.blk hk6 rfl | exact Ld.blk hk16 rfl | exact Ld.num r6 (by omega) | exact Ld.dimS hd6 (by omega) | exact Ld.dimN hd6 (by omega) | exact hA1 | exact hA2)) ?_
     refine L.va rfl (X.assign (by conv => lhs; whnf)) ?_
     refine L.nil ?_
     refine J.seq ?_
     refine J.region ?_
     refine L.va rfl (X.move (by conv => lhs; whnf)) ?_
     refine L.va rfl (X.lss rfl rfl) ?_
     refine L.va rfl (X.move (by conv => lhs; whnf)) ?_
     refine L.caseDec (k := 45) rfl (fun h6 => ?_) (fun h6 => ?_)
     ·refine L.no rfl ?_
      iterate 8 refine L.no rfl ?_
      refine L.va rfl (X.pickT rfl (by conv => lhs; whnf)) ?_
      refine L.nil ?_
      refine J.iteT rfl ?_
      rw [fst_at (d := fi0) (i := i) (by omega) hP (by rw [← hx, fE_2 (by omega) (by omega) hkn (by unfold cOk; omega)]; decide), ← hx, fE_2 (by omega) (by omega) hkn (by unfold cOk; omega)]
      refine J.seq ?_
      refine J.region ?_
      refine L.va rfl (X.assign (by conv => lhs; whnf)) ?_
      refine L.nil ?_
      refine J.ret ?_
      refine inB_ret <|  thn_ret <|  thn_ret <|  inB_ret <|  inB_ret <|  thn_ret <|  thn_ret <|  inB_ret <|  thn_ret <| ?_
      refine fin1 ?_
      exact ⟨rfl, he05.trans he6⟩
     refine L.va rfl (X.move (by conv => lhs; whnf)) ?_
     refine L.va rfl (X.fieldAddr rfl Tryz.underlying26 rfl sz_22 (by decide)) ?_
     refine L.va rfl (X.load rfl sc_22 (by first | exact Ld.blk hk6 rfl | exact Ld.blk hk16 rfl | exact Ld.num r6 (by omega) | exact Ld.dimS hd6 (by omega) | exact Ld.dimN hd6 (by omega) | exact hA1 | exact hA2)) ?_
     refine L.va rfl (X.fieldAddr rfl Tryz.underlying46 rfl sz_3 (by decide)) ?_
     refine L.va rfl (X.load rfl sc_3 (by first | exact Ld.blk hk6 rfl | exact Ld.blk hk16 rfl | exact Ld.num r6 (by omega) | exact Ld.dimS hd6 (by omega) | exact Ld.dimN hd6 (by omega) | exact hA1 | exact hA2)) ?_
     refine L.va rfl ((by first | exact X.indexAddrn rfl rfl Tryz.underlying22 sz_54 (by first | exact Option.some_ne_none _ | exact r6.some_ (by omega) | exact hd6.some_ (by omega) | exact hA1 | exact hA2) (by omega) | exact X.indexAddr rfl rfl Tryz.underlying22 sz_54 (by first | exact Option.some_ne_none _ | exact r6.some_ (by omega) | exact hd6.some_ (by omega) | exact hA1 | exact hA2) (by omega))) ?_
     refine L.va rfl (X.fieldP rfl Tryz.underlying54 rfl sz_3 (by decide) (by first | exact Option.some_ne_none _ | exact r6.some_ (by omega) | exact hd6.some_ (by omega) | exact hA1 | exact hA2)) ?_
     refine L.va rfl (X.load rfl sc_3 (by first | exact Ld.blk hk6 rfl | exact Ld.blk hk16 rfl | exact Ld.num r6 (by omega) | exact Ld.dimS hd6 (by omega) | exact Ld.dimN hd6 (by omega) | exact hA1 | exact hA2)) ?_
     refine L.va rfl (X.geq rfl rfl) ?_
     refine L.va rfl (X.pickF rfl (by conv => lhs; whnf)) ?_
     refine L.nil ?_
     refine J.dec rfl (fun h7 => ?_) (fun h7 => ?_)
     ·rw [fst_at (d := fi0) (i := i) (by omega) hP (by rw [← hx, fE_2 (by omega) (by omega) hkn (by unfold cOk; omega)]; decide), ← hx, fE_2 (by omega) (by omega) hkn (by unfold cOk; omega)]
      refine J.seq ?_
      refine J.region ?_
      refine L.va rfl (X.assign (by conv => lhs; whnf)) ?_
      refine L.nil ?_
      refine J.ret ?_
      refine inB_ret <|  thn_ret <|  thn_ret <|  inB_ret <|  inB_ret <|  thn_ret <|  thn_ret <|  inB_ret <|  thn_ret <| ?_
      refine fin1 ?_
      exact ⟨rfl, he05.trans he6⟩
     refine J.skip ?_
     refine J.region ?_
     refine L.va rfl (X.add rfl rfl (by omega)) ?_
     refine L.va rfl (X.move (by conv => lhs; whnf)) ?_
     refine L.nil ?_
     refine ⟨k + 1, At1 (by first | rfl | exact at_int rfl (by omega) | exact at_slice rfl (by omega) | exact at_int rfl (by simp)), (by (iterate 20 refine Agr.lk rfl ?_); exact Agr.lk rfl (Agr.hav rfl Agr.rfl')), ?_⟩
     refine ⟨⟨by omega, fun j hj => ?_, he6⟩, by omega⟩
     rcases Nat.lt_or_ge j k with h | h
     ·exact hQ j h
     ·obtain rfl : j = k := by omega
      exact ⟨by omega, by omega⟩
    ·have e0 : fE s x = 0 := fE_0 (by omega) (by omega) (fun j hj => hQ j (by omega))
     refine J.exit ?_
     refine J.region ?_
     refine L.va rfl (X.add rfl rfl (by omega)) ?_
     refine L.va rfl (X.move (by conv => lhs; whnf)) ?_
     refine L.nil ?_
     refine ⟨i + 1, At1 (by first | rfl | exact at_int rfl (by omega) | exact at_slice rfl (by omega) | exact at_int rfl (by simp)), (by (iterate 3 refine Agr.lk rfl ?_); refine Agr.lk rfl ?_; refine Agr.hav rfl ?_; (iterate 24 refine Agr.lk rfl ?_); exact Agr.lk rfl (Agr.hav rfl Agr.rfl')), ?_⟩
     refine ⟨⟨by omega, fun j hj => ?_, he25.trans he6⟩, by omega⟩
     rcases Nat.lt_or_ge j i with h | h
     ·exact hP j h
     ·obtain rfl : j = i := by omega
      rw [← hx]; exact e0
  ·rw [fst_0 (d := fi0) (fun j hj => hP j (by omega))]
   refine J.exit ?_
   refine J.seq ?_
   refine J.region ?_
   refine L.va rfl (X.assign (by conv => lhs; whnf)) ?_
   refine L.nil ?_
   refine J.ret ?_
   refine fin1 ?_
   exact ⟨rfl, he02.trans he3⟩
theorem rfcheck {s : Sch} {f : Fis} {w : World} (H : s.Here w) (hf : f.At w.heap.size w) : Calls Tryz.prog 21 #[s.val, f.val] w fun e w' => e = .returned (.int .i64 (fcode s f)) ∧ Ext w w' := by
 have hl := hf.l
 have hm := hf.m
 have hle := H.hle
 unfold maxLen at hm
 refine enter Tryz.func21 rfl (by kernel_rfl) ?_
 refine J.seq ?_
 refine J.region ?_
 refine L.boxA (l := [_, _, _, _]) rfl rfl ?_
 intro b1 w1 hb1 hs1 hk1 he1
 have H1 := H.ext he1
 refine L.va rfl (X.assign (by conv => lhs; whnf)) ?_
 refine L.nil ?_
 iterate 2 refine J.seq ?_
 refine J.region ?_
 refine L.va rfl ((by first | exact X.loadAgg rfl (range_l hk1) Tryz.underlying26 rfl (by kernel_rfl) | exact X.loadAgg rfl (range_blk hk1) Tryz.underlying26 rfl (by kernel_rfl))) ?_
 refine L.call rfl en_38 rfl (H1.rcheck) ?_
 rintro e w2 ⟨rfl, he2⟩
 refine ⟨_, rfl, ?_⟩
 have he02 := he1.trans he2
 replace hk1 := hk1.ext he2
 refine L.va rfl (X.neq rfl rfl) ?_
 refine L.nil ?_
 refine J.ndec rfl (fun h1 => ?_) (fun h1 => ?_)
 ·have e : fcode s f = 1 := by unfold fcode; rw [if_pos h1]
  rw [e]
  refine J.seq ?_
  refine J.region ?_
  refine L.va rfl (X.assign (by conv => lhs; whnf)) ?_
  refine L.nil ?_
  refine J.ret ?_
  refine thn_ret <| ?_
  refine fin1 ?_
  exact ⟨rfl, he02⟩
 refine J.skip ?_
 iterate 2 refine J.seq ?_
 refine J.region ?_
 refine L.va rfl (X.move (by conv => lhs; whnf)) ?_
 refine L.va rfl (X.len rfl Tryz.underlying28) ?_
 refine L.va rfl (X.gtr rfl rfl) ?_
 refine L.nil ?_
 refine J.dec rfl (fun h2 => ?_) (fun h2 => ?_)
 ·have e : fcode s f = 3 := by unfold fcode; rw [if_neg (fun h => h h1), if_pos (by omega)]
  rw [e]
  refine J.seq ?_
  refine J.region ?_
  refine L.va rfl (X.assign (by conv => lhs; whnf)) ?_
  refine L.nil ?_
  refine J.ret ?_
  refine thn_ret <| ?_
  refine fin1 ?_
  exact ⟨rfl, he02⟩
 have e : fcode s f = fst' (fE s) f.l := by unfold fcode; rw [if_neg (fun h => h h1), if_neg (by omega)]
 rw [e]
 have z2 := he02.le
 have H2 := H.ext he02
 refine J.skip ?_
 iterate 2 refine J.seq ?_
 refine J.region ?_
 refine L.va rfl (X.assign (by conv => lhs; whnf)) ?_
 refine L.nil ?_
 refine J.block ?_
 refine J.loop (X := Nat) [4, 5, 6, 7, 14, 15, 16, 17, 18, 19, 20, 21, 22, 23, 24, 25, 26, 27, 28, 29, 30, 31, 32, 33, 34, 35, 36, 37, 38, 39, 40, 41, 42, 43, 44, 45, 46, 47, 48, 49, 50, 51, 52, 53, 54, 55, 56, 57, 58, 59, 60, 61, 62, 63, 64, 65, 66] (fun i => [(5, .int .i64 (i : Int))]) (fun i w' => i ≤ f.n ∧ (∀ j, j < i → fE s (f.l.getD j fi0) = 0) ∧ Ext w2 w') (fun i => f.n - i) (0) (At1 (by first | rfl | exact at_int rfl (by omega) | exact at_slice rfl (by omega) | exact at_int rfl (by simp))) ?_ ?_
 ·exact ⟨Nat.zero_le _, fun j hj => absurd hj (by omega), Ext.refl _⟩
 ·rintro i g w3 ⟨hi, hP, he3⟩
  have z3 := he3.le
  have he03 := he02.trans he3
  have hf3 := hf.ext he03
  have hk3 := hk1.ext he3
  have H3 := H2.ext he3
  iterate 2 refine J.seq ?_
  refine J.region ?_
  iterate 2 refine L.va rfl (X.move (by conv => lhs; whnf)) ?_
  refine L.va rfl (X.len rfl Tryz.underlying28) ?_
  refine L.va rfl (X.lss rfl rfl) ?_
  refine L.nil ?_
  refine J.dec rfl (fun hlt => ?_) (fun hlt => ?_)
  ·have hin : i < f.n := by omega
   have hA := hf3.r.some_ (by omega)
   obtain ⟨x, hx⟩ : ∃ x, x = f.l.getD i fi0 := ⟨_, rfl⟩
   have hX := hf3.one hin
   have hgt := gtF (l := f.l) (i := i) (by omega)
   rw [← hx] at hX hgt
   refine J.skip ?_
   refine J.seq ?_
   refine J.block ?_
   refine J.seq ?_
   refine J.region ?_
   iterate 2 refine L.va rfl (X.move (by conv => lhs; whnf)) ?_
   refine L.va rfl ((by first | exact X.indexAddrn rfl rfl Tryz.underlying28 sz_46 (by first | exact Option.some_ne_none _ | exact hA) (by omega) | exact X.indexAddr rfl rfl Tryz.underlying28 sz_46 (by first | exact Option.some_ne_none _ | exact hA) (by omega))) ?_
   refine L.va rfl (X.loadRow (cs := x.vs) rfl hf3.r (fun r u hu => flat_row fi_len hgt r u hu) (Nat.zero_lt_succ _) Tryz.underlying46 rfl (by kernel_rfl)) ?_
   refine L.alloc rfl zr_46 ?_
   intro b4 w4 hb4 hs4 hk4 he4
   refine L.storeAgg (vs := [_, _]) rfl rfl rfl rfl sz_46 (hk4) rfl ?_
   intro w5 hk5 hg5 hs5
   have he35 : Ext w3 w5 := he4.grw hg5 (by intro g hg; injection hg with hg; omega)
   have hk5 : Blk w5 b4 46 x.vs.toArray := hk5
   have he05 := he03.trans he35
   have he25 := he3.trans he35
   have hk15 := hk3.ext he35
   have hX5 := hX.ext he35
   have H5 := H3.ext he35
   have hxl := hX5.len
   have hxm := hX5.m
   unfold maxLen at hxm
   have z5 := he25.le
   refine L.nil ?_
   iterate 2 refine J.seq ?_
   refine J.region ?_
   refine L.va rfl (X.fieldAddr rfl Tryz.underlying46 rfl sz_3 (by decide)) ?_
   refine L.va rfl (X.load rfl sc_3 (by first | exact Ld.blk hk5 rfl | exact Ld.blk hk15 rfl | exact hA)) ?_
   refine L.va rfl (X.lss rfl rfl) ?_
   refine L.va rfl (X.move (by conv => lhs; whnf)) ?_
   refine L.caseDec (k := 27) rfl (fun h3 => ?_) (fun h3 => ?_)
   ·refine L.no rfl ?_
    iterate 5 refine L.no rfl ?_
    refine L.va rfl (X.pickT rfl (by conv => lhs; whnf)) ?_
    refine L.nil ?_
    refine J.iteT rfl ?_
    rw [fst_at (d := fi0) (i := i) (by omega) hP (by rw [← hx, fE_11 (by omega)]; decide), ← hx, fE_11 (by omega)]
    refine J.seq ?_
    refine J.region ?_
    refine L.va rfl (X.assign (by conv => lhs; whnf)) ?_
    refine L.nil ?_
    refine J.ret ?_
    refine thn_ret <|  inB_ret <|  thn_ret <|  thn_ret <|  inB_ret <|  thn_ret <| ?_
    refine fin1 ?_
    exact ⟨rfl, he05⟩
   refine L.va rfl (X.fieldAddr rfl Tryz.underlying46 rfl sz_3 (by decide)) ?_
   refine L.va rfl (X.load rfl sc_3 (by first | exact Ld.blk hk5 rfl | exact Ld.blk hk15 rfl | exact hA)) ?_
   refine L.va rfl (X.fieldAddr rfl Tryz.underlying26 rfl sz_22 (by decide)) ?_
   refine L.va rfl (X.load rfl sc_22 (by first | exact Ld.blk hk5 rfl | exact Ld.blk hk15 rfl | exact hA)) ?_
   refine L.va rfl (X.len rfl Tryz.underlying22) ?_
   refine L.va rfl (X.geq rfl rfl) ?_
   refine L.va rfl (X.pickF rfl (by conv => lhs; whnf)) ?_
   refine L.nil ?_
   refine J.dec rfl (fun h4 => ?_) (fun h4 => ?_)
   ·rw [fst_at (d := fi0) (i := i) (by omega) hP (by rw [← hx, fE_11 (by omega)]; decide), ← hx, fE_11 (by omega)]
    refine J.seq ?_
    refine J.region ?_
    refine L.va rfl (X.assign (by conv => lhs; whnf)) ?_
    refine L.nil ?_
    refine J.ret ?_
    refine thn_ret <|  inB_ret <|  thn_ret <|  thn_ret <|  inB_ret <|  thn_ret <| ?_
    refine fin1 ?_
    exact ⟨rfl, he05⟩
   refine J.skip ?_
   iterate 2 refine J.seq ?_
   refine J.region ?_
   refine L.va rfl (X.fieldAddr rfl Tryz.underlying46 rfl sz_44 (by decide)) ?_
   refine L.va rfl (X.load rfl sc_44 (by first | exact Ld.blk hk5 rfl | exact Ld.blk hk15 rfl | exact hA)) ?_
   refine L.va rfl (X.len rfl Tryz.underlying44) ?_
   refine L.va rfl (X.gtr rfl rfl) ?_
   refine L.nil ?_
   refine J.dec rfl (fun h5 => ?_) (fun h5 => ?_)
   ·rw [fst_at (d := fi0) (i := i) (by omega) hP (by rw [← hx, fE_3 (by omega) (by omega)]; decide), ← hx, fE_3 (by omega) (by omega)]
    refine J.seq ?_
    refine J.region ?_
    refine L.va rfl (X.assign (by conv => lhs; whnf)) ?_
    refine L.nil ?_
    refine J.ret ?_
    refine thn_ret <|  inB_ret <|  thn_ret <|  thn_ret <|  inB_ret <|  thn_ret <| ?_
    refine fin1 ?_
    exact ⟨rfl, he05⟩
   have hdlt : x.d.toNat < s.nd := by omega
   refine J.skip ?_
   refine J.seq ?_
   refine J.region ?_
   refine L.va rfl (X.assign (by conv => lhs; whnf)) ?_
   refine L.nil ?_
   refine J.block ?_
   refine J.loop (X := Nat) [4, 7, 39, 40, 41, 42, 43, 44, 45, 46, 47, 48, 49, 50, 51, 52, 53, 54, 55, 56, 57, 58, 59, 60, 61, 62, 63, 64, 65, 66] (fun k => [(7, .int .i64 (k : Int))]) (fun k w' => k ≤ x.n ∧ (∀ j, j < k → cOk s x.d (x.l.getD j 0)) ∧ Ext w5 w') (fun k => x.n - k) (0) (At1 (by first | rfl | exact at_int rfl (by omega) | exact at_slice rfl (by omega) | exact at_int rfl (by simp))) ?_ ?_
   ·exact ⟨Nat.zero_le _, fun j hj => absurd hj (by omega), Ext.refl _⟩
   ·rintro k g w6 ⟨hk, hQ, he6⟩
    have hk6 := hk5.ext he6
    have hk16 := hk15.ext he6
    have r6 := hX5.r.ext he6
    have hd6 := (H5.ext he6).hd
    iterate 2 refine J.seq ?_
    refine J.region ?_
    refine L.va rfl (X.move (by conv => lhs; whnf)) ?_
    refine L.va rfl (X.fieldAddr rfl Tryz.underlying46 rfl sz_44 (by decide)) ?_
    refine L.va rfl (X.load rfl sc_44 (by first | exact Ld.blk hk6 rfl | exact Ld.blk hk16 rfl | exact Ld.num r6 (by omega) | exact Ld.dimS hd6 (by omega) | exact Ld.dimN hd6 (by omega) | exact hA)) ?_
    refine L.va rfl (X.len rfl Tryz.underlying44) ?_
    refine L.va rfl (X.lss rfl rfl) ?_
    refine L.nil ?_
    refine J.dec rfl (fun hlt2 => ?_) (fun hlt2 => ?_)
    ·have hkn : k < x.n := by omega
     have hA1 := r6.some_ (by omega)
     have hA2 := hd6.some_ (by omega)
     refine J.skip ?_
     refine J.seq ?_
     refine J.block ?_
     refine J.seq ?_
     refine J.quiet mixed (by kernel_rfl) ?_
     refine Qt.va rfl (fun w' hw => X.fieldAddr rfl Tryz.underlying46 rfl sz_44 (by decide)) ?_
     refine Qt.va rfl (fun w' hw => X.load rfl sc_44 (by first | exact Ld.blk (hk6.ext hw) rfl | exact Ld.blk (hk16.ext hw) rfl | exact Ld.num (r6.ext hw) (by omega) | exact Ld.dimS (hd6.ext hw) (by omega) | exact Ld.dimN (hd6.ext hw) (by omega) | exact hA1 | exact hA2)) ?_
     refine Qt.va rfl (fun w' hw => X.move (by conv => lhs; whnf)) ?_
     refine Qt.va rfl (fun w' hw => (by first | exact X.index1n rfl rfl Tryz.underlying44 sz_3 (by first | exact Option.some_ne_none _ | exact r6.some_ (by omega) | exact hd6.some_ (by omega) | exact hA1 | exact hA2) (by omega) | exact X.index1 rfl rfl Tryz.underlying44 sz_3 (by first | exact Option.some_ne_none _ | exact r6.some_ (by omega) | exact hd6.some_ (by omega) | exact hA1 | exact hA2) (by omega))) ?_
     refine Qt.va rfl (fun w' hw => X.load rfl sc_3 (by first | exact Ld.blk (hk6.ext hw) rfl | exact Ld.blk (hk16.ext hw) rfl | exact Ld.num (r6.ext hw) (by omega) | exact Ld.dimS (hd6.ext hw) (by omega) | exact Ld.dimN (hd6.ext hw) (by omega) | exact hA1 | exact hA2)) ?_
     refine Qt.va rfl (fun w' hw => X.lss rfl rfl) ?_
     refine Qt.va rfl (fun w' hw => X.move (by conv => lhs; whnf)) ?_
     refine Qt.caseDec (k := 52) rfl (fun h6 => ?_) (fun h6 => ?_)
     ·refine Qt.no rfl ?_
      iterate 12 refine Qt.no rfl ?_
      refine Qt.va rfl (fun w' hw => X.pickT rfl (by conv => lhs; whnf)) ?_
      refine Qt.nil (fun w7 hq => ?_)
      replace hk6 := hk6.ext hq
      replace hk16 := hk16.ext hq
      replace r6 := r6.ext hq
      replace hd6 := hd6.ext hq
      refine J.iteT rfl ?_
      rw [fst_at (d := fi0) (i := i) (by omega) hP (by rw [← hx, fE_2 (by omega) (by omega) hkn (by unfold cOk; omega)]; decide), ← hx, fE_2 (by omega) (by omega) hkn (by unfold cOk; omega)]
      refine J.seq ?_
      refine J.region ?_
      refine L.va rfl (X.assign (by conv => lhs; whnf)) ?_
      refine L.nil ?_
      refine J.ret ?_
      refine inB_ret <|  thn_ret <|  thn_ret <|  inB_ret <|  inB_ret <|  thn_ret <|  thn_ret <|  inB_ret <|  thn_ret <| ?_
      refine fin1 ?_
      exact ⟨rfl, he05.trans (he6.trans hq)⟩
     refine Qt.va rfl (fun w' hw => X.fieldAddr rfl Tryz.underlying46 rfl sz_44 (by decide)) ?_
     refine Qt.va rfl (fun w' hw => X.load rfl sc_44 (by first | exact Ld.blk (hk6.ext hw) rfl | exact Ld.blk (hk16.ext hw) rfl | exact Ld.num (r6.ext hw) (by omega) | exact Ld.dimS (hd6.ext hw) (by omega) | exact Ld.dimN (hd6.ext hw) (by omega) | exact hA1 | exact hA2)) ?_
     refine Qt.va rfl (fun w' hw => X.move (by conv => lhs; whnf)) ?_
     refine Qt.va rfl (fun w' hw => (by first | exact X.index1n rfl rfl Tryz.underlying44 sz_3 (by first | exact Option.some_ne_none _ | exact r6.some_ (by omega) | exact hd6.some_ (by omega) | exact hA1 | exact hA2) (by omega) | exact X.index1 rfl rfl Tryz.underlying44 sz_3 (by first | exact Option.some_ne_none _ | exact r6.some_ (by omega) | exact hd6.some_ (by omega) | exact hA1 | exact hA2) (by omega))) ?_
     refine Qt.va rfl (fun w' hw => X.load rfl sc_3 (by first | exact Ld.blk (hk6.ext hw) rfl | exact Ld.blk (hk16.ext hw) rfl | exact Ld.num (r6.ext hw) (by omega) | exact Ld.dimS (hd6.ext hw) (by omega) | exact Ld.dimN (hd6.ext hw) (by omega) | exact hA1 | exact hA2)) ?_
     refine Qt.va rfl (fun w' hw => X.fieldAddr rfl Tryz.underlying26 rfl sz_22 (by decide)) ?_
     refine Qt.va rfl (fun w' hw => X.load rfl sc_22 (by first | exact Ld.blk (hk6.ext hw) rfl | exact Ld.blk (hk16.ext hw) rfl | exact Ld.num (r6.ext hw) (by omega) | exact Ld.dimS (hd6.ext hw) (by omega) | exact Ld.dimN (hd6.ext hw) (by omega) | exact hA1 | exact hA2)) ?_
     refine Qt.va rfl (fun w' hw => X.fieldAddr rfl Tryz.underlying46 rfl sz_3 (by decide)) ?_
     refine Qt.va rfl (fun w' hw => X.load rfl sc_3 (by first | exact Ld.blk (hk6.ext hw) rfl | exact Ld.blk (hk16.ext hw) rfl | exact Ld.num (r6.ext hw) (by omega) | exact Ld.dimS (hd6.ext hw) (by omega) | exact Ld.dimN (hd6.ext hw) (by omega) | exact hA1 | exact hA2)) ?_
     refine Qt.va rfl (fun w' hw => (by first | exact X.indexAddrn rfl rfl Tryz.underlying22 sz_54 (by first | exact Option.some_ne_none _ | exact r6.some_ (by omega) | exact hd6.some_ (by omega) | exact hA1 | exact hA2) (by omega) | exact X.indexAddr rfl rfl Tryz.underlying22 sz_54 (by first | exact Option.some_ne_none _ | exact r6.some_ (by omega) | exact hd6.some_ (by omega) | exact hA1 | exact hA2) (by omega))) ?_
     refine Qt.va rfl (fun w' hw => X.fieldP rfl Tryz.underlying54 rfl sz_3 (by decide) (by first | exact Option.some_ne_none _ | exact r6.some_ (by omega) | exact hd6.some_ (by omega) | exact hA1 | exact hA2)) ?_
     refine Qt.va rfl (fun w' hw => X.load rfl sc_3 (by first | exact Ld.blk (hk6.ext hw) rfl | exact Ld.blk (hk16.ext hw) rfl | exact Ld.num (r6.ext hw) (by omega) | exact Ld.dimS (hd6.ext hw) (by omega) | exact Ld.dimN (hd6.ext hw) (by omega) | exact hA1 | exact hA2)) ?_
     refine Qt.va rfl (fun w' hw => X.geq rfl rfl) ?_
     refine Qt.va rfl (fun w' hw => X.pickF rfl (by conv => lhs; whnf)) ?_
     refine Qt.nil (fun w7 hq => ?_)
     replace hk6 := hk6.ext hq
     replace hk16 := hk16.ext hq
     replace r6 := r6.ext hq
     replace hd6 := hd6.ext hq
     refine J.dec rfl (fun h7 => ?_) (fun h7 => ?_)
     ·rw [fst_at (d := fi0) (i := i) (by omega) hP (by rw [← hx, fE_2 (by omega) (by omega) hkn (by unfold cOk; omega)]; decide), ← hx, fE_2 (by omega) (by omega) hkn (by unfold cOk; omega)]
      refine J.seq ?_
      refine J.region ?_
      refine L.va rfl (X.assign (by conv => lhs; whnf)) ?_
      refine L.nil ?_
      refine J.ret ?_
      refine inB_ret <|  thn_ret <|  thn_ret <|  inB_ret <|  inB_ret <|  thn_ret <|  thn_ret <|  inB_ret <|  thn_ret <| ?_
      refine fin1 ?_
      exact ⟨rfl, he05.trans (he6.trans hq)⟩
     refine J.skip ?_
     refine J.region ?_
     refine L.va rfl (X.move (by conv => lhs; whnf)) ?_
     refine L.va rfl (X.add rfl rfl (by omega)) ?_
     refine L.va rfl (X.assign (by conv => lhs; whnf)) ?_
     refine L.nil ?_
     refine ⟨k + 1, At1 (by first | rfl | exact at_int rfl (by omega) | exact at_slice rfl (by omega) | exact at_int rfl (by simp)), (by (iterate 30 refine Agr.lk rfl ?_); exact Agr.lk rfl (Agr.hav rfl Agr.rfl')), ?_⟩
     refine ⟨⟨by omega, fun j hj => ?_, he6.trans hq⟩, by omega⟩
     rcases Nat.lt_or_ge j k with h | h
     ·exact hQ j h
     ·obtain rfl : j = k := by omega
      exact ⟨by omega, by omega⟩
    ·have e0 : fE s x = 0 := fE_0 (by omega) (by omega) (fun j hj => hQ j (by omega))
     refine J.exit ?_
     refine J.region ?_
     refine L.va rfl (X.move (by conv => lhs; whnf)) ?_
     refine L.va rfl (X.add rfl rfl (by omega)) ?_
     refine L.va rfl (X.assign (by conv => lhs; whnf)) ?_
     refine L.nil ?_
     refine ⟨i + 1, At1 (by first | rfl | exact at_int rfl (by omega) | exact at_slice rfl (by omega) | exact at_int rfl (by simp)), (by (iterate 8 refine Agr.lk rfl ?_); refine Agr.lk rfl ?_; refine Agr.hav rfl ?_; (iterate 26 refine Agr.lk rfl ?_); exact Agr.lk rfl (Agr.hav rfl Agr.rfl')), ?_⟩
     refine ⟨⟨by omega, fun j hj => ?_, he25.trans he6⟩, by omega⟩
     rcases Nat.lt_or_ge j i with h | h
     ·exact hP j h
     ·obtain rfl : j = i := by omega
      rw [← hx]; exact e0
  ·rw [fst_0 (d := fi0) (fun j hj => hP j (by omega))]
   refine J.exit ?_
   refine J.seq ?_
   refine J.region ?_
   refine L.va rfl (X.assign (by conv => lhs; whnf)) ?_
   refine L.nil ?_
   refine J.ret ?_
   refine fin1 ?_
   exact ⟨rfl, he02.trans he3⟩
end Go.Proofs.YtpomklkfedpkfaaGreat
