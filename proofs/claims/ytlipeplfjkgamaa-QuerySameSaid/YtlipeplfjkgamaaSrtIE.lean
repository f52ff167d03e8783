/-
  Go's slices.Sort at []int, walked: a range parted.
-/
import Derived.Test.YtlipeplfjkgamaaSrtIC
namespace Go.Proofs.Ytlipeplfjkgamaa
set_option maxRecDepth 100000
open Go.RowKit H
open Srt
set_option linter.unusedVariables false
theorem parteqI (A : Option Addr) (n c N a b p : Nat) (l : List Int) (w : World) (ho : w.ownsRow N 3 1 (.slice A n c) n (nums .i64 l)) (hb : b ≤ n) (hn : n ≤ 900000) (hp : a ≤ p ∧ p < b) :
    Calls Try.prog 294 #[.slice A n c, .int .i64 (a : Int), .int .i64 (b : Int), .int .i64 (p : Int)] w fun e w' => ∃ (l' : List Int) (q : Nat), e = .returned (.int .i64 (q : Int)) ∧ SwI w w' A n c N a b l l' ∧ a < q ∧ q ≤ b ∧ (∀ k, a ≤ k → k < q → l'.getD k 0 ≤ l.getD p 0) ∧ ∀ k, q ≤ k → k < b → l.getD p 0 < l'.getD k 0 := by
  have hl : l.length = n := by have := ho.1; simpa [nums] using this
  have hA := (Reads.of_own ho).some_ (by omega)
  have e0 : (b : Int) - 1 = ((b - 1 : Nat) : Int) := by omega
  refine enter Try.func294 rfl (by kernel_rfl) ?_
  refine J.seq ?_
  refine J.region ?_
  refine L.va rfl (X.assign (by conv => lhs; whnf)) ?_
  refine L.nil ?_
  refine J.seq ?_
  -- draw
  refine J.draw (ℓ := 1000000) (S := (fun _ => True)) mixed (fun w2d hSE hS_h => ?_)
  have hS : ((fun _ => True)) w2d := trivial
  have hrw2 := (Reads.of_own ho).ext hSE
  have hoX := ho.ext hSE
  have hG : w.grownBy w2d (Value.ownBlock (.slice A n c)) := grown_ext hSE
  refine D.va 0 rfl (by kernel_rfl) (fun _ _ _ h => h) rfl (fun w' hw => X.move (by conv => lhs; whnf)) hS ?_
  refine D.va 1 rfl (by kernel_rfl) (fun _ _ _ h => h) rfl (fun w' hw => X.move (by conv => lhs; whnf)) hS ?_
  refine D.va 2 rfl (by kernel_rfl) (fun _ _ _ h => h) rfl (fun w' hw => X.move (by conv => lhs; whnf)) hS ?_
  refine D.va 3 rfl (by kernel_rfl) (fun _ _ _ h => h) rfl (fun w' hw => X.move (by conv => lhs; whnf)) hS ?_
  refine D.va 4 rfl (by kernel_rfl) (fun _ _ _ h => h) rfl (fun w' hw => X.move (by conv => lhs; whnf)) hS ?_
  refine D.va 5 rfl (by kernel_rfl) (fun _ _ _ h => h) rfl (fun w' hw => X.move (by conv => lhs; whnf)) hS ?_
  refine D.va 6 rfl (by kernel_rfl) (fun _ _ _ h => h) rfl (fun w' hw => (by first | exact X.index1n rfl rfl Try.underlying23 sz_3 (by first | exact Option.some_ne_none _ | exact hA) (by omega) | exact X.index1 rfl rfl Try.underlying23 sz_3 (by first | exact Option.some_ne_none _ | exact hA) (by omega))) hS ?_
  refine D.va 8 rfl (by kernel_rfl) (fun _ _ _ h => h) rfl (fun w' hw => X.move (by conv => lhs; whnf)) hS ?_
  refine D.va 9 rfl (by kernel_rfl) (fun _ _ _ h => h) rfl (fun w' hw => X.move (by conv => lhs; whnf)) hS ?_
  refine D.va 10 rfl (by kernel_rfl) (fun _ _ _ h => h) rfl (fun w' hw => (by first | exact X.index1n rfl rfl Try.underlying23 sz_3 (by first | exact Option.some_ne_none _ | exact hA) (by omega) | exact X.index1 rfl rfl Try.underlying23 sz_3 (by first | exact Option.some_ne_none _ | exact hA) (by omega))) hS ?_
  refine D.two 7 11 (by kernel_rfl) rfl rfl ?_ ?_
  · refine L.va rfl (X.load rfl sc_3 (Ld.num hrw2 (j := p) (by omega))) ?_
    refine L.nil ?_
    refine ⟨fun _ => hS, ?_⟩
    refine D.one 11 (by kernel_rfl) rfl ?_
    refine L.va rfl (X.load rfl sc_3 (Ld.num hrw2 (j := a) (by omega))) ?_
    refine L.nil ?_
    refine ⟨fun _ => hS, ?_⟩
    refine D.va 12 rfl (by kernel_rfl) (fun _ _ _ h => h) rfl (fun w' hw => (by first | exact X.index1n rfl rfl Try.underlying23 sz_3 (by first | exact Option.some_ne_none _ | exact hA) (by omega) | exact X.index1 rfl rfl Try.underlying23 sz_3 (by first | exact Option.some_ne_none _ | exact hA) (by omega))) hS ?_
    refine D.one 13 (by kernel_rfl) rfl ?_
    refine L.storeON rfl rfl (by conv => lhs; whnf) sz_3 (hoX) (by omega) ?_
    intro w2 hoX hg2 hb2 hs2
    have hS1 := trivial
    refine L.nil ?_
    refine ⟨fun _ => hS1, ?_⟩
    replace hG := grb_trans hG hg2
    refine D.va 14 rfl (by kernel_rfl) (fun _ _ _ h => h) rfl (fun w' hw => (by first | exact X.index1n rfl rfl Try.underlying23 sz_3 (by first | exact Option.some_ne_none _ | exact hA) (by omega) | exact X.index1 rfl rfl Try.underlying23 sz_3 (by first | exact Option.some_ne_none _ | exact hA) (by omega))) hS1 ?_
    refine D.one 15 (by kernel_rfl) rfl ?_
    refine L.storeON rfl rfl (by conv => lhs; whnf) sz_3 (hoX) (by omega) ?_
    intro w2 hoX hg2 hb2 hs2
    have hS2 := trivial
    refine L.nil ?_
    refine ⟨fun _ => hS2, ?_⟩
    replace hG := grb_trans hG hg2
    refine D.done (by kernel_rfl) ?_
    refine J.seq ?_
    refine J.region ?_
    refine L.va rfl (X.move (by conv => lhs; whnf)) ?_
    refine L.va rfl (X.add rfl rfl (by omega)) ?_
    refine L.va rfl (X.move (by conv => lhs; whnf)) ?_
    refine L.va rfl (X.sub rfl rfl (by omega)) ?_
    refine L.va rfl (X.assign (by conv => lhs; whnf)) ?_
    refine L.va rfl (X.assign (by conv => lhs; whnf)) ?_
    refine L.nil ?_
    refine J.seq ?_
    refine J.block ?_
    have ea : (swp l a p).getD a 0 = l.getD p 0 := by
      rw [swp_at l (by omega) (by omega)]
      by_cases e : a = p
      · rw [if_pos e, e]
      · rw [if_neg e, if_pos rfl]
    have M0 : SwI w w2 A n c N a b l (swp l a p) := ⟨hoX, hG, .step (.refl _) ⟨by omega, by omega⟩ hp (by omega)⟩
    have HP0 : Pt (· ≤ ·) (fun x y => y < x) (swp l a p) a b (a + 1) (b - 1) := ⟨by omega, by omega, by omega, (fun k k1 k2 => by omega), (fun k k1 k2 => by omega)⟩
    -- loop
    rw [e0]
    refine J.loop (X := Nat × Nat × List Int) [9, 10, 29, 30, 31, 32, 33, 34, 35, 36, 37, 38, 39, 40, 41, 42, 43, 44, 45, 46, 47, 48, 49, 50, 51, 52, 53, 54, 55, 56, 57, 58, 59, 60, 61, 62, 63, 64, 65, 66, 67, 68, 69, 70, 71, 72, 73, 74, 75, 76, 77, 78, 79, 80, 81, 82] (fun (i, j, m) => [(9, .int .i64 (i : Int)), (10, .int .i64 (j : Int))]) (fun (i, j, m) w' => SwI w w' A n c N a b l m ∧ Pt (· ≤ ·) (fun x y => y < x) m a b i j ∧ m.getD a 0 = l.getD p 0) (fun (i, j, _) => j + 1 - i) ((a + 1, b - 1, swp l a p)) (At2 (by first | rfl | exact at_int rfl (by omega) | exact at_slice rfl (by omega) | exact at_int rfl (by simp)) (by first | rfl | exact at_int rfl (by omega) | exact at_slice rfl (by omega) | exact at_int rfl (by simp))) ?_ ?_
    · exact ⟨M0, HP0, ea⟩
    · rintro ⟨i, j, m⟩ g w3 ⟨M, HP, em⟩
      have hml : m.length = n := by rw [M.p.len, hl]
      have HO := M.o
      obtain ⟨io, hio⟩ : ∃ io, io = i := ⟨_, rfl⟩
      refine J.block ?_
      -- until
      refine J.cut (X := Nat) [9, 29, 30, 31, 32, 33, 34, 35, 36, 37, 38, 39, 40, 41, 42, 43, 44, 45] (fun i => [(9, .int .i64 (i : Int))]) (fun i w' => Pt (· ≤ ·) (fun x y => y < x) m a b i j ∧ (i ≤ j → ¬ m.getD i 0 ≤ m.getD a 0) ∧ io ≤ i ∧ Ext w3 w') ?_ ?_
      · refine J.block ?_
        -- loop
        refine J.loop (X := Nat) [9, 29, 30, 31, 32, 33, 34, 35, 36, 37, 38, 39, 40, 41, 42, 43, 44, 45] (fun i => [(9, .int .i64 (i : Int))]) (fun i w' => Pt (· ≤ ·) (fun x y => y < x) m a b i j ∧ io ≤ i ∧ Ext w3 w') (fun i => j + 1 - i) (i) (At1 (by first | rfl | exact at_int rfl (by omega) | exact at_slice rfl (by omega) | exact at_int rfl (by simp))) ?_ ?_
        · exact ⟨HP, by omega, Ext.refl _⟩
        · rintro i g w4 ⟨HP, hbd, he⟩
          have h1 := HP.ai
          have h2 := HP.ij
          have h3 := HP.jb
          have hr := Reads.of_own (HO.ext he)
          have hA := hr.some_ (by omega)
          refine J.seq ?_
          refine J.seq ?_
          -- draw
          refine J.quiet mixed (by kernel_rfl) ?_
          refine Qt.va rfl (fun w' hw => X.move (by conv => lhs; whnf)) ?_
          refine Qt.va rfl (fun w' hw => X.move (by conv => lhs; whnf)) ?_
          refine Qt.va rfl (fun w' hw => X.leq rfl rfl) ?_
          refine Qt.va rfl (fun w' hw => X.move (by conv => lhs; whnf)) ?_
          -- case t32
          refine Qt.caseDec (k := 32) rfl (fun hij => ?_) (fun hij => ?_)
          · refine Qt.va rfl (fun w' hw => X.move (by conv => lhs; whnf)) ?_
            refine Qt.va rfl (fun w' hw => X.move (by conv => lhs; whnf)) ?_
            refine Qt.va rfl (fun w' hw => (by first | exact X.index1n rfl rfl Try.underlying23 sz_3 (by first | exact Option.some_ne_none _ | exact hr.some_ (by omega) | exact hA) (by omega) | exact X.index1 rfl rfl Try.underlying23 sz_3 (by first | exact Option.some_ne_none _ | exact hr.some_ (by omega) | exact hA) (by omega))) ?_
            refine Qt.va rfl (fun w' hw => X.load rfl sc_3 (by first | exact Ld.num (hr.ext hw) (by omega) | exact hA)) ?_
            refine Qt.va rfl (fun w' hw => X.move (by conv => lhs; whnf)) ?_
            refine Qt.va rfl (fun w' hw => X.move (by conv => lhs; whnf)) ?_
            refine Qt.va rfl (fun w' hw => (by first | exact X.index1n rfl rfl Try.underlying23 sz_3 (by first | exact Option.some_ne_none _ | exact hr.some_ (by omega) | exact hA) (by omega) | exact X.index1 rfl rfl Try.underlying23 sz_3 (by first | exact Option.some_ne_none _ | exact hr.some_ (by omega) | exact hA) (by omega))) ?_
            refine Qt.va rfl (fun w' hw => X.load rfl sc_3 (by first | exact Ld.num (hr.ext hw) (by omega) | exact hA)) ?_
            -- callfn cmp.Less[int]
            refine Qt.call rfl en_293 rfl (fun w' hw => calls_same hw (clessI (m.getD a 0) (m.getD i 0) w')) ?_
            refine Qt.va rfl (fun w' hw => X.not rfl) ?_
            refine Qt.va rfl (fun w' hw => X.pickT rfl (by conv => lhs; whnf)) ?_
            refine Qt.nil (fun w5 hq => ?_)
            -- cond
            by_cases hd : m.getD i 0 ≤ m.getD a 0
            · rw [show decide (m.getD a 0 < m.getD i 0) = false from decide_eq_false (by omega)]
              refine J.iteT rfl ?_
              refine J.skip ?_
              refine J.block ?_
              refine J.region ?_
              refine L.va rfl (X.move (by conv => lhs; whnf)) ?_
              refine L.va rfl (X.add rfl rfl (by omega)) ?_
              refine L.va rfl (X.assign (by conv => lhs; whnf)) ?_
              refine L.nil ?_
              -- loopend
              refine ⟨i + 1, At1 (by first | rfl | exact at_int rfl (by omega) | exact at_slice rfl (by omega) | exact at_int rfl (by simp)), (by (iterate 19 refine Agr.lk rfl ?_); exact Agr.lk rfl (Agr.hav rfl Agr.rfl')), ?_⟩
              exact ⟨⟨⟨by omega, by omega, h3, fun k k1 k2 => by
                rcases Nat.lt_or_ge k i with h | h
                · exact HP.le k k1 h
                · obtain rfl : k = i := by omega
                  exact hd, HP.ri⟩, by omega, he.trans hq⟩, by omega⟩
            · rw [show decide (m.getD a 0 < m.getD i 0) = true from decide_eq_true (by omega)]
              refine J.iteF rfl ?_
              refine J.exit ?_
              -- cutend
              refine ⟨i, At1 (by first | rfl | exact at_int rfl (by omega) | exact at_slice rfl (by omega) | exact at_int rfl (by simp)), (by (iterate 16 refine Agr.lk rfl ?_); refine Agr.lk rfl ?_; refine Agr.hav rfl ?_; exact Agr.rfl'), ?_⟩
              exact ⟨HP, (fun _ => hd), hbd, he.trans hq⟩
          · skip
            refine Qt.no rfl ?_
            refine Qt.no rfl ?_
            refine Qt.no rfl ?_
            refine Qt.no rfl ?_
            refine Qt.no rfl ?_
            refine Qt.no rfl ?_
            refine Qt.no rfl ?_
            refine Qt.no rfl ?_
            refine Qt.no rfl ?_
            refine Qt.no rfl ?_
            refine Qt.va rfl (fun w' hw => X.pickF rfl (by conv => lhs; whnf)) ?_
            refine Qt.nil (fun w5 hq => ?_)
            -- cond
            refine J.iteF rfl ?_
            refine J.exit ?_
            -- cutend
            refine ⟨i, At1 (by first | rfl | exact at_int rfl (by omega) | exact at_slice rfl (by omega) | exact at_int rfl (by simp)), (by (iterate 16 refine Agr.lk rfl ?_); refine Agr.lk rfl ?_; refine Agr.hav rfl ?_; exact Agr.rfl'), ?_⟩
            exact ⟨HP, (fun h => absurd h (by omega)), hbd, he.trans hq⟩
      · rintro i g w6 ⟨HP, hi, hio2, he6⟩
        replace HO := HO.ext he6
        have hG6 : w.grownBy w6 (Value.ownBlock (.slice A n c)) := grb_trans M.g (grown_ext he6)
        obtain ⟨jo, hjo⟩ : ∃ jo, jo = j := ⟨_, rfl⟩
        rw [← hjo] at hi
        -- until
        refine J.cut (X := Nat) [10, 46, 47, 48, 49, 50, 51, 52, 53, 54, 55, 56, 57, 58, 59, 60, 61] (fun j => [(10, .int .i64 (j : Int))]) (fun j w' => Pt (· ≤ ·) (fun x y => y < x) m a b i j ∧ (i ≤ j → ¬ m.getD a 0 < m.getD j 0) ∧ j ≤ jo ∧ Ext w6 w') ?_ ?_
        · refine J.block ?_
          -- loop
          refine J.loop (X := Nat) [10, 46, 47, 48, 49, 50, 51, 52, 53, 54, 55, 56, 57, 58, 59, 60, 61] (fun j => [(10, .int .i64 (j : Int))]) (fun j w' => Pt (· ≤ ·) (fun x y => y < x) m a b i j ∧ j ≤ jo ∧ Ext w6 w') (fun j => j) (j) (At1 (by first | rfl | exact at_int rfl (by omega) | exact at_slice rfl (by omega) | exact at_int rfl (by simp))) ?_ ?_
          · exact ⟨HP, by omega, Ext.refl _⟩
          · rintro j g w7 ⟨HP, hbd, he⟩
            have h1 := HP.ai
            have h2 := HP.ij
            have h3 := HP.jb
            have hr := Reads.of_own (HO.ext he)
            have hA := hr.some_ (by omega)
            refine J.seq ?_
            refine J.seq ?_
            -- draw
            refine J.quiet mixed (by kernel_rfl) ?_
            refine Qt.va rfl (fun w' hw => X.move (by conv => lhs; whnf)) ?_
            refine Qt.va rfl (fun w' hw => X.move (by conv => lhs; whnf)) ?_
            refine Qt.va rfl (fun w' hw => X.leq rfl rfl) ?_
            refine Qt.va rfl (fun w' hw => X.move (by conv => lhs; whnf)) ?_
            -- case t49
            refine Qt.caseDec (k := 49) rfl (fun hij => ?_) (fun hij => ?_)
            · refine Qt.va rfl (fun w' hw => X.move (by conv => lhs; whnf)) ?_
              refine Qt.va rfl (fun w' hw => X.move (by conv => lhs; whnf)) ?_
              refine Qt.va rfl (fun w' hw => (by first | exact X.index1n rfl rfl Try.underlying23 sz_3 (by first | exact Option.some_ne_none _ | exact hr.some_ (by omega) | exact hA) (by omega) | exact X.index1 rfl rfl Try.underlying23 sz_3 (by first | exact Option.some_ne_none _ | exact hr.some_ (by omega) | exact hA) (by omega))) ?_
              refine Qt.va rfl (fun w' hw => X.load rfl sc_3 (by first | exact Ld.num (hr.ext hw) (by omega) | exact hA)) ?_
              refine Qt.va rfl (fun w' hw => X.move (by conv => lhs; whnf)) ?_
              refine Qt.va rfl (fun w' hw => X.move (by conv => lhs; whnf)) ?_
              refine Qt.va rfl (fun w' hw => (by first | exact X.index1n rfl rfl Try.underlying23 sz_3 (by first | exact Option.some_ne_none _ | exact hr.some_ (by omega) | exact hA) (by omega) | exact X.index1 rfl rfl Try.underlying23 sz_3 (by first | exact Option.some_ne_none _ | exact hr.some_ (by omega) | exact hA) (by omega))) ?_
              refine Qt.va rfl (fun w' hw => X.load rfl sc_3 (by first | exact Ld.num (hr.ext hw) (by omega) | exact hA)) ?_
              -- callfn cmp.Less[int]
              refine Qt.call rfl en_293 rfl (fun w' hw => calls_same hw (clessI (m.getD a 0) (m.getD j 0) w')) ?_
              refine Qt.va rfl (fun w' hw => X.pickT rfl (by conv => lhs; whnf)) ?_
              refine Qt.nil (fun w8 hq => ?_)
              -- cond
              by_cases hd : m.getD a 0 < m.getD j 0
              · rw [show decide (m.getD a 0 < m.getD j 0) = true from decide_eq_true (by omega)]
                refine J.iteT rfl ?_
                refine J.skip ?_
                refine J.block ?_
                refine J.region ?_
                refine L.va rfl (X.move (by conv => lhs; whnf)) ?_
                refine L.va rfl (X.sub rfl rfl (by omega)) ?_
                refine L.va rfl (X.assign (by conv => lhs; whnf)) ?_
                refine L.nil ?_
                -- loopend
                obtain ⟨j', rfl⟩ : ∃ j', j = j' + 1 := ⟨j - 1, by omega⟩
                refine ⟨j', At1 (by first | rfl | exact at_int rfl (by omega) | exact at_slice rfl (by omega) | exact at_int rfl (by simp)), (by (iterate 18 refine Agr.lk rfl ?_); exact Agr.lk rfl (Agr.hav rfl Agr.rfl')), ?_⟩
                exact ⟨⟨⟨h1, by omega, by omega, HP.le, fun k k1 k2 => by
                  rcases Nat.lt_or_ge (j' + 1) k with h | h
                  · exact HP.ri k h k2
                  · obtain rfl : k = j' + 1 := by omega
                    exact hd⟩, by omega, he.trans hq⟩, by omega⟩
              · rw [show decide (m.getD a 0 < m.getD j 0) = false from decide_eq_false (by omega)]
                refine J.iteF rfl ?_
                refine J.exit ?_
                -- cutend
                refine ⟨j, At1 (by first | rfl | exact at_int rfl (by omega) | exact at_slice rfl (by omega) | exact at_int rfl (by simp)), (by (iterate 15 refine Agr.lk rfl ?_); refine Agr.lk rfl ?_; refine Agr.hav rfl ?_; exact Agr.rfl'), ?_⟩
                exact ⟨HP, (fun _ => hd), hbd, he.trans hq⟩
            · skip
              refine Qt.no rfl ?_
              refine Qt.no rfl ?_
              refine Qt.no rfl ?_
              refine Qt.no rfl ?_
              refine Qt.no rfl ?_
              refine Qt.no rfl ?_
              refine Qt.no rfl ?_
              refine Qt.no rfl ?_
              refine Qt.no rfl ?_
              refine Qt.va rfl (fun w' hw => X.pickF rfl (by conv => lhs; whnf)) ?_
              refine Qt.nil (fun w8 hq => ?_)
              -- cond
              refine J.iteF rfl ?_
              refine J.exit ?_
              -- cutend
              refine ⟨j, At1 (by first | rfl | exact at_int rfl (by omega) | exact at_slice rfl (by omega) | exact at_int rfl (by simp)), (by (iterate 15 refine Agr.lk rfl ?_); refine Agr.lk rfl ?_; refine Agr.hav rfl ?_; exact Agr.rfl'), ?_⟩
              exact ⟨HP, (fun h => absurd h (by omega)), hbd, he.trans hq⟩
        · rintro j g w9 ⟨HP, hj, hjo2, he9⟩
          replace HO := HO.ext he9
          have hG9 := grb_trans hG6 (grown_ext he9)
          have h1 := HP.ai
          have h2 := HP.ij
          have h3 := HP.jb
          refine J.seq ?_
          refine J.seq ?_
          refine J.region ?_
          refine L.va rfl (X.move (by conv => lhs; whnf)) ?_
          refine L.va rfl (X.move (by conv => lhs; whnf)) ?_
          refine L.va rfl (X.gtr rfl rfl) ?_
          refine L.nil ?_
          -- cond
          refine J.dec rfl (fun hgt => ?_) (fun hgt => ?_)
          · refine J.exit ?_
            refine J.seq ?_
            refine J.region ?_
            refine L.va rfl (X.move (by conv => lhs; whnf)) ?_
            refine L.va rfl (X.assign (by conv => lhs; whnf)) ?_
            refine L.nil ?_
            -- ret
            refine J.ret ?_
            refine fin1 ?_
            obtain rfl : i = j + 1 := by omega
            refine ⟨m, j + 1, rfl, ⟨HO, hG9, M.p⟩, by omega, by omega, fun k k1 k2 => ?_, fun k k1 k2 => ?_⟩
            · by_cases e : k = a
              · rw [e, em]; exact Int.le_refl _
              · rw [← em]; exact HP.le k (by omega) k2
            · rw [← em]; exact HP.ri k (by omega) k2
          · have hi' := hi (by omega)
            have hj' := hj (by omega)
            have hne : i ≠ j := fun e => by subst e; omega
            obtain ⟨j, rfl⟩ : ∃ j', j = j' + 1 := ⟨j - 1, by omega⟩
            refine J.skip ?_
            refine J.seq ?_
            -- draw
            refine J.draw (ℓ := 1000000) (S := (fun _ => True)) mixed (fun w12d hSE hS_h => ?_)
            have hS : ((fun _ => True)) w12d := trivial
            have hrw12 := (Reads.of_own HO).ext hSE
            have hoX := HO.ext hSE
            have hG : w9.grownBy w12d (Value.ownBlock (.slice A n c)) := grown_ext hSE
            refine D.va 0 rfl (by kernel_rfl) (fun _ _ _ h => h) rfl (fun w' hw => X.move (by conv => lhs; whnf)) hS ?_
            refine D.va 1 rfl (by kernel_rfl) (fun _ _ _ h => h) rfl (fun w' hw => X.move (by conv => lhs; whnf)) hS ?_
            refine D.va 2 rfl (by kernel_rfl) (fun _ _ _ h => h) rfl (fun w' hw => X.move (by conv => lhs; whnf)) hS ?_
            refine D.va 3 rfl (by kernel_rfl) (fun _ _ _ h => h) rfl (fun w' hw => X.move (by conv => lhs; whnf)) hS ?_
            refine D.va 4 rfl (by kernel_rfl) (fun _ _ _ h => h) rfl (fun w' hw => X.move (by conv => lhs; whnf)) hS ?_
            refine D.va 5 rfl (by kernel_rfl) (fun _ _ _ h => h) rfl (fun w' hw => X.move (by conv => lhs; whnf)) hS ?_
            refine D.va 6 rfl (by kernel_rfl) (fun _ _ _ h => h) rfl (fun w' hw => (by first | exact X.index1n rfl rfl Try.underlying23 sz_3 (by first | exact Option.some_ne_none _ | exact hA) (by omega) | exact X.index1 rfl rfl Try.underlying23 sz_3 (by first | exact Option.some_ne_none _ | exact hA) (by omega))) hS ?_
            refine D.va 8 rfl (by kernel_rfl) (fun _ _ _ h => h) rfl (fun w' hw => X.move (by conv => lhs; whnf)) hS ?_
            refine D.va 9 rfl (by kernel_rfl) (fun _ _ _ h => h) rfl (fun w' hw => X.move (by conv => lhs; whnf)) hS ?_
            refine D.va 10 rfl (by kernel_rfl) (fun _ _ _ h => h) rfl (fun w' hw => (by first | exact X.index1n rfl rfl Try.underlying23 sz_3 (by first | exact Option.some_ne_none _ | exact hA) (by omega) | exact X.index1 rfl rfl Try.underlying23 sz_3 (by first | exact Option.some_ne_none _ | exact hA) (by omega))) hS ?_
            refine D.two 7 11 (by kernel_rfl) rfl rfl ?_ ?_
            · refine L.va rfl (X.load rfl sc_3 (Ld.num hrw12 (j := j + 1) (by omega))) ?_
              refine L.nil ?_
              refine ⟨fun _ => hS, ?_⟩
              refine D.one 11 (by kernel_rfl) rfl ?_
              refine L.va rfl (X.load rfl sc_3 (Ld.num hrw12 (j := i) (by omega))) ?_
              refine L.nil ?_
              refine ⟨fun _ => hS, ?_⟩
              refine D.va 12 rfl (by kernel_rfl) (fun _ _ _ h => h) rfl (fun w' hw => (by first | exact X.index1n rfl rfl Try.underlying23 sz_3 (by first | exact Option.some_ne_none _ | exact hA) (by omega) | exact X.index1 rfl rfl Try.underlying23 sz_3 (by first | exact Option.some_ne_none _ | exact hA) (by omega))) hS ?_
              refine D.one 13 (by kernel_rfl) rfl ?_
              refine L.storeON rfl rfl (by conv => lhs; whnf) sz_3 (hoX) (by omega) ?_
              intro w12 hoX hg2 hb2 hs2
              have hS1 := trivial
              refine L.nil ?_
              refine ⟨fun _ => hS1, ?_⟩
              replace hG := grb_trans hG hg2
              refine D.va 14 rfl (by kernel_rfl) (fun _ _ _ h => h) rfl (fun w' hw => (by first | exact X.index1n rfl rfl Try.underlying23 sz_3 (by first | exact Option.some_ne_none _ | exact hA) (by omega) | exact X.index1 rfl rfl Try.underlying23 sz_3 (by first | exact Option.some_ne_none _ | exact hA) (by omega))) hS1 ?_
              refine D.one 15 (by kernel_rfl) rfl ?_
              refine L.storeON rfl rfl (by conv => lhs; whnf) sz_3 (hoX) (by omega) ?_
              intro w12 hoX hg2 hb2 hs2
              have hS2 := trivial
              refine L.nil ?_
              refine ⟨fun _ => hS2, ?_⟩
              replace hG := grb_trans hG hg2
              refine D.done (by kernel_rfl) ?_
              refine J.seq ?_
              refine J.region ?_
              refine L.va rfl (X.move (by conv => lhs; whnf)) ?_
              refine L.va rfl (X.add rfl rfl (by omega)) ?_
              refine L.va rfl (X.assign (by conv => lhs; whnf)) ?_
              refine L.nil ?_
              refine J.region ?_
              refine L.va rfl (X.move (by conv => lhs; whnf)) ?_
              refine L.va rfl (X.sub rfl rfl (by omega)) ?_
              refine L.va rfl (X.assign (by conv => lhs; whnf)) ?_
              refine L.nil ?_
              -- loopend
              refine ⟨(i + 1, j, swp m i (j + 1)), At2 (by first | rfl | exact at_int rfl (by omega) | exact at_slice rfl (by omega) | exact at_int rfl (by simp)) (by first | rfl | exact at_int rfl (by omega) | exact at_slice rfl (by omega) | exact at_int rfl (by simp)), (by (iterate 23 refine Agr.lk rfl ?_); refine Agr.lk rfl ?_; refine Agr.hav rfl ?_; refine Agr.lk rfl ?_; refine Agr.hav rfl ?_; exact Agr.lk rfl (Agr.hav rfl Agr.rfl')), ?_⟩
              exact ⟨⟨⟨hoX, grb_trans hG9 hG, .step M.p ⟨by omega, by omega⟩ ⟨by omega, by omega⟩ (by omega)⟩, HP.swap (by omega) (by omega) (by omega) (by omega), by rw [swp_at m (by omega) (by omega), if_neg (by omega), if_neg (by omega)]; exact em⟩, by show j + 1 - (i + 1) < _ + 1 - _; omega⟩
            · refine L.va rfl (X.load rfl sc_3 (Ld.num hrw12 (j := i) (by omega))) ?_
              refine L.nil ?_
              refine ⟨fun _ => hS, ?_⟩
              refine D.one 7 (by kernel_rfl) rfl ?_
              refine L.va rfl (X.load rfl sc_3 (Ld.num hrw12 (j := j + 1) (by omega))) ?_
              refine L.nil ?_
              refine ⟨fun _ => hS, ?_⟩
              refine D.va 12 rfl (by kernel_rfl) (fun _ _ _ h => h) rfl (fun w' hw => (by first | exact X.index1n rfl rfl Try.underlying23 sz_3 (by first | exact Option.some_ne_none _ | exact hA) (by omega) | exact X.index1 rfl rfl Try.underlying23 sz_3 (by first | exact Option.some_ne_none _ | exact hA) (by omega))) hS ?_
              refine D.one 13 (by kernel_rfl) rfl ?_
              refine L.storeON rfl rfl (by conv => lhs; whnf) sz_3 (hoX) (by omega) ?_
              intro w12 hoX hg2 hb2 hs2
              have hS1 := trivial
              refine L.nil ?_
              refine ⟨fun _ => hS1, ?_⟩
              replace hG := grb_trans hG hg2
              refine D.va 14 rfl (by kernel_rfl) (fun _ _ _ h => h) rfl (fun w' hw => (by first | exact X.index1n rfl rfl Try.underlying23 sz_3 (by first | exact Option.some_ne_none _ | exact hA) (by omega) | exact X.index1 rfl rfl Try.underlying23 sz_3 (by first | exact Option.some_ne_none _ | exact hA) (by omega))) hS1 ?_
              refine D.one 15 (by kernel_rfl) rfl ?_
              refine L.storeON rfl rfl (by conv => lhs; whnf) sz_3 (hoX) (by omega) ?_
              intro w12 hoX hg2 hb2 hs2
              have hS2 := trivial
              refine L.nil ?_
              refine ⟨fun _ => hS2, ?_⟩
              replace hG := grb_trans hG hg2
              refine D.done (by kernel_rfl) ?_
              refine J.seq ?_
              refine J.region ?_
              refine L.va rfl (X.move (by conv => lhs; whnf)) ?_
              refine L.va rfl (X.add rfl rfl (by omega)) ?_
              refine L.va rfl (X.assign (by conv => lhs; whnf)) ?_
              refine L.nil ?_
              refine J.region ?_
              refine L.va rfl (X.move (by conv => lhs; whnf)) ?_
              refine L.va rfl (X.sub rfl rfl (by omega)) ?_
              refine L.va rfl (X.assign (by conv => lhs; whnf)) ?_
              refine L.nil ?_
              -- loopend
              refine ⟨(i + 1, j, swp m i (j + 1)), At2 (by first | rfl | exact at_int rfl (by omega) | exact at_slice rfl (by omega) | exact at_int rfl (by simp)) (by first | rfl | exact at_int rfl (by omega) | exact at_slice rfl (by omega) | exact at_int rfl (by simp)), (by (iterate 23 refine Agr.lk rfl ?_); refine Agr.lk rfl ?_; refine Agr.hav rfl ?_; refine Agr.lk rfl ?_; refine Agr.hav rfl ?_; exact Agr.lk rfl (Agr.hav rfl Agr.rfl')), ?_⟩
              exact ⟨⟨⟨hoX, grb_trans hG9 hG, .step M.p ⟨by omega, by omega⟩ ⟨by omega, by omega⟩ (by omega)⟩, HP.swap (by omega) (by omega) (by omega) (by omega), by rw [swp_at m (by omega) (by omega), if_neg (by omega), if_neg (by omega)]; exact em⟩, by show j + 1 - (i + 1) < _ + 1 - _; omega⟩
  · refine L.va rfl (X.load rfl sc_3 (Ld.num hrw2 (j := a) (by omega))) ?_
    refine L.nil ?_
    refine ⟨fun _ => hS, ?_⟩
    refine D.one 7 (by kernel_rfl) rfl ?_
    refine L.va rfl (X.load rfl sc_3 (Ld.num hrw2 (j := p) (by omega))) ?_
    refine L.nil ?_
    refine ⟨fun _ => hS, ?_⟩
    refine D.va 12 rfl (by kernel_rfl) (fun _ _ _ h => h) rfl (fun w' hw => (by first | exact X.index1n rfl rfl Try.underlying23 sz_3 (by first | exact Option.some_ne_none _ | exact hA) (by omega) | exact X.index1 rfl rfl Try.underlying23 sz_3 (by first | exact Option.some_ne_none _ | exact hA) (by omega))) hS ?_
    refine D.one 13 (by kernel_rfl) rfl ?_
    refine L.storeON rfl rfl (by conv => lhs; whnf) sz_3 (hoX) (by omega) ?_
    intro w2 hoX hg2 hb2 hs2
    have hS1 := trivial
    refine L.nil ?_
    refine ⟨fun _ => hS1, ?_⟩
    replace hG := grb_trans hG hg2
    refine D.va 14 rfl (by kernel_rfl) (fun _ _ _ h => h) rfl (fun w' hw => (by first | exact X.index1n rfl rfl Try.underlying23 sz_3 (by first | exact Option.some_ne_none _ | exact hA) (by omega) | exact X.index1 rfl rfl Try.underlying23 sz_3 (by first | exact Option.some_ne_none _ | exact hA) (by omega))) hS1 ?_
    refine D.one 15 (by kernel_rfl) rfl ?_
    refine L.storeON rfl rfl (by conv => lhs; whnf) sz_3 (hoX) (by omega) ?_
    intro w2 hoX hg2 hb2 hs2
    have hS2 := trivial
    refine L.nil ?_
    refine ⟨fun _ => hS2, ?_⟩
    replace hG := grb_trans hG hg2
    refine D.done (by kernel_rfl) ?_
    refine J.seq ?_
    refine J.region ?_
    refine L.va rfl (X.move (by conv => lhs; whnf)) ?_
    refine L.va rfl (X.add rfl rfl (by omega)) ?_
    refine L.va rfl (X.move (by conv => lhs; whnf)) ?_
    refine L.va rfl (X.sub rfl rfl (by omega)) ?_
    refine L.va rfl (X.assign (by conv => lhs; whnf)) ?_
    refine L.va rfl (X.assign (by conv => lhs; whnf)) ?_
    refine L.nil ?_
    refine J.seq ?_
    refine J.block ?_
    have ea : (swp l a p).getD a 0 = l.getD p 0 := by
      rw [swp_at l (by omega) (by omega)]
      by_cases e : a = p
      · rw [if_pos e, e]
      · rw [if_neg e, if_pos rfl]
    have M0 : SwI w w2 A n c N a b l (swp l a p) := ⟨hoX, hG, .step (.refl _) ⟨by omega, by omega⟩ hp (by omega)⟩
    have HP0 : Pt (· ≤ ·) (fun x y => y < x) (swp l a p) a b (a + 1) (b - 1) := ⟨by omega, by omega, by omega, (fun k k1 k2 => by omega), (fun k k1 k2 => by omega)⟩
    -- loop
    rw [e0]
    refine J.loop (X := Nat × Nat × List Int) [9, 10, 29, 30, 31, 32, 33, 34, 35, 36, 37, 38, 39, 40, 41, 42, 43, 44, 45, 46, 47, 48, 49, 50, 51, 52, 53, 54, 55, 56, 57, 58, 59, 60, 61, 62, 63, 64, 65, 66, 67, 68, 69, 70, 71, 72, 73, 74, 75, 76, 77, 78, 79, 80, 81, 82] (fun (i, j, m) => [(9, .int .i64 (i : Int)), (10, .int .i64 (j : Int))]) (fun (i, j, m) w' => SwI w w' A n c N a b l m ∧ Pt (· ≤ ·) (fun x y => y < x) m a b i j ∧ m.getD a 0 = l.getD p 0) (fun (i, j, _) => j + 1 - i) ((a + 1, b - 1, swp l a p)) (At2 (by first | rfl | exact at_int rfl (by omega) | exact at_slice rfl (by omega) | exact at_int rfl (by simp)) (by first | rfl | exact at_int rfl (by omega) | exact at_slice rfl (by omega) | exact at_int rfl (by simp))) ?_ ?_
    · exact ⟨M0, HP0, ea⟩
    · rintro ⟨i, j, m⟩ g w3 ⟨M, HP, em⟩
      have hml : m.length = n := by rw [M.p.len, hl]
      have HO := M.o
      obtain ⟨io, hio⟩ : ∃ io, io = i := ⟨_, rfl⟩
      refine J.block ?_
      -- until
      refine J.cut (X := Nat) [9, 29, 30, 31, 32, 33, 34, 35, 36, 37, 38, 39, 40, 41, 42, 43, 44, 45] (fun i => [(9, .int .i64 (i : Int))]) (fun i w' => Pt (· ≤ ·) (fun x y => y < x) m a b i j ∧ (i ≤ j → ¬ m.getD i 0 ≤ m.getD a 0) ∧ io ≤ i ∧ Ext w3 w') ?_ ?_
      · refine J.block ?_
        -- loop
        refine J.loop (X := Nat) [9, 29, 30, 31, 32, 33, 34, 35, 36, 37, 38, 39, 40, 41, 42, 43, 44, 45] (fun i => [(9, .int .i64 (i : Int))]) (fun i w' => Pt (· ≤ ·) (fun x y => y < x) m a b i j ∧ io ≤ i ∧ Ext w3 w') (fun i => j + 1 - i) (i) (At1 (by first | rfl | exact at_int rfl (by omega) | exact at_slice rfl (by omega) | exact at_int rfl (by simp))) ?_ ?_
        · exact ⟨HP, by omega, Ext.refl _⟩
        · rintro i g w4 ⟨HP, hbd, he⟩
          have h1 := HP.ai
          have h2 := HP.ij
          have h3 := HP.jb
          have hr := Reads.of_own (HO.ext he)
          have hA := hr.some_ (by omega)
          refine J.seq ?_
          refine J.seq ?_
          -- draw
          refine J.quiet mixed (by kernel_rfl) ?_
          refine Qt.va rfl (fun w' hw => X.move (by conv => lhs; whnf)) ?_
          refine Qt.va rfl (fun w' hw => X.move (by conv => lhs; whnf)) ?_
          refine Qt.va rfl (fun w' hw => X.leq rfl rfl) ?_
          refine Qt.va rfl (fun w' hw => X.move (by conv => lhs; whnf)) ?_
          -- case t32
          refine Qt.caseDec (k := 32) rfl (fun hij => ?_) (fun hij => ?_)
          · refine Qt.va rfl (fun w' hw => X.move (by conv => lhs; whnf)) ?_
            refine Qt.va rfl (fun w' hw => X.move (by conv => lhs; whnf)) ?_
            refine Qt.va rfl (fun w' hw => (by first | exact X.index1n rfl rfl Try.underlying23 sz_3 (by first | exact Option.some_ne_none _ | exact hr.some_ (by omega) | exact hA) (by omega) | exact X.index1 rfl rfl Try.underlying23 sz_3 (by first | exact Option.some_ne_none _ | exact hr.some_ (by omega) | exact hA) (by omega))) ?_
            refine Qt.va rfl (fun w' hw => X.load rfl sc_3 (by first | exact Ld.num (hr.ext hw) (by omega) | exact hA)) ?_
            refine Qt.va rfl (fun w' hw => X.move (by conv => lhs; whnf)) ?_
            refine Qt.va rfl (fun w' hw => X.move (by conv => lhs; whnf)) ?_
            refine Qt.va rfl (fun w' hw => (by first | exact X.index1n rfl rfl Try.underlying23 sz_3 (by first | exact Option.some_ne_none _ | exact hr.some_ (by omega) | exact hA) (by omega) | exact X.index1 rfl rfl Try.underlying23 sz_3 (by first | exact Option.some_ne_none _ | exact hr.some_ (by omega) | exact hA) (by omega))) ?_
            refine Qt.va rfl (fun w' hw => X.load rfl sc_3 (by first | exact Ld.num (hr.ext hw) (by omega) | exact hA)) ?_
            -- callfn cmp.Less[int]
            refine Qt.call rfl en_293 rfl (fun w' hw => calls_same hw (clessI (m.getD a 0) (m.getD i 0) w')) ?_
            refine Qt.va rfl (fun w' hw => X.not rfl) ?_
            refine Qt.va rfl (fun w' hw => X.pickT rfl (by conv => lhs; whnf)) ?_
            refine Qt.nil (fun w5 hq => ?_)
            -- cond
            by_cases hd : m.getD i 0 ≤ m.getD a 0
            · rw [show decide (m.getD a 0 < m.getD i 0) = false from decide_eq_false (by omega)]
              refine J.iteT rfl ?_
              refine J.skip ?_
              refine J.block ?_
              refine J.region ?_
              refine L.va rfl (X.move (by conv => lhs; whnf)) ?_
              refine L.va rfl (X.add rfl rfl (by omega)) ?_
              refine L.va rfl (X.assign (by conv => lhs; whnf)) ?_
              refine L.nil ?_
              -- loopend
              refine ⟨i + 1, At1 (by first | rfl | exact at_int rfl (by omega) | exact at_slice rfl (by omega) | exact at_int rfl (by simp)), (by (iterate 19 refine Agr.lk rfl ?_); exact Agr.lk rfl (Agr.hav rfl Agr.rfl')), ?_⟩
              exact ⟨⟨⟨by omega, by omega, h3, fun k k1 k2 => by
                rcases Nat.lt_or_ge k i with h | h
                · exact HP.le k k1 h
                · obtain rfl : k = i := by omega
                  exact hd, HP.ri⟩, by omega, he.trans hq⟩, by omega⟩
            · rw [show decide (m.getD a 0 < m.getD i 0) = true from decide_eq_true (by omega)]
              refine J.iteF rfl ?_
              refine J.exit ?_
              -- cutend
              refine ⟨i, At1 (by first | rfl | exact at_int rfl (by omega) | exact at_slice rfl (by omega) | exact at_int rfl (by simp)), (by (iterate 16 refine Agr.lk rfl ?_); refine Agr.lk rfl ?_; refine Agr.hav rfl ?_; exact Agr.rfl'), ?_⟩
              exact ⟨HP, (fun _ => hd), hbd, he.trans hq⟩
          · skip
            refine Qt.no rfl ?_
            refine Qt.no rfl ?_
            refine Qt.no rfl ?_
            refine Qt.no rfl ?_
            refine Qt.no rfl ?_
            refine Qt.no rfl ?_
            refine Qt.no rfl ?_
            refine Qt.no rfl ?_
            refine Qt.no rfl ?_
            refine Qt.no rfl ?_
            refine Qt.va rfl (fun w' hw => X.pickF rfl (by conv => lhs; whnf)) ?_
            refine Qt.nil (fun w5 hq => ?_)
            -- cond
            refine J.iteF rfl ?_
            refine J.exit ?_
            -- cutend
            refine ⟨i, At1 (by first | rfl | exact at_int rfl (by omega) | exact at_slice rfl (by omega) | exact at_int rfl (by simp)), (by (iterate 16 refine Agr.lk rfl ?_); refine Agr.lk rfl ?_; refine Agr.hav rfl ?_; exact Agr.rfl'), ?_⟩
            exact ⟨HP, (fun h => absurd h (by omega)), hbd, he.trans hq⟩
      · rintro i g w6 ⟨HP, hi, hio2, he6⟩
        replace HO := HO.ext he6
        have hG6 : w.grownBy w6 (Value.ownBlock (.slice A n c)) := grb_trans M.g (grown_ext he6)
        obtain ⟨jo, hjo⟩ : ∃ jo, jo = j := ⟨_, rfl⟩
        rw [← hjo] at hi
        -- until
        refine J.cut (X := Nat) [10, 46, 47, 48, 49, 50, 51, 52, 53, 54, 55, 56, 57, 58, 59, 60, 61] (fun j => [(10, .int .i64 (j : Int))]) (fun j w' => Pt (· ≤ ·) (fun x y => y < x) m a b i j ∧ (i ≤ j → ¬ m.getD a 0 < m.getD j 0) ∧ j ≤ jo ∧ Ext w6 w') ?_ ?_
        · refine J.block ?_
          -- loop
          refine J.loop (X := Nat) [10, 46, 47, 48, 49, 50, 51, 52, 53, 54, 55, 56, 57, 58, 59, 60, 61] (fun j => [(10, .int .i64 (j : Int))]) (fun j w' => Pt (· ≤ ·) (fun x y => y < x) m a b i j ∧ j ≤ jo ∧ Ext w6 w') (fun j => j) (j) (At1 (by first | rfl | exact at_int rfl (by omega) | exact at_slice rfl (by omega) | exact at_int rfl (by simp))) ?_ ?_
          · exact ⟨HP, by omega, Ext.refl _⟩
          · rintro j g w7 ⟨HP, hbd, he⟩
            have h1 := HP.ai
            have h2 := HP.ij
            have h3 := HP.jb
            have hr := Reads.of_own (HO.ext he)
            have hA := hr.some_ (by omega)
            refine J.seq ?_
            refine J.seq ?_
            -- draw
            refine J.quiet mixed (by kernel_rfl) ?_
            refine Qt.va rfl (fun w' hw => X.move (by conv => lhs; whnf)) ?_
            refine Qt.va rfl (fun w' hw => X.move (by conv => lhs; whnf)) ?_
            refine Qt.va rfl (fun w' hw => X.leq rfl rfl) ?_
            refine Qt.va rfl (fun w' hw => X.move (by conv => lhs; whnf)) ?_
            -- case t49
            refine Qt.caseDec (k := 49) rfl (fun hij => ?_) (fun hij => ?_)
            · refine Qt.va rfl (fun w' hw => X.move (by conv => lhs; whnf)) ?_
              refine Qt.va rfl (fun w' hw => X.move (by conv => lhs; whnf)) ?_
              refine Qt.va rfl (fun w' hw => (by first | exact X.index1n rfl rfl Try.underlying23 sz_3 (by first | exact Option.some_ne_none _ | exact hr.some_ (by omega) | exact hA) (by omega) | exact X.index1 rfl rfl Try.underlying23 sz_3 (by first | exact Option.some_ne_none _ | exact hr.some_ (by omega) | exact hA) (by omega))) ?_
              refine Qt.va rfl (fun w' hw => X.load rfl sc_3 (by first | exact Ld.num (hr.ext hw) (by omega) | exact hA)) ?_
              refine Qt.va rfl (fun w' hw => X.move (by conv => lhs; whnf)) ?_
              refine Qt.va rfl (fun w' hw => X.move (by conv => lhs; whnf)) ?_
              refine Qt.va rfl (fun w' hw => (by first | exact X.index1n rfl rfl Try.underlying23 sz_3 (by first | exact Option.some_ne_none _ | exact hr.some_ (by omega) | exact hA) (by omega) | exact X.index1 rfl rfl Try.underlying23 sz_3 (by first | exact Option.some_ne_none _ | exact hr.some_ (by omega) | exact hA) (by omega))) ?_
              refine Qt.va rfl (fun w' hw => X.load rfl sc_3 (by first | exact Ld.num (hr.ext hw) (by omega) | exact hA)) ?_
              -- callfn cmp.Less[int]
              refine Qt.call rfl en_293 rfl (fun w' hw => calls_same hw (clessI (m.getD a 0) (m.getD j 0) w')) ?_
              refine Qt.va rfl (fun w' hw => X.pickT rfl (by conv => lhs; whnf)) ?_
              refine Qt.nil (fun w8 hq => ?_)
              -- cond
              by_cases hd : m.getD a 0 < m.getD j 0
              · rw [show decide (m.getD a 0 < m.getD j 0) = true from decide_eq_true (by omega)]
                refine J.iteT rfl ?_
                refine J.skip ?_
                refine J.block ?_
                refine J.region ?_
                refine L.va rfl (X.move (by conv => lhs; whnf)) ?_
                refine L.va rfl (X.sub rfl rfl (by omega)) ?_
                refine L.va rfl (X.assign (by conv => lhs; whnf)) ?_
                refine L.nil ?_
                -- loopend
                obtain ⟨j', rfl⟩ : ∃ j', j = j' + 1 := ⟨j - 1, by omega⟩
                refine ⟨j', At1 (by first | rfl | exact at_int rfl (by omega) | exact at_slice rfl (by omega) | exact at_int rfl (by simp)), (by (iterate 18 refine Agr.lk rfl ?_); exact Agr.lk rfl (Agr.hav rfl Agr.rfl')), ?_⟩
                exact ⟨⟨⟨h1, by omega, by omega, HP.le, fun k k1 k2 => by
                  rcases Nat.lt_or_ge (j' + 1) k with h | h
                  · exact HP.ri k h k2
                  · obtain rfl : k = j' + 1 := by omega
                    exact hd⟩, by omega, he.trans hq⟩, by omega⟩
              · rw [show decide (m.getD a 0 < m.getD j 0) = false from decide_eq_false (by omega)]
                refine J.iteF rfl ?_
                refine J.exit ?_
                -- cutend
                refine ⟨j, At1 (by first | rfl | exact at_int rfl (by omega) | exact at_slice rfl (by omega) | exact at_int rfl (by simp)), (by (iterate 15 refine Agr.lk rfl ?_); refine Agr.lk rfl ?_; refine Agr.hav rfl ?_; exact Agr.rfl'), ?_⟩
                exact ⟨HP, (fun _ => hd), hbd, he.trans hq⟩
            · skip
              refine Qt.no rfl ?_
              refine Qt.no rfl ?_
              refine Qt.no rfl ?_
              refine Qt.no rfl ?_
              refine Qt.no rfl ?_
              refine Qt.no rfl ?_
              refine Qt.no rfl ?_
              refine Qt.no rfl ?_
              refine Qt.no rfl ?_
              refine Qt.va rfl (fun w' hw => X.pickF rfl (by conv => lhs; whnf)) ?_
              refine Qt.nil (fun w8 hq => ?_)
              -- cond
              refine J.iteF rfl ?_
              refine J.exit ?_
              -- cutend
              refine ⟨j, At1 (by first | rfl | exact at_int rfl (by omega) | exact at_slice rfl (by omega) | exact at_int rfl (by simp)), (by (iterate 15 refine Agr.lk rfl ?_); refine Agr.lk rfl ?_; refine Agr.hav rfl ?_; exact Agr.rfl'), ?_⟩
              exact ⟨HP, (fun h => absurd h (by omega)), hbd, he.trans hq⟩
        · rintro j g w9 ⟨HP, hj, hjo2, he9⟩
          replace HO := HO.ext he9
          have hG9 := grb_trans hG6 (grown_ext he9)
          have h1 := HP.ai
          have h2 := HP.ij
          have h3 := HP.jb
          refine J.seq ?_
          refine J.seq ?_
          refine J.region ?_
          refine L.va rfl (X.move (by conv => lhs; whnf)) ?_
          refine L.va rfl (X.move (by conv => lhs; whnf)) ?_
          refine L.va rfl (X.gtr rfl rfl) ?_
          refine L.nil ?_
          -- cond
          refine J.dec rfl (fun hgt => ?_) (fun hgt => ?_)
          · refine J.exit ?_
            refine J.seq ?_
            refine J.region ?_
            refine L.va rfl (X.move (by conv => lhs; whnf)) ?_
            refine L.va rfl (X.assign (by conv => lhs; whnf)) ?_
            refine L.nil ?_
            -- ret
            refine J.ret ?_
            refine fin1 ?_
            obtain rfl : i = j + 1 := by omega
            refine ⟨m, j + 1, rfl, ⟨HO, hG9, M.p⟩, by omega, by omega, fun k k1 k2 => ?_, fun k k1 k2 => ?_⟩
            · by_cases e : k = a
              · rw [e, em]; exact Int.le_refl _
              · rw [← em]; exact HP.le k (by omega) k2
            · rw [← em]; exact HP.ri k (by omega) k2
          · have hi' := hi (by omega)
            have hj' := hj (by omega)
            have hne : i ≠ j := fun e => by subst e; omega
            obtain ⟨j, rfl⟩ : ∃ j', j = j' + 1 := ⟨j - 1, by omega⟩
            refine J.skip ?_
            refine J.seq ?_
            -- draw
            refine J.draw (ℓ := 1000000) (S := (fun _ => True)) mixed (fun w12d hSE hS_h => ?_)
            have hS : ((fun _ => True)) w12d := trivial
            have hrw12 := (Reads.of_own HO).ext hSE
            have hoX := HO.ext hSE
            have hG : w9.grownBy w12d (Value.ownBlock (.slice A n c)) := grown_ext hSE
            refine D.va 0 rfl (by kernel_rfl) (fun _ _ _ h => h) rfl (fun w' hw => X.move (by conv => lhs; whnf)) hS ?_
            refine D.va 1 rfl (by kernel_rfl) (fun _ _ _ h => h) rfl (fun w' hw => X.move (by conv => lhs; whnf)) hS ?_
            refine D.va 2 rfl (by kernel_rfl) (fun _ _ _ h => h) rfl (fun w' hw => X.move (by conv => lhs; whnf)) hS ?_
            refine D.va 3 rfl (by kernel_rfl) (fun _ _ _ h => h) rfl (fun w' hw => X.move (by conv => lhs; whnf)) hS ?_
            refine D.va 4 rfl (by kernel_rfl) (fun _ _ _ h => h) rfl (fun w' hw => X.move (by conv => lhs; whnf)) hS ?_
            refine D.va 5 rfl (by kernel_rfl) (fun _ _ _ h => h) rfl (fun w' hw => X.move (by conv => lhs; whnf)) hS ?_
            refine D.va 6 rfl (by kernel_rfl) (fun _ _ _ h => h) rfl (fun w' hw => (by first | exact X.index1n rfl rfl Try.underlying23 sz_3 (by first | exact Option.some_ne_none _ | exact hA) (by omega) | exact X.index1 rfl rfl Try.underlying23 sz_3 (by first | exact Option.some_ne_none _ | exact hA) (by omega))) hS ?_
            refine D.va 8 rfl (by kernel_rfl) (fun _ _ _ h => h) rfl (fun w' hw => X.move (by conv => lhs; whnf)) hS ?_
            refine D.va 9 rfl (by kernel_rfl) (fun _ _ _ h => h) rfl (fun w' hw => X.move (by conv => lhs; whnf)) hS ?_
            refine D.va 10 rfl (by kernel_rfl) (fun _ _ _ h => h) rfl (fun w' hw => (by first | exact X.index1n rfl rfl Try.underlying23 sz_3 (by first | exact Option.some_ne_none _ | exact hA) (by omega) | exact X.index1 rfl rfl Try.underlying23 sz_3 (by first | exact Option.some_ne_none _ | exact hA) (by omega))) hS ?_
            refine D.two 7 11 (by kernel_rfl) rfl rfl ?_ ?_
            · refine L.va rfl (X.load rfl sc_3 (Ld.num hrw12 (j := j + 1) (by omega))) ?_
              refine L.nil ?_
              refine ⟨fun _ => hS, ?_⟩
              refine D.one 11 (by kernel_rfl) rfl ?_
              refine L.va rfl (X.load rfl sc_3 (Ld.num hrw12 (j := i) (by omega))) ?_
              refine L.nil ?_
              refine ⟨fun _ => hS, ?_⟩
              refine D.va 12 rfl (by kernel_rfl) (fun _ _ _ h => h) rfl (fun w' hw => (by first | exact X.index1n rfl rfl Try.underlying23 sz_3 (by first | exact Option.some_ne_none _ | exact hA) (by omega) | exact X.index1 rfl rfl Try.underlying23 sz_3 (by first | exact Option.some_ne_none _ | exact hA) (by omega))) hS ?_
              refine D.one 13 (by kernel_rfl) rfl ?_
              refine L.storeON rfl rfl (by conv => lhs; whnf) sz_3 (hoX) (by omega) ?_
              intro w12 hoX hg2 hb2 hs2
              have hS1 := trivial
              refine L.nil ?_
              refine ⟨fun _ => hS1, ?_⟩
              replace hG := grb_trans hG hg2
              refine D.va 14 rfl (by kernel_rfl) (fun _ _ _ h => h) rfl (fun w' hw => (by first | exact X.index1n rfl rfl Try.underlying23 sz_3 (by first | exact Option.some_ne_none _ | exact hA) (by omega) | exact X.index1 rfl rfl Try.underlying23 sz_3 (by first | exact Option.some_ne_none _ | exact hA) (by omega))) hS1 ?_
              refine D.one 15 (by kernel_rfl) rfl ?_
              refine L.storeON rfl rfl (by conv => lhs; whnf) sz_3 (hoX) (by omega) ?_
              intro w12 hoX hg2 hb2 hs2
              have hS2 := trivial
              refine L.nil ?_
              refine ⟨fun _ => hS2, ?_⟩
              replace hG := grb_trans hG hg2
              refine D.done (by kernel_rfl) ?_
              refine J.seq ?_
              refine J.region ?_
              refine L.va rfl (X.move (by conv => lhs; whnf)) ?_
              refine L.va rfl (X.add rfl rfl (by omega)) ?_
              refine L.va rfl (X.assign (by conv => lhs; whnf)) ?_
              refine L.nil ?_
              refine J.region ?_
              refine L.va rfl (X.move (by conv => lhs; whnf)) ?_
              refine L.va rfl (X.sub rfl rfl (by omega)) ?_
              refine L.va rfl (X.assign (by conv => lhs; whnf)) ?_
              refine L.nil ?_
              -- loopend
              refine ⟨(i + 1, j, swp m i (j + 1)), At2 (by first | rfl | exact at_int rfl (by omega) | exact at_slice rfl (by omega) | exact at_int rfl (by simp)) (by first | rfl | exact at_int rfl (by omega) | exact at_slice rfl (by omega) | exact at_int rfl (by simp)), (by (iterate 23 refine Agr.lk rfl ?_); refine Agr.lk rfl ?_; refine Agr.hav rfl ?_; refine Agr.lk rfl ?_; refine Agr.hav rfl ?_; exact Agr.lk rfl (Agr.hav rfl Agr.rfl')), ?_⟩
              exact ⟨⟨⟨hoX, grb_trans hG9 hG, .step M.p ⟨by omega, by omega⟩ ⟨by omega, by omega⟩ (by omega)⟩, HP.swap (by omega) (by omega) (by omega) (by omega), by rw [swp_at m (by omega) (by omega), if_neg (by omega), if_neg (by omega)]; exact em⟩, by show j + 1 - (i + 1) < _ + 1 - _; omega⟩
            · refine L.va rfl (X.load rfl sc_3 (Ld.num hrw12 (j := i) (by omega))) ?_
              refine L.nil ?_
              refine ⟨fun _ => hS, ?_⟩
              refine D.one 7 (by kernel_rfl) rfl ?_
              refine L.va rfl (X.load rfl sc_3 (Ld.num hrw12 (j := j + 1) (by omega))) ?_
              refine L.nil ?_
              refine ⟨fun _ => hS, ?_⟩
              refine D.va 12 rfl (by kernel_rfl) (fun _ _ _ h => h) rfl (fun w' hw => (by first | exact X.index1n rfl rfl Try.underlying23 sz_3 (by first | exact Option.some_ne_none _ | exact hA) (by omega) | exact X.index1 rfl rfl Try.underlying23 sz_3 (by first | exact Option.some_ne_none _ | exact hA) (by omega))) hS ?_
              refine D.one 13 (by kernel_rfl) rfl ?_
              refine L.storeON rfl rfl (by conv => lhs; whnf) sz_3 (hoX) (by omega) ?_
              intro w12 hoX hg2 hb2 hs2
              have hS1 := trivial
              refine L.nil ?_
              refine ⟨fun _ => hS1, ?_⟩
              replace hG := grb_trans hG hg2
              refine D.va 14 rfl (by kernel_rfl) (fun _ _ _ h => h) rfl (fun w' hw => (by first | exact X.index1n rfl rfl Try.underlying23 sz_3 (by first | exact Option.some_ne_none _ | exact hA) (by omega) | exact X.index1 rfl rfl Try.underlying23 sz_3 (by first | exact Option.some_ne_none _ | exact hA) (by omega))) hS1 ?_
              refine D.one 15 (by kernel_rfl) rfl ?_
              refine L.storeON rfl rfl (by conv => lhs; whnf) sz_3 (hoX) (by omega) ?_
              intro w12 hoX hg2 hb2 hs2
              have hS2 := trivial
              refine L.nil ?_
              refine ⟨fun _ => hS2, ?_⟩
              replace hG := grb_trans hG hg2
              refine D.done (by kernel_rfl) ?_
              refine J.seq ?_
              refine J.region ?_
              refine L.va rfl (X.move (by conv => lhs; whnf)) ?_
              refine L.va rfl (X.add rfl rfl (by omega)) ?_
              refine L.va rfl (X.assign (by conv => lhs; whnf)) ?_
              refine L.nil ?_
              refine J.region ?_
              refine L.va rfl (X.move (by conv => lhs; whnf)) ?_
              refine L.va rfl (X.sub rfl rfl (by omega)) ?_
              refine L.va rfl (X.assign (by conv => lhs; whnf)) ?_
              refine L.nil ?_
              -- loopend
              refine ⟨(i + 1, j, swp m i (j + 1)), At2 (by first | rfl | exact at_int rfl (by omega) | exact at_slice rfl (by omega) | exact at_int rfl (by simp)) (by first | rfl | exact at_int rfl (by omega) | exact at_slice rfl (by omega) | exact at_int rfl (by simp)), (by (iterate 23 refine Agr.lk rfl ?_); refine Agr.lk rfl ?_; refine Agr.hav rfl ?_; refine Agr.lk rfl ?_; refine Agr.hav rfl ?_; exact Agr.lk rfl (Agr.hav rfl Agr.rfl')), ?_⟩
              exact ⟨⟨⟨hoX, grb_trans hG9 hG, .step M.p ⟨by omega, by omega⟩ ⟨by omega, by omega⟩ (by omega)⟩, HP.swap (by omega) (by omega) (by omega) (by omega), by rw [swp_at m (by omega) (by omega), if_neg (by omega), if_neg (by omega)]; exact em⟩, by show j + 1 - (i + 1) < _ + 1 - _; omega⟩

theorem partI (A : Option Addr) (n c N a b p : Nat) (l : List Int) (w : World) (ho : w.ownsRow N 3 1 (.slice A n c) n (nums .i64 l)) (hb : b ≤ n) (hn : n ≤ 900000) (hp : a ≤ p ∧ p < b) :
    Calls Try.prog 295 #[.slice A n c, .int .i64 (a : Int), .int .i64 (b : Int), .int .i64 (p : Int)] w fun e w' => ∃ (l' : List Int) (q : Nat) (z : Bool), e = .returned (.tuple #[.int .i64 (q : Int), .bool z]) ∧ SwI w w' A n c N a b l l' ∧ a ≤ q ∧ q < b ∧ (∀ k, a ≤ k → k < q → l'.getD k 0 < l'.getD q 0) ∧ ∀ k, q < k → k < b → l'.getD q 0 ≤ l'.getD k 0 := by
  have hl : l.length = n := by have := ho.1; simpa [nums] using this
  have hA := (Reads.of_own ho).some_ (by omega)
  have e0 : (b : Int) - 1 = ((b - 1 : Nat) : Int) := by omega
  obtain ⟨j, hj0⟩ : ∃ j, j = b - 1 := ⟨_, rfl⟩
  rw [← hj0] at e0
  obtain ⟨i, hi0⟩ : ∃ i, i = a + 1 := ⟨_, rfl⟩
  have e1 : (a : Int) + 1 = (i : Int) := by omega
  refine enter Try.func295 rfl (by kernel_rfl) ?_
  refine J.seq ?_
  refine J.region ?_
  refine L.va rfl (X.assign (by conv => lhs; whnf)) ?_
  refine L.va rfl (X.assign (by conv => lhs; whnf)) ?_
  refine L.nil ?_
  -- until
  refine J.cut (X := List Int) [12, 13, 14, 15, 16, 17, 18, 19, 20, 21, 22, 23, 24, 25] (fun m => [(1, .int .i64 (a : Int))]) (fun m w' => SwI w w' A n c N a b l m) ?_ ?_
  · -- draw
    refine J.draw (ℓ := 1000000) (S := (fun _ => True)) mixed (fun w2d hSE hS_h => ?_)
    have hS : ((fun _ => True)) w2d := trivial
    have hrw2 := (Reads.of_own ho).ext hSE
    have hoX := ho.ext hSE
    have hG : w.grownBy w2d (Value.ownBlock (.slice A n c)) := grown_ext hSE
    refine D.va 0 rfl (by kernel_rfl) (fun _ _ _ h => h) rfl (fun w' hw => X.move (by conv => lhs; whnf)) hS ?_
    refine D.va 1 rfl (by kernel_rfl) (fun _ _ _ h => h) rfl (fun w' hw => X.move (by conv => lhs; whnf)) hS ?_
    refine D.va 2 rfl (by kernel_rfl) (fun _ _ _ h => h) rfl (fun w' hw => X.move (by conv => lhs; whnf)) hS ?_
    refine D.va 3 rfl (by kernel_rfl) (fun _ _ _ h => h) rfl (fun w' hw => X.move (by conv => lhs; whnf)) hS ?_
    refine D.va 4 rfl (by kernel_rfl) (fun _ _ _ h => h) rfl (fun w' hw => X.move (by conv => lhs; whnf)) hS ?_
    refine D.va 5 rfl (by kernel_rfl) (fun _ _ _ h => h) rfl (fun w' hw => X.move (by conv => lhs; whnf)) hS ?_
    refine D.va 6 rfl (by kernel_rfl) (fun _ _ _ h => h) rfl (fun w' hw => (by first | exact X.index1n rfl rfl Try.underlying23 sz_3 (by first | exact Option.some_ne_none _ | exact hA) (by omega) | exact X.index1 rfl rfl Try.underlying23 sz_3 (by first | exact Option.some_ne_none _ | exact hA) (by omega))) hS ?_
    refine D.va 8 rfl (by kernel_rfl) (fun _ _ _ h => h) rfl (fun w' hw => X.move (by conv => lhs; whnf)) hS ?_
    refine D.va 9 rfl (by kernel_rfl) (fun _ _ _ h => h) rfl (fun w' hw => X.move (by conv => lhs; whnf)) hS ?_
    refine D.va 10 rfl (by kernel_rfl) (fun _ _ _ h => h) rfl (fun w' hw => (by first | exact X.index1n rfl rfl Try.underlying23 sz_3 (by first | exact Option.some_ne_none _ | exact hA) (by omega) | exact X.index1 rfl rfl Try.underlying23 sz_3 (by first | exact Option.some_ne_none _ | exact hA) (by omega))) hS ?_
    refine D.two 7 11 (by kernel_rfl) rfl rfl ?_ ?_
    · refine L.va rfl (X.load rfl sc_3 (Ld.num hrw2 (j := p) (by omega))) ?_
      refine L.nil ?_
      refine ⟨fun _ => hS, ?_⟩
      refine D.one 11 (by kernel_rfl) rfl ?_
      refine L.va rfl (X.load rfl sc_3 (Ld.num hrw2 (j := a) (by omega))) ?_
      refine L.nil ?_
      refine ⟨fun _ => hS, ?_⟩
      refine D.va 12 rfl (by kernel_rfl) (fun _ _ _ h => h) rfl (fun w' hw => (by first | exact X.index1n rfl rfl Try.underlying23 sz_3 (by first | exact Option.some_ne_none _ | exact hA) (by omega) | exact X.index1 rfl rfl Try.underlying23 sz_3 (by first | exact Option.some_ne_none _ | exact hA) (by omega))) hS ?_
      refine D.one 13 (by kernel_rfl) rfl ?_
      refine L.storeON rfl rfl (by conv => lhs; whnf) sz_3 (hoX) (by omega) ?_
      intro w2 hoX hg2 hb2 hs2
      have hS1 := trivial
      refine L.nil ?_
      refine ⟨fun _ => hS1, ?_⟩
      replace hG := grb_trans hG hg2
      refine D.va 14 rfl (by kernel_rfl) (fun _ _ _ h => h) rfl (fun w' hw => (by first | exact X.index1n rfl rfl Try.underlying23 sz_3 (by first | exact Option.some_ne_none _ | exact hA) (by omega) | exact X.index1 rfl rfl Try.underlying23 sz_3 (by first | exact Option.some_ne_none _ | exact hA) (by omega))) hS1 ?_
      refine D.one 15 (by kernel_rfl) rfl ?_
      refine L.storeON rfl rfl (by conv => lhs; whnf) sz_3 (hoX) (by omega) ?_
      intro w2 hoX hg2 hb2 hs2
      have hS2 := trivial
      refine L.nil ?_
      refine ⟨fun _ => hS2, ?_⟩
      replace hG := grb_trans hG hg2
      refine D.done (by kernel_rfl) ?_
      refine ⟨swp l a p, At1 (by first | rfl | exact at_int rfl (by omega) | exact at_slice rfl (by omega) | exact at_int rfl (by simp)), (by (iterate 14 refine Agr.lk rfl ?_); exact Agr.rfl'), ?_⟩
      exact ⟨hoX, hG, .step (.refl _) ⟨by omega, by omega⟩ hp (by omega)⟩
    · refine L.va rfl (X.load rfl sc_3 (Ld.num hrw2 (j := a) (by omega))) ?_
      refine L.nil ?_
      refine ⟨fun _ => hS, ?_⟩
      refine D.one 7 (by kernel_rfl) rfl ?_
      refine L.va rfl (X.load rfl sc_3 (Ld.num hrw2 (j := p) (by omega))) ?_
      refine L.nil ?_
      refine ⟨fun _ => hS, ?_⟩
      refine D.va 12 rfl (by kernel_rfl) (fun _ _ _ h => h) rfl (fun w' hw => (by first | exact X.index1n rfl rfl Try.underlying23 sz_3 (by first | exact Option.some_ne_none _ | exact hA) (by omega) | exact X.index1 rfl rfl Try.underlying23 sz_3 (by first | exact Option.some_ne_none _ | exact hA) (by omega))) hS ?_
      refine D.one 13 (by kernel_rfl) rfl ?_
      refine L.storeON rfl rfl (by conv => lhs; whnf) sz_3 (hoX) (by omega) ?_
      intro w2 hoX hg2 hb2 hs2
      have hS1 := trivial
      refine L.nil ?_
      refine ⟨fun _ => hS1, ?_⟩
      replace hG := grb_trans hG hg2
      refine D.va 14 rfl (by kernel_rfl) (fun _ _ _ h => h) rfl (fun w' hw => (by first | exact X.index1n rfl rfl Try.underlying23 sz_3 (by first | exact Option.some_ne_none _ | exact hA) (by omega) | exact X.index1 rfl rfl Try.underlying23 sz_3 (by first | exact Option.some_ne_none _ | exact hA) (by omega))) hS1 ?_
      refine D.one 15 (by kernel_rfl) rfl ?_
      refine L.storeON rfl rfl (by conv => lhs; whnf) sz_3 (hoX) (by omega) ?_
      intro w2 hoX hg2 hb2 hs2
      have hS2 := trivial
      refine L.nil ?_
      refine ⟨fun _ => hS2, ?_⟩
      replace hG := grb_trans hG hg2
      refine D.done (by kernel_rfl) ?_
      refine ⟨swp l a p, At1 (by first | rfl | exact at_int rfl (by omega) | exact at_slice rfl (by omega) | exact at_int rfl (by simp)), (by (iterate 14 refine Agr.lk rfl ?_); exact Agr.rfl'), ?_⟩
      exact ⟨hoX, hG, .step (.refl _) ⟨by omega, by omega⟩ hp (by omega)⟩
  · rintro m g w2 M
    have hml : m.length = n := by rw [M.p.len, hl]
    have HP : Pt (· < ·) (fun x y => y ≤ x) m a b i j := ⟨by omega, by omega, by omega, (fun k k1 k2 => by omega), (fun k k1 k2 => by omega)⟩
    have HO := M.o
    refine J.seq ?_
    refine J.region ?_
    refine L.va rfl (X.move (by conv => lhs; whnf)) ?_
    refine L.va rfl (X.add rfl rfl (by omega)) ?_
    refine L.va rfl (X.move (by conv => lhs; whnf)) ?_
    refine L.va rfl (X.sub rfl rfl (by omega)) ?_
    refine L.va rfl (X.assign (by conv => lhs; whnf)) ?_
    refine L.va rfl (X.assign (by conv => lhs; whnf)) ?_
    refine L.nil ?_
    -- until
    rw [e0, e1]
    obtain ⟨io, hio⟩ : ∃ io, io = i := ⟨_, rfl⟩
    refine J.cut (X := Nat) [10, 30, 31, 32, 33, 34, 35, 36, 37, 38, 39, 40, 41, 42, 43, 44, 45] (fun i => [(10, .int .i64 (i : Int))]) (fun i w' => Pt (· < ·) (fun x y => y ≤ x) m a b i j ∧ (i ≤ j → ¬ m.getD i 0 < m.getD a 0) ∧ io ≤ i ∧ Ext w2 w') ?_ ?_
    · refine J.block ?_
      -- loop
      refine J.loop (X := Nat) [10, 30, 31, 32, 33, 34, 35, 36, 37, 38, 39, 40, 41, 42, 43, 44, 45] (fun i => [(10, .int .i64 (i : Int))]) (fun i w' => Pt (· < ·) (fun x y => y ≤ x) m a b i j ∧ io ≤ i ∧ Ext w2 w') (fun i => j + 1 - i) (i) (At1 (by first | rfl | exact at_int rfl (by omega) | exact at_slice rfl (by omega) | exact at_int rfl (by simp))) ?_ ?_
      · exact ⟨HP, by omega, Ext.refl _⟩
      · rintro i g w4 ⟨HP, hbd, he⟩
        have h1 := HP.ai
        have h2 := HP.ij
        have h3 := HP.jb
        have hr := Reads.of_own (HO.ext he)
        have hA := hr.some_ (by omega)
        refine J.seq ?_
        refine J.seq ?_
        -- draw
        refine J.quiet mixed (by kernel_rfl) ?_
        refine Qt.va rfl (fun w' hw => X.move (by conv => lhs; whnf)) ?_
        refine Qt.va rfl (fun w' hw => X.move (by conv => lhs; whnf)) ?_
        refine Qt.va rfl (fun w' hw => X.leq rfl rfl) ?_
        refine Qt.va rfl (fun w' hw => X.move (by conv => lhs; whnf)) ?_
        -- case t33
        refine Qt.caseDec (k := 33) rfl (fun hij => ?_) (fun hij => ?_)
        · refine Qt.va rfl (fun w' hw => X.move (by conv => lhs; whnf)) ?_
          refine Qt.va rfl (fun w' hw => X.move (by conv => lhs; whnf)) ?_
          refine Qt.va rfl (fun w' hw => (by first | exact X.index1n rfl rfl Try.underlying23 sz_3 (by first | exact Option.some_ne_none _ | exact hr.some_ (by omega) | exact hA) (by omega) | exact X.index1 rfl rfl Try.underlying23 sz_3 (by first | exact Option.some_ne_none _ | exact hr.some_ (by omega) | exact hA) (by omega))) ?_
          refine Qt.va rfl (fun w' hw => X.load rfl sc_3 (by first | exact Ld.num (hr.ext hw) (by omega) | exact hA)) ?_
          refine Qt.va rfl (fun w' hw => X.move (by conv => lhs; whnf)) ?_
          refine Qt.va rfl (fun w' hw => X.move (by conv => lhs; whnf)) ?_
          refine Qt.va rfl (fun w' hw => (by first | exact X.index1n rfl rfl Try.underlying23 sz_3 (by first | exact Option.some_ne_none _ | exact hr.some_ (by omega) | exact hA) (by omega) | exact X.index1 rfl rfl Try.underlying23 sz_3 (by first | exact Option.some_ne_none _ | exact hr.some_ (by omega) | exact hA) (by omega))) ?_
          refine Qt.va rfl (fun w' hw => X.load rfl sc_3 (by first | exact Ld.num (hr.ext hw) (by omega) | exact hA)) ?_
          -- callfn cmp.Less[int]
          refine Qt.call rfl en_293 rfl (fun w' hw => calls_same hw (clessI (m.getD i 0) (m.getD a 0) w')) ?_
          refine Qt.va rfl (fun w' hw => X.pickT rfl (by conv => lhs; whnf)) ?_
          refine Qt.nil (fun w5 hq => ?_)
          -- cond
          by_cases hd : m.getD i 0 < m.getD a 0
          · rw [show decide (m.getD i 0 < m.getD a 0) = true from decide_eq_true (by omega)]
            refine J.iteT rfl ?_
            refine J.skip ?_
            refine J.block ?_
            refine J.region ?_
            refine L.va rfl (X.move (by conv => lhs; whnf)) ?_
            refine L.va rfl (X.add rfl rfl (by omega)) ?_
            refine L.va rfl (X.assign (by conv => lhs; whnf)) ?_
            refine L.nil ?_
            -- loopend
            refine ⟨i + 1, At1 (by first | rfl | exact at_int rfl (by omega) | exact at_slice rfl (by omega) | exact at_int rfl (by simp)), (by (iterate 18 refine Agr.lk rfl ?_); exact Agr.lk rfl (Agr.hav rfl Agr.rfl')), ?_⟩
            exact ⟨⟨⟨by omega, by omega, h3, fun k k1 k2 => by
              rcases Nat.lt_or_ge k i with h | h
              · exact HP.le k k1 h
              · obtain rfl : k = i := by omega
                exact hd, HP.ri⟩, by omega, he.trans hq⟩, by omega⟩
          · rw [show decide (m.getD i 0 < m.getD a 0) = false from decide_eq_false (by omega)]
            refine J.iteF rfl ?_
            refine J.exit ?_
            -- cutend
            refine ⟨i, At1 (by first | rfl | exact at_int rfl (by omega) | exact at_slice rfl (by omega) | exact at_int rfl (by simp)), (by (iterate 15 refine Agr.lk rfl ?_); refine Agr.lk rfl ?_; refine Agr.hav rfl ?_; exact Agr.rfl'), ?_⟩
            exact ⟨HP, (fun _ => hd), hbd, he.trans hq⟩
        · skip
          refine Qt.no rfl ?_
          refine Qt.no rfl ?_
          refine Qt.no rfl ?_
          refine Qt.no rfl ?_
          refine Qt.no rfl ?_
          refine Qt.no rfl ?_
          refine Qt.no rfl ?_
          refine Qt.no rfl ?_
          refine Qt.no rfl ?_
          refine Qt.va rfl (fun w' hw => X.pickF rfl (by conv => lhs; whnf)) ?_
          refine Qt.nil (fun w5 hq => ?_)
          -- cond
          refine J.iteF rfl ?_
          refine J.exit ?_
          -- cutend
          refine ⟨i, At1 (by first | rfl | exact at_int rfl (by omega) | exact at_slice rfl (by omega) | exact at_int rfl (by simp)), (by (iterate 15 refine Agr.lk rfl ?_); refine Agr.lk rfl ?_; refine Agr.hav rfl ?_; exact Agr.rfl'), ?_⟩
          exact ⟨HP, (fun h => absurd h (by omega)), hbd, he.trans hq⟩
    · rintro i g w6 ⟨HP, hi, hio2, he6⟩
      replace HO := HO.ext he6
      have hG6 : w.grownBy w6 (Value.ownBlock (.slice A n c)) := grb_trans M.g (grown_ext he6)
      obtain ⟨jo, hjo⟩ : ∃ jo, jo = j := ⟨_, rfl⟩
      rw [← hjo] at hi
      -- until
      refine J.cut (X := Nat) [11, 46, 47, 48, 49, 50, 51, 52, 53, 54, 55, 56, 57, 58, 59, 60, 61, 62] (fun j => [(11, .int .i64 (j : Int))]) (fun j w' => Pt (· < ·) (fun x y => y ≤ x) m a b i j ∧ (i ≤ j → ¬ m.getD a 0 ≤ m.getD j 0) ∧ j ≤ jo ∧ Ext w6 w') ?_ ?_
      · refine J.block ?_
        -- loop
        refine J.loop (X := Nat) [11, 46, 47, 48, 49, 50, 51, 52, 53, 54, 55, 56, 57, 58, 59, 60, 61, 62] (fun j => [(11, .int .i64 (j : Int))]) (fun j w' => Pt (· < ·) (fun x y => y ≤ x) m a b i j ∧ j ≤ jo ∧ Ext w6 w') (fun j => j) (j) (At1 (by first | rfl | exact at_int rfl (by omega) | exact at_slice rfl (by omega) | exact at_int rfl (by simp))) ?_ ?_
        · exact ⟨HP, by omega, Ext.refl _⟩
        · rintro j g w7 ⟨HP, hbd, he⟩
          have h1 := HP.ai
          have h2 := HP.ij
          have h3 := HP.jb
          have hr := Reads.of_own (HO.ext he)
          have hA := hr.some_ (by omega)
          refine J.seq ?_
          refine J.seq ?_
          -- draw
          refine J.quiet mixed (by kernel_rfl) ?_
          refine Qt.va rfl (fun w' hw => X.move (by conv => lhs; whnf)) ?_
          refine Qt.va rfl (fun w' hw => X.move (by conv => lhs; whnf)) ?_
          refine Qt.va rfl (fun w' hw => X.leq rfl rfl) ?_
          refine Qt.va rfl (fun w' hw => X.move (by conv => lhs; whnf)) ?_
          -- case t49
          refine Qt.caseDec (k := 49) rfl (fun hij => ?_) (fun hij => ?_)
          · refine Qt.va rfl (fun w' hw => X.move (by conv => lhs; whnf)) ?_
            refine Qt.va rfl (fun w' hw => X.move (by conv => lhs; whnf)) ?_
            refine Qt.va rfl (fun w' hw => (by first | exact X.index1n rfl rfl Try.underlying23 sz_3 (by first | exact Option.some_ne_none _ | exact hr.some_ (by omega) | exact hA) (by omega) | exact X.index1 rfl rfl Try.underlying23 sz_3 (by first | exact Option.some_ne_none _ | exact hr.some_ (by omega) | exact hA) (by omega))) ?_
            refine Qt.va rfl (fun w' hw => X.load rfl sc_3 (by first | exact Ld.num (hr.ext hw) (by omega) | exact hA)) ?_
            refine Qt.va rfl (fun w' hw => X.move (by conv => lhs; whnf)) ?_
            refine Qt.va rfl (fun w' hw => X.move (by conv => lhs; whnf)) ?_
            refine Qt.va rfl (fun w' hw => (by first | exact X.index1n rfl rfl Try.underlying23 sz_3 (by first | exact Option.some_ne_none _ | exact hr.some_ (by omega) | exact hA) (by omega) | exact X.index1 rfl rfl Try.underlying23 sz_3 (by first | exact Option.some_ne_none _ | exact hr.some_ (by omega) | exact hA) (by omega))) ?_
            refine Qt.va rfl (fun w' hw => X.load rfl sc_3 (by first | exact Ld.num (hr.ext hw) (by omega) | exact hA)) ?_
            -- callfn cmp.Less[int]
            refine Qt.call rfl en_293 rfl (fun w' hw => calls_same hw (clessI (m.getD j 0) (m.getD a 0) w')) ?_
            refine Qt.va rfl (fun w' hw => X.not rfl) ?_
            refine Qt.va rfl (fun w' hw => X.pickT rfl (by conv => lhs; whnf)) ?_
            refine Qt.nil (fun w8 hq => ?_)
            -- cond
            by_cases hd : m.getD a 0 ≤ m.getD j 0
            · rw [show decide (m.getD j 0 < m.getD a 0) = false from decide_eq_false (by omega)]
              refine J.iteT rfl ?_
              refine J.skip ?_
              refine J.block ?_
              refine J.region ?_
              refine L.va rfl (X.move (by conv => lhs; whnf)) ?_
              refine L.va rfl (X.sub rfl rfl (by omega)) ?_
              refine L.va rfl (X.assign (by conv => lhs; whnf)) ?_
              refine L.nil ?_
              -- loopend
              obtain ⟨j', rfl⟩ : ∃ j', j = j' + 1 := ⟨j - 1, by omega⟩
              refine ⟨j', At1 (by first | rfl | exact at_int rfl (by omega) | exact at_slice rfl (by omega) | exact at_int rfl (by simp)), (by (iterate 19 refine Agr.lk rfl ?_); exact Agr.lk rfl (Agr.hav rfl Agr.rfl')), ?_⟩
              exact ⟨⟨⟨h1, by omega, by omega, HP.le, fun k k1 k2 => by
                rcases Nat.lt_or_ge (j' + 1) k with h | h
                · exact HP.ri k h k2
                · obtain rfl : k = j' + 1 := by omega
                  exact hd⟩, by omega, he.trans hq⟩, by omega⟩
            · rw [show decide (m.getD j 0 < m.getD a 0) = true from decide_eq_true (by omega)]
              refine J.iteF rfl ?_
              refine J.exit ?_
              -- cutend
              refine ⟨j, At1 (by first | rfl | exact at_int rfl (by omega) | exact at_slice rfl (by omega) | exact at_int rfl (by simp)), (by (iterate 16 refine Agr.lk rfl ?_); refine Agr.lk rfl ?_; refine Agr.hav rfl ?_; exact Agr.rfl'), ?_⟩
              exact ⟨HP, (fun _ => hd), hbd, he.trans hq⟩
          · skip
            refine Qt.no rfl ?_
            refine Qt.no rfl ?_
            refine Qt.no rfl ?_
            refine Qt.no rfl ?_
            refine Qt.no rfl ?_
            refine Qt.no rfl ?_
            refine Qt.no rfl ?_
            refine Qt.no rfl ?_
            refine Qt.no rfl ?_
            refine Qt.no rfl ?_
            refine Qt.va rfl (fun w' hw => X.pickF rfl (by conv => lhs; whnf)) ?_
            refine Qt.nil (fun w8 hq => ?_)
            -- cond
            refine J.iteF rfl ?_
            refine J.exit ?_
            -- cutend
            refine ⟨j, At1 (by first | rfl | exact at_int rfl (by omega) | exact at_slice rfl (by omega) | exact at_int rfl (by simp)), (by (iterate 16 refine Agr.lk rfl ?_); refine Agr.lk rfl ?_; refine Agr.hav rfl ?_; exact Agr.rfl'), ?_⟩
            exact ⟨HP, (fun h => absurd h (by omega)), hbd, he.trans hq⟩
      · rintro j g w9 ⟨HP, hj, hjo2, he9⟩
        replace HO := HO.ext he9
        have hG9 := grb_trans hG6 (grown_ext he9)
        have h1 := HP.ai
        have h2 := HP.ij
        have h3 := HP.jb
        refine J.seq ?_
        refine J.seq ?_
        refine J.region ?_
        refine L.va rfl (X.move (by conv => lhs; whnf)) ?_
        refine L.va rfl (X.move (by conv => lhs; whnf)) ?_
        refine L.va rfl (X.gtr rfl rfl) ?_
        refine L.nil ?_
        -- cond
        refine J.dec rfl (fun hgt => ?_) (fun hgt => ?_)
        · have hd := HP.done (by omega) (by omega)
          refine J.seq ?_
          -- draw
          refine J.draw (ℓ := 1000000) (S := (fun _ => True)) mixed (fun w12d hSE hS_h => ?_)
          have hS : ((fun _ => True)) w12d := trivial
          have hrw12 := (Reads.of_own HO).ext hSE
          have hoX := HO.ext hSE
          have hG : w9.grownBy w12d (Value.ownBlock (.slice A n c)) := grown_ext hSE
          refine D.va 0 rfl (by kernel_rfl) (fun _ _ _ h => h) rfl (fun w' hw => X.move (by conv => lhs; whnf)) hS ?_
          refine D.va 1 rfl (by kernel_rfl) (fun _ _ _ h => h) rfl (fun w' hw => X.move (by conv => lhs; whnf)) hS ?_
          refine D.va 2 rfl (by kernel_rfl) (fun _ _ _ h => h) rfl (fun w' hw => X.move (by conv => lhs; whnf)) hS ?_
          refine D.va 3 rfl (by kernel_rfl) (fun _ _ _ h => h) rfl (fun w' hw => X.move (by conv => lhs; whnf)) hS ?_
          refine D.va 4 rfl (by kernel_rfl) (fun _ _ _ h => h) rfl (fun w' hw => X.move (by conv => lhs; whnf)) hS ?_
          refine D.va 5 rfl (by kernel_rfl) (fun _ _ _ h => h) rfl (fun w' hw => X.move (by conv => lhs; whnf)) hS ?_
          refine D.va 6 rfl (by kernel_rfl) (fun _ _ _ h => h) rfl (fun w' hw => (by first | exact X.index1n rfl rfl Try.underlying23 sz_3 (by first | exact Option.some_ne_none _ | exact hA) (by omega) | exact X.index1 rfl rfl Try.underlying23 sz_3 (by first | exact Option.some_ne_none _ | exact hA) (by omega))) hS ?_
          refine D.va 8 rfl (by kernel_rfl) (fun _ _ _ h => h) rfl (fun w' hw => X.move (by conv => lhs; whnf)) hS ?_
          refine D.va 9 rfl (by kernel_rfl) (fun _ _ _ h => h) rfl (fun w' hw => X.move (by conv => lhs; whnf)) hS ?_
          refine D.va 10 rfl (by kernel_rfl) (fun _ _ _ h => h) rfl (fun w' hw => (by first | exact X.index1n rfl rfl Try.underlying23 sz_3 (by first | exact Option.some_ne_none _ | exact hA) (by omega) | exact X.index1 rfl rfl Try.underlying23 sz_3 (by first | exact Option.some_ne_none _ | exact hA) (by omega))) hS ?_
          refine D.two 7 11 (by kernel_rfl) rfl rfl ?_ ?_
          · refine L.va rfl (X.load rfl sc_3 (Ld.num hrw12 (j := a) (by omega))) ?_
            refine L.nil ?_
            refine ⟨fun _ => hS, ?_⟩
            refine D.one 11 (by kernel_rfl) rfl ?_
            refine L.va rfl (X.load rfl sc_3 (Ld.num hrw12 (j := j) (by omega))) ?_
            refine L.nil ?_
            refine ⟨fun _ => hS, ?_⟩
            refine D.va 12 rfl (by kernel_rfl) (fun _ _ _ h => h) rfl (fun w' hw => (by first | exact X.index1n rfl rfl Try.underlying23 sz_3 (by first | exact Option.some_ne_none _ | exact hA) (by omega) | exact X.index1 rfl rfl Try.underlying23 sz_3 (by first | exact Option.some_ne_none _ | exact hA) (by omega))) hS ?_
            refine D.one 13 (by kernel_rfl) rfl ?_
            refine L.storeON rfl rfl (by conv => lhs; whnf) sz_3 (hoX) (by omega) ?_
            intro w12 hoX hg2 hb2 hs2
            have hS1 := trivial
            refine L.nil ?_
            refine ⟨fun _ => hS1, ?_⟩
            replace hG := grb_trans hG hg2
            refine D.va 14 rfl (by kernel_rfl) (fun _ _ _ h => h) rfl (fun w' hw => (by first | exact X.index1n rfl rfl Try.underlying23 sz_3 (by first | exact Option.some_ne_none _ | exact hA) (by omega) | exact X.index1 rfl rfl Try.underlying23 sz_3 (by first | exact Option.some_ne_none _ | exact hA) (by omega))) hS1 ?_
            refine D.one 15 (by kernel_rfl) rfl ?_
            refine L.storeON rfl rfl (by conv => lhs; whnf) sz_3 (hoX) (by omega) ?_
            intro w12 hoX hg2 hb2 hs2
            have hS2 := trivial
            refine L.nil ?_
            refine ⟨fun _ => hS2, ?_⟩
            replace hG := grb_trans hG hg2
            refine D.done (by kernel_rfl) ?_
            refine J.seq ?_
            refine J.region ?_
            refine L.va rfl (X.move (by conv => lhs; whnf)) ?_
            refine L.va rfl (X.assign (by conv => lhs; whnf)) ?_
            refine L.va rfl (X.assign (by conv => lhs; whnf)) ?_
            refine L.nil ?_
            -- ret
            refine J.ret ?_
            refine thn_ret <| ?_
            refine fin2 ?_
            exact ⟨swp m j a, j, true, rfl, ⟨hoX, grb_trans hG9 hG, .step M.p ⟨by omega, by omega⟩ ⟨by omega, by omega⟩ (by omega)⟩, by omega, by omega, hd.1, hd.2⟩
          · refine L.va rfl (X.load rfl sc_3 (Ld.num hrw12 (j := j) (by omega))) ?_
            refine L.nil ?_
            refine ⟨fun _ => hS, ?_⟩
            refine D.one 7 (by kernel_rfl) rfl ?_
            refine L.va rfl (X.load rfl sc_3 (Ld.num hrw12 (j := a) (by omega))) ?_
            refine L.nil ?_
            refine ⟨fun _ => hS, ?_⟩
            refine D.va 12 rfl (by kernel_rfl) (fun _ _ _ h => h) rfl (fun w' hw => (by first | exact X.index1n rfl rfl Try.underlying23 sz_3 (by first | exact Option.some_ne_none _ | exact hA) (by omega) | exact X.index1 rfl rfl Try.underlying23 sz_3 (by first | exact Option.some_ne_none _ | exact hA) (by omega))) hS ?_
            refine D.one 13 (by kernel_rfl) rfl ?_
            refine L.storeON rfl rfl (by conv => lhs; whnf) sz_3 (hoX) (by omega) ?_
            intro w12 hoX hg2 hb2 hs2
            have hS1 := trivial
            refine L.nil ?_
            refine ⟨fun _ => hS1, ?_⟩
            replace hG := grb_trans hG hg2
            refine D.va 14 rfl (by kernel_rfl) (fun _ _ _ h => h) rfl (fun w' hw => (by first | exact X.index1n rfl rfl Try.underlying23 sz_3 (by first | exact Option.some_ne_none _ | exact hA) (by omega) | exact X.index1 rfl rfl Try.underlying23 sz_3 (by first | exact Option.some_ne_none _ | exact hA) (by omega))) hS1 ?_
            refine D.one 15 (by kernel_rfl) rfl ?_
            refine L.storeON rfl rfl (by conv => lhs; whnf) sz_3 (hoX) (by omega) ?_
            intro w12 hoX hg2 hb2 hs2
            have hS2 := trivial
            refine L.nil ?_
            refine ⟨fun _ => hS2, ?_⟩
            replace hG := grb_trans hG hg2
            refine D.done (by kernel_rfl) ?_
            refine J.seq ?_
            refine J.region ?_
            refine L.va rfl (X.move (by conv => lhs; whnf)) ?_
            refine L.va rfl (X.assign (by conv => lhs; whnf)) ?_
            refine L.va rfl (X.assign (by conv => lhs; whnf)) ?_
            refine L.nil ?_
            -- ret
            refine J.ret ?_
            refine thn_ret <| ?_
            refine fin2 ?_
            exact ⟨swp m j a, j, true, rfl, ⟨hoX, grb_trans hG9 hG, .step M.p ⟨by omega, by omega⟩ ⟨by omega, by omega⟩ (by omega)⟩, by omega, by omega, hd.1, hd.2⟩
        · have hi' := hi (by omega)
          have hj' := hj (by omega)
          have hne : i ≠ j := fun e => by subst e; omega
          obtain ⟨j, rfl⟩ : ∃ j', j = j' + 1 := ⟨j - 1, by omega⟩
          have ej : ((j + 1 : Nat) : Int) - 1 = (j : Int) := by omega
          refine J.skip ?_
          refine J.seq ?_
          -- draw
          refine J.draw (ℓ := 1000000) (S := (fun _ => True)) mixed (fun w12d hSE hS_h => ?_)
          have hS : ((fun _ => True)) w12d := trivial
          have hrw12 := (Reads.of_own HO).ext hSE
          have hoX := HO.ext hSE
          have hG : w9.grownBy w12d (Value.ownBlock (.slice A n c)) := grown_ext hSE
          refine D.va 0 rfl (by kernel_rfl) (fun _ _ _ h => h) rfl (fun w' hw => X.move (by conv => lhs; whnf)) hS ?_
          refine D.va 1 rfl (by kernel_rfl) (fun _ _ _ h => h) rfl (fun w' hw => X.move (by conv => lhs; whnf)) hS ?_
          refine D.va 2 rfl (by kernel_rfl) (fun _ _ _ h => h) rfl (fun w' hw => X.move (by conv => lhs; whnf)) hS ?_
          refine D.va 3 rfl (by kernel_rfl) (fun _ _ _ h => h) rfl (fun w' hw => X.move (by conv => lhs; whnf)) hS ?_
          refine D.va 4 rfl (by kernel_rfl) (fun _ _ _ h => h) rfl (fun w' hw => X.move (by conv => lhs; whnf)) hS ?_
          refine D.va 5 rfl (by kernel_rfl) (fun _ _ _ h => h) rfl (fun w' hw => X.move (by conv => lhs; whnf)) hS ?_
          refine D.va 6 rfl (by kernel_rfl) (fun _ _ _ h => h) rfl (fun w' hw => (by first | exact X.index1n rfl rfl Try.underlying23 sz_3 (by first | exact Option.some_ne_none _ | exact hA) (by omega) | exact X.index1 rfl rfl Try.underlying23 sz_3 (by first | exact Option.some_ne_none _ | exact hA) (by omega))) hS ?_
          refine D.va 8 rfl (by kernel_rfl) (fun _ _ _ h => h) rfl (fun w' hw => X.move (by conv => lhs; whnf)) hS ?_
          refine D.va 9 rfl (by kernel_rfl) (fun _ _ _ h => h) rfl (fun w' hw => X.move (by conv => lhs; whnf)) hS ?_
          refine D.va 10 rfl (by kernel_rfl) (fun _ _ _ h => h) rfl (fun w' hw => (by first | exact X.index1n rfl rfl Try.underlying23 sz_3 (by first | exact Option.some_ne_none _ | exact hA) (by omega) | exact X.index1 rfl rfl Try.underlying23 sz_3 (by first | exact Option.some_ne_none _ | exact hA) (by omega))) hS ?_
          refine D.two 7 11 (by kernel_rfl) rfl rfl ?_ ?_
          · refine L.va rfl (X.load rfl sc_3 (Ld.num hrw12 (j := j + 1) (by omega))) ?_
            refine L.nil ?_
            refine ⟨fun _ => hS, ?_⟩
            refine D.one 11 (by kernel_rfl) rfl ?_
            refine L.va rfl (X.load rfl sc_3 (Ld.num hrw12 (j := i) (by omega))) ?_
            refine L.nil ?_
            refine ⟨fun _ => hS, ?_⟩
            refine D.va 12 rfl (by kernel_rfl) (fun _ _ _ h => h) rfl (fun w' hw => (by first | exact X.index1n rfl rfl Try.underlying23 sz_3 (by first | exact Option.some_ne_none _ | exact hA) (by omega) | exact X.index1 rfl rfl Try.underlying23 sz_3 (by first | exact Option.some_ne_none _ | exact hA) (by omega))) hS ?_
            refine D.one 13 (by kernel_rfl) rfl ?_
            refine L.storeON rfl rfl (by conv => lhs; whnf) sz_3 (hoX) (by omega) ?_
            intro w12 hoX hg2 hb2 hs2
            have hS1 := trivial
            refine L.nil ?_
            refine ⟨fun _ => hS1, ?_⟩
            replace hG := grb_trans hG hg2
            refine D.va 14 rfl (by kernel_rfl) (fun _ _ _ h => h) rfl (fun w' hw => (by first | exact X.index1n rfl rfl Try.underlying23 sz_3 (by first | exact Option.some_ne_none _ | exact hA) (by omega) | exact X.index1 rfl rfl Try.underlying23 sz_3 (by first | exact Option.some_ne_none _ | exact hA) (by omega))) hS1 ?_
            refine D.one 15 (by kernel_rfl) rfl ?_
            refine L.storeON rfl rfl (by conv => lhs; whnf) sz_3 (hoX) (by omega) ?_
            intro w12 hoX hg2 hb2 hs2
            have hS2 := trivial
            refine L.nil ?_
            refine ⟨fun _ => hS2, ?_⟩
            replace hG := grb_trans hG hg2
            refine D.done (by kernel_rfl) ?_
            refine J.seq ?_
            refine J.region ?_
            refine L.va rfl (X.move (by conv => lhs; whnf)) ?_
            refine L.va rfl (X.add rfl rfl (by omega)) ?_
            refine L.va rfl (X.assign (by conv => lhs; whnf)) ?_
            refine L.nil ?_
            refine J.seq ?_
            refine J.region ?_
            refine L.va rfl (X.move (by conv => lhs; whnf)) ?_
            refine L.va rfl (X.sub rfl rfl (by omega)) ?_
            refine L.va rfl (X.assign (by conv => lhs; whnf)) ?_
            refine L.nil ?_
            refine J.seq ?_
            refine J.block ?_
            have M2 : SwI w w12 A n c N a b l (swp m i (j + 1)) := ⟨hoX, grb_trans hG9 hG, .step M.p ⟨by omega, by omega⟩ ⟨by omega, by omega⟩ (by omega)⟩
            have HP2 := HP.swap (by omega) (by omega) (by omega) (by omega)
            -- loop
            rw [ej]
            refine J.loop (X := Nat × Nat × List Int) [10, 11, 99, 100, 101, 102, 103, 104, 105, 106, 107, 108, 109, 110, 111, 112, 113, 114, 115, 116, 117, 118, 119, 120, 121, 122, 123, 124, 125, 126, 127, 128, 129, 130, 131, 132, 133, 134, 135, 136, 137, 138, 139, 140, 141, 142, 143, 144, 145, 146, 147, 148, 149, 150, 151, 152] (fun (i, j, m) => [(10, .int .i64 (i : Int)), (11, .int .i64 (j : Int))]) (fun (i, j, m) w' => SwI w w' A n c N a b l m ∧ Pt (· < ·) (fun x y => y ≤ x) m a b i j) (fun (i, j, _) => j + 1 - i) ((i + 1, j, swp m i (j + 1))) (At2 (by first | rfl | exact at_int rfl (by omega) | exact at_slice rfl (by omega) | exact at_int rfl (by simp)) (by first | rfl | exact at_int rfl (by omega) | exact at_slice rfl (by omega) | exact at_int rfl (by simp))) ?_ ?_
            · exact ⟨M2, HP2⟩
            · rintro ⟨i, j, m⟩ g w13 ⟨M, HP⟩
              have hml : m.length = n := by rw [M.p.len, hl]
              have HO := M.o
              obtain ⟨io, hio⟩ : ∃ io, io = i := ⟨_, rfl⟩
              refine J.block ?_
              -- until
              refine J.cut (X := Nat) [10, 99, 100, 101, 102, 103, 104, 105, 106, 107, 108, 109, 110, 111, 112, 113, 114] (fun i => [(10, .int .i64 (i : Int))]) (fun i w' => Pt (· < ·) (fun x y => y ≤ x) m a b i j ∧ (i ≤ j → ¬ m.getD i 0 < m.getD a 0) ∧ io ≤ i ∧ Ext w13 w') ?_ ?_
              · refine J.block ?_
                -- loop
                refine J.loop (X := Nat) [10, 99, 100, 101, 102, 103, 104, 105, 106, 107, 108, 109, 110, 111, 112, 113, 114] (fun i => [(10, .int .i64 (i : Int))]) (fun i w' => Pt (· < ·) (fun x y => y ≤ x) m a b i j ∧ io ≤ i ∧ Ext w13 w') (fun i => j + 1 - i) (i) (At1 (by first | rfl | exact at_int rfl (by omega) | exact at_slice rfl (by omega) | exact at_int rfl (by simp))) ?_ ?_
                · exact ⟨HP, by omega, Ext.refl _⟩
                · rintro i g w14 ⟨HP, hbd, he⟩
                  have h1 := HP.ai
                  have h2 := HP.ij
                  have h3 := HP.jb
                  have hr := Reads.of_own (HO.ext he)
                  have hA := hr.some_ (by omega)
                  refine J.seq ?_
                  refine J.seq ?_
                  -- draw
                  refine J.quiet mixed (by kernel_rfl) ?_
                  refine Qt.va rfl (fun w' hw => X.move (by conv => lhs; whnf)) ?_
                  refine Qt.va rfl (fun w' hw => X.move (by conv => lhs; whnf)) ?_
                  refine Qt.va rfl (fun w' hw => X.leq rfl rfl) ?_
                  refine Qt.va rfl (fun w' hw => X.move (by conv => lhs; whnf)) ?_
                  -- case t102
                  refine Qt.caseDec (k := 102) rfl (fun hij => ?_) (fun hij => ?_)
                  · refine Qt.va rfl (fun w' hw => X.move (by conv => lhs; whnf)) ?_
                    refine Qt.va rfl (fun w' hw => X.move (by conv => lhs; whnf)) ?_
                    refine Qt.va rfl (fun w' hw => (by first | exact X.index1n rfl rfl Try.underlying23 sz_3 (by first | exact Option.some_ne_none _ | exact hr.some_ (by omega) | exact hA) (by omega) | exact X.index1 rfl rfl Try.underlying23 sz_3 (by first | exact Option.some_ne_none _ | exact hr.some_ (by omega) | exact hA) (by omega))) ?_
                    refine Qt.va rfl (fun w' hw => X.load rfl sc_3 (by first | exact Ld.num (hr.ext hw) (by omega) | exact hA)) ?_
                    refine Qt.va rfl (fun w' hw => X.move (by conv => lhs; whnf)) ?_
                    refine Qt.va rfl (fun w' hw => X.move (by conv => lhs; whnf)) ?_
                    refine Qt.va rfl (fun w' hw => (by first | exact X.index1n rfl rfl Try.underlying23 sz_3 (by first | exact Option.some_ne_none _ | exact hr.some_ (by omega) | exact hA) (by omega) | exact X.index1 rfl rfl Try.underlying23 sz_3 (by first | exact Option.some_ne_none _ | exact hr.some_ (by omega) | exact hA) (by omega))) ?_
                    refine Qt.va rfl (fun w' hw => X.load rfl sc_3 (by first | exact Ld.num (hr.ext hw) (by omega) | exact hA)) ?_
                    -- callfn cmp.Less[int]
                    refine Qt.call rfl en_293 rfl (fun w' hw => calls_same hw (clessI (m.getD i 0) (m.getD a 0) w')) ?_
                    refine Qt.va rfl (fun w' hw => X.pickT rfl (by conv => lhs; whnf)) ?_
                    refine Qt.nil (fun w15 hq => ?_)
                    -- cond
                    by_cases hd : m.getD i 0 < m.getD a 0
                    · rw [show decide (m.getD i 0 < m.getD a 0) = true from decide_eq_true (by omega)]
                      refine J.iteT rfl ?_
                      refine J.skip ?_
                      refine J.block ?_
                      refine J.region ?_
                      refine L.va rfl (X.move (by conv => lhs; whnf)) ?_
                      refine L.va rfl (X.add rfl rfl (by omega)) ?_
                      refine L.va rfl (X.assign (by conv => lhs; whnf)) ?_
                      refine L.nil ?_
                      -- loopend
                      refine ⟨i + 1, At1 (by first | rfl | exact at_int rfl (by omega) | exact at_slice rfl (by omega) | exact at_int rfl (by simp)), (by (iterate 18 refine Agr.lk rfl ?_); exact Agr.lk rfl (Agr.hav rfl Agr.rfl')), ?_⟩
                      exact ⟨⟨⟨by omega, by omega, h3, fun k k1 k2 => by
                        rcases Nat.lt_or_ge k i with h | h
                        · exact HP.le k k1 h
                        · obtain rfl : k = i := by omega
                          exact hd, HP.ri⟩, by omega, he.trans hq⟩, by omega⟩
                    · rw [show decide (m.getD i 0 < m.getD a 0) = false from decide_eq_false (by omega)]
                      refine J.iteF rfl ?_
                      refine J.exit ?_
                      -- cutend
                      refine ⟨i, At1 (by first | rfl | exact at_int rfl (by omega) | exact at_slice rfl (by omega) | exact at_int rfl (by simp)), (by (iterate 15 refine Agr.lk rfl ?_); refine Agr.lk rfl ?_; refine Agr.hav rfl ?_; exact Agr.rfl'), ?_⟩
                      exact ⟨HP, (fun _ => hd), hbd, he.trans hq⟩
                  · skip
                    refine Qt.no rfl ?_
                    refine Qt.no rfl ?_
                    refine Qt.no rfl ?_
                    refine Qt.no rfl ?_
                    refine Qt.no rfl ?_
                    refine Qt.no rfl ?_
                    refine Qt.no rfl ?_
                    refine Qt.no rfl ?_
                    refine Qt.no rfl ?_
                    refine Qt.va rfl (fun w' hw => X.pickF rfl (by conv => lhs; whnf)) ?_
                    refine Qt.nil (fun w15 hq => ?_)
                    -- cond
                    refine J.iteF rfl ?_
                    refine J.exit ?_
                    -- cutend
                    refine ⟨i, At1 (by first | rfl | exact at_int rfl (by omega) | exact at_slice rfl (by omega) | exact at_int rfl (by simp)), (by (iterate 15 refine Agr.lk rfl ?_); refine Agr.lk rfl ?_; refine Agr.hav rfl ?_; exact Agr.rfl'), ?_⟩
                    exact ⟨HP, (fun h => absurd h (by omega)), hbd, he.trans hq⟩
              · rintro i g w16 ⟨HP, hi, hio2, he16⟩
                replace HO := HO.ext he16
                have hG16 : w.grownBy w16 (Value.ownBlock (.slice A n c)) := grb_trans M.g (grown_ext he16)
                obtain ⟨jo, hjo⟩ : ∃ jo, jo = j := ⟨_, rfl⟩
                rw [← hjo] at hi
                -- until
                refine J.cut (X := Nat) [11, 115, 116, 117, 118, 119, 120, 121, 122, 123, 124, 125, 126, 127, 128, 129, 130, 131] (fun j => [(11, .int .i64 (j : Int))]) (fun j w' => Pt (· < ·) (fun x y => y ≤ x) m a b i j ∧ (i ≤ j → ¬ m.getD a 0 ≤ m.getD j 0) ∧ j ≤ jo ∧ Ext w16 w') ?_ ?_
                · refine J.block ?_
                  -- loop
                  refine J.loop (X := Nat) [11, 115, 116, 117, 118, 119, 120, 121, 122, 123, 124, 125, 126, 127, 128, 129, 130, 131] (fun j => [(11, .int .i64 (j : Int))]) (fun j w' => Pt (· < ·) (fun x y => y ≤ x) m a b i j ∧ j ≤ jo ∧ Ext w16 w') (fun j => j) (j) (At1 (by first | rfl | exact at_int rfl (by omega) | exact at_slice rfl (by omega) | exact at_int rfl (by simp))) ?_ ?_
                  · exact ⟨HP, by omega, Ext.refl _⟩
                  · rintro j g w17 ⟨HP, hbd, he⟩
                    have h1 := HP.ai
                    have h2 := HP.ij
                    have h3 := HP.jb
                    have hr := Reads.of_own (HO.ext he)
                    have hA := hr.some_ (by omega)
                    refine J.seq ?_
                    refine J.seq ?_
                    -- draw
                    refine J.quiet mixed (by kernel_rfl) ?_
                    refine Qt.va rfl (fun w' hw => X.move (by conv => lhs; whnf)) ?_
                    refine Qt.va rfl (fun w' hw => X.move (by conv => lhs; whnf)) ?_
                    refine Qt.va rfl (fun w' hw => X.leq rfl rfl) ?_
                    refine Qt.va rfl (fun w' hw => X.move (by conv => lhs; whnf)) ?_
                    -- case t118
                    refine Qt.caseDec (k := 118) rfl (fun hij => ?_) (fun hij => ?_)
                    · refine Qt.va rfl (fun w' hw => X.move (by conv => lhs; whnf)) ?_
                      refine Qt.va rfl (fun w' hw => X.move (by conv => lhs; whnf)) ?_
                      refine Qt.va rfl (fun w' hw => (by first | exact X.index1n rfl rfl Try.underlying23 sz_3 (by first | exact Option.some_ne_none _ | exact hr.some_ (by omega) | exact hA) (by omega) | exact X.index1 rfl rfl Try.underlying23 sz_3 (by first | exact Option.some_ne_none _ | exact hr.some_ (by omega) | exact hA) (by omega))) ?_
                      refine Qt.va rfl (fun w' hw => X.load rfl sc_3 (by first | exact Ld.num (hr.ext hw) (by omega) | exact hA)) ?_
                      refine Qt.va rfl (fun w' hw => X.move (by conv => lhs; whnf)) ?_
                      refine Qt.va rfl (fun w' hw => X.move (by conv => lhs; whnf)) ?_
                      refine Qt.va rfl (fun w' hw => (by first | exact X.index1n rfl rfl Try.underlying23 sz_3 (by first | exact Option.some_ne_none _ | exact hr.some_ (by omega) | exact hA) (by omega) | exact X.index1 rfl rfl Try.underlying23 sz_3 (by first | exact Option.some_ne_none _ | exact hr.some_ (by omega) | exact hA) (by omega))) ?_
                      refine Qt.va rfl (fun w' hw => X.load rfl sc_3 (by first | exact Ld.num (hr.ext hw) (by omega) | exact hA)) ?_
                      -- callfn cmp.Less[int]
                      refine Qt.call rfl en_293 rfl (fun w' hw => calls_same hw (clessI (m.getD j 0) (m.getD a 0) w')) ?_
                      refine Qt.va rfl (fun w' hw => X.not rfl) ?_
                      refine Qt.va rfl (fun w' hw => X.pickT rfl (by conv => lhs; whnf)) ?_
                      refine Qt.nil (fun w18 hq => ?_)
                      -- cond
                      by_cases hd : m.getD a 0 ≤ m.getD j 0
                      · rw [show decide (m.getD j 0 < m.getD a 0) = false from decide_eq_false (by omega)]
                        refine J.iteT rfl ?_
                        refine J.skip ?_
                        refine J.block ?_
                        refine J.region ?_
                        refine L.va rfl (X.move (by conv => lhs; whnf)) ?_
                        refine L.va rfl (X.sub rfl rfl (by omega)) ?_
                        refine L.va rfl (X.assign (by conv => lhs; whnf)) ?_
                        refine L.nil ?_
                        -- loopend
                        obtain ⟨j', rfl⟩ : ∃ j', j = j' + 1 := ⟨j - 1, by omega⟩
                        refine ⟨j', At1 (by first | rfl | exact at_int rfl (by omega) | exact at_slice rfl (by omega) | exact at_int rfl (by simp)), (by (iterate 19 refine Agr.lk rfl ?_); exact Agr.lk rfl (Agr.hav rfl Agr.rfl')), ?_⟩
                        exact ⟨⟨⟨h1, by omega, by omega, HP.le, fun k k1 k2 => by
                          rcases Nat.lt_or_ge (j' + 1) k with h | h
                          · exact HP.ri k h k2
                          · obtain rfl : k = j' + 1 := by omega
                            exact hd⟩, by omega, he.trans hq⟩, by omega⟩
                      · rw [show decide (m.getD j 0 < m.getD a 0) = true from decide_eq_true (by omega)]
                        refine J.iteF rfl ?_
                        refine J.exit ?_
                        -- cutend
                        refine ⟨j, At1 (by first | rfl | exact at_int rfl (by omega) | exact at_slice rfl (by omega) | exact at_int rfl (by simp)), (by (iterate 16 refine Agr.lk rfl ?_); refine Agr.lk rfl ?_; refine Agr.hav rfl ?_; exact Agr.rfl'), ?_⟩
                        exact ⟨HP, (fun _ => hd), hbd, he.trans hq⟩
                    · skip
                      refine Qt.no rfl ?_
                      refine Qt.no rfl ?_
                      refine Qt.no rfl ?_
                      refine Qt.no rfl ?_
                      refine Qt.no rfl ?_
                      refine Qt.no rfl ?_
                      refine Qt.no rfl ?_
                      refine Qt.no rfl ?_
                      refine Qt.no rfl ?_
                      refine Qt.no rfl ?_
                      refine Qt.va rfl (fun w' hw => X.pickF rfl (by conv => lhs; whnf)) ?_
                      refine Qt.nil (fun w18 hq => ?_)
                      -- cond
                      refine J.iteF rfl ?_
                      refine J.exit ?_
                      -- cutend
                      refine ⟨j, At1 (by first | rfl | exact at_int rfl (by omega) | exact at_slice rfl (by omega) | exact at_int rfl (by simp)), (by (iterate 16 refine Agr.lk rfl ?_); refine Agr.lk rfl ?_; refine Agr.hav rfl ?_; exact Agr.rfl'), ?_⟩
                      exact ⟨HP, (fun h => absurd h (by omega)), hbd, he.trans hq⟩
                · rintro j g w19 ⟨HP, hj, hjo2, he19⟩
                  replace HO := HO.ext he19
                  have hG19 := grb_trans hG16 (grown_ext he19)
                  have h1 := HP.ai
                  have h2 := HP.ij
                  have h3 := HP.jb
                  refine J.seq ?_
                  refine J.seq ?_
                  refine J.region ?_
                  refine L.va rfl (X.move (by conv => lhs; whnf)) ?_
                  refine L.va rfl (X.move (by conv => lhs; whnf)) ?_
                  refine L.va rfl (X.gtr rfl rfl) ?_
                  refine L.nil ?_
                  -- cond
                  refine J.dec rfl (fun hgt => ?_) (fun hgt => ?_)
                  · have hd := HP.done (by omega) (by omega)
                    refine J.exit ?_
                    refine J.seq ?_
                    -- draw
                    refine J.draw (ℓ := 1000000) (S := (fun _ => True)) mixed (fun w22d hSE hS_h => ?_)
                    have hS : ((fun _ => True)) w22d := trivial
                    have hrw22 := (Reads.of_own HO).ext hSE
                    have hoX := HO.ext hSE
                    have hG : w19.grownBy w22d (Value.ownBlock (.slice A n c)) := grown_ext hSE
                    refine D.va 0 rfl (by kernel_rfl) (fun _ _ _ h => h) rfl (fun w' hw => X.move (by conv => lhs; whnf)) hS ?_
                    refine D.va 1 rfl (by kernel_rfl) (fun _ _ _ h => h) rfl (fun w' hw => X.move (by conv => lhs; whnf)) hS ?_
                    refine D.va 2 rfl (by kernel_rfl) (fun _ _ _ h => h) rfl (fun w' hw => X.move (by conv => lhs; whnf)) hS ?_
                    refine D.va 3 rfl (by kernel_rfl) (fun _ _ _ h => h) rfl (fun w' hw => X.move (by conv => lhs; whnf)) hS ?_
                    refine D.va 4 rfl (by kernel_rfl) (fun _ _ _ h => h) rfl (fun w' hw => X.move (by conv => lhs; whnf)) hS ?_
                    refine D.va 5 rfl (by kernel_rfl) (fun _ _ _ h => h) rfl (fun w' hw => X.move (by conv => lhs; whnf)) hS ?_
                    refine D.va 6 rfl (by kernel_rfl) (fun _ _ _ h => h) rfl (fun w' hw => (by first | exact X.index1n rfl rfl Try.underlying23 sz_3 (by first | exact Option.some_ne_none _ | exact hA) (by omega) | exact X.index1 rfl rfl Try.underlying23 sz_3 (by first | exact Option.some_ne_none _ | exact hA) (by omega))) hS ?_
                    refine D.va 8 rfl (by kernel_rfl) (fun _ _ _ h => h) rfl (fun w' hw => X.move (by conv => lhs; whnf)) hS ?_
                    refine D.va 9 rfl (by kernel_rfl) (fun _ _ _ h => h) rfl (fun w' hw => X.move (by conv => lhs; whnf)) hS ?_
                    refine D.va 10 rfl (by kernel_rfl) (fun _ _ _ h => h) rfl (fun w' hw => (by first | exact X.index1n rfl rfl Try.underlying23 sz_3 (by first | exact Option.some_ne_none _ | exact hA) (by omega) | exact X.index1 rfl rfl Try.underlying23 sz_3 (by first | exact Option.some_ne_none _ | exact hA) (by omega))) hS ?_
                    refine D.two 7 11 (by kernel_rfl) rfl rfl ?_ ?_
                    · refine L.va rfl (X.load rfl sc_3 (Ld.num hrw22 (j := a) (by omega))) ?_
                      refine L.nil ?_
                      refine ⟨fun _ => hS, ?_⟩
                      refine D.one 11 (by kernel_rfl) rfl ?_
                      refine L.va rfl (X.load rfl sc_3 (Ld.num hrw22 (j := j) (by omega))) ?_
                      refine L.nil ?_
                      refine ⟨fun _ => hS, ?_⟩
                      refine D.va 12 rfl (by kernel_rfl) (fun _ _ _ h => h) rfl (fun w' hw => (by first | exact X.index1n rfl rfl Try.underlying23 sz_3 (by first | exact Option.some_ne_none _ | exact hA) (by omega) | exact X.index1 rfl rfl Try.underlying23 sz_3 (by first | exact Option.some_ne_none _ | exact hA) (by omega))) hS ?_
                      refine D.one 13 (by kernel_rfl) rfl ?_
                      refine L.storeON rfl rfl (by conv => lhs; whnf) sz_3 (hoX) (by omega) ?_
                      intro w22 hoX hg2 hb2 hs2
                      have hS1 := trivial
                      refine L.nil ?_
                      refine ⟨fun _ => hS1, ?_⟩
                      replace hG := grb_trans hG hg2
                      refine D.va 14 rfl (by kernel_rfl) (fun _ _ _ h => h) rfl (fun w' hw => (by first | exact X.index1n rfl rfl Try.underlying23 sz_3 (by first | exact Option.some_ne_none _ | exact hA) (by omega) | exact X.index1 rfl rfl Try.underlying23 sz_3 (by first | exact Option.some_ne_none _ | exact hA) (by omega))) hS1 ?_
                      refine D.one 15 (by kernel_rfl) rfl ?_
                      refine L.storeON rfl rfl (by conv => lhs; whnf) sz_3 (hoX) (by omega) ?_
                      intro w22 hoX hg2 hb2 hs2
                      have hS2 := trivial
                      refine L.nil ?_
                      refine ⟨fun _ => hS2, ?_⟩
                      replace hG := grb_trans hG hg2
                      refine D.done (by kernel_rfl) ?_
                      refine J.seq ?_
                      refine J.region ?_
                      refine L.va rfl (X.move (by conv => lhs; whnf)) ?_
                      refine L.va rfl (X.assign (by conv => lhs; whnf)) ?_
                      refine L.va rfl (X.assign (by conv => lhs; whnf)) ?_
                      refine L.nil ?_
                      -- ret
                      refine J.ret ?_
                      refine fin2 ?_
                      exact ⟨swp m j a, j, false, rfl, ⟨hoX, grb_trans hG19 hG, .step M.p ⟨by omega, by omega⟩ ⟨by omega, by omega⟩ (by omega)⟩, by omega, by omega, hd.1, hd.2⟩
                    · refine L.va rfl (X.load rfl sc_3 (Ld.num hrw22 (j := j) (by omega))) ?_
                      refine L.nil ?_
                      refine ⟨fun _ => hS, ?_⟩
                      refine D.one 7 (by kernel_rfl) rfl ?_
                      refine L.va rfl (X.load rfl sc_3 (Ld.num hrw22 (j := a) (by omega))) ?_
                      refine L.nil ?_
                      refine ⟨fun _ => hS, ?_⟩
                      refine D.va 12 rfl (by kernel_rfl) (fun _ _ _ h => h) rfl (fun w' hw => (by first | exact X.index1n rfl rfl Try.underlying23 sz_3 (by first | exact Option.some_ne_none _ | exact hA) (by omega) | exact X.index1 rfl rfl Try.underlying23 sz_3 (by first | exact Option.some_ne_none _ | exact hA) (by omega))) hS ?_
                      refine D.one 13 (by kernel_rfl) rfl ?_
                      refine L.storeON rfl rfl (by conv => lhs; whnf) sz_3 (hoX) (by omega) ?_
                      intro w22 hoX hg2 hb2 hs2
                      have hS1 := trivial
                      refine L.nil ?_
                      refine ⟨fun _ => hS1, ?_⟩
                      replace hG := grb_trans hG hg2
                      refine D.va 14 rfl (by kernel_rfl) (fun _ _ _ h => h) rfl (fun w' hw => (by first | exact X.index1n rfl rfl Try.underlying23 sz_3 (by first | exact Option.some_ne_none _ | exact hA) (by omega) | exact X.index1 rfl rfl Try.underlying23 sz_3 (by first | exact Option.some_ne_none _ | exact hA) (by omega))) hS1 ?_
                      refine D.one 15 (by kernel_rfl) rfl ?_
                      refine L.storeON rfl rfl (by conv => lhs; whnf) sz_3 (hoX) (by omega) ?_
                      intro w22 hoX hg2 hb2 hs2
                      have hS2 := trivial
                      refine L.nil ?_
                      refine ⟨fun _ => hS2, ?_⟩
                      replace hG := grb_trans hG hg2
                      refine D.done (by kernel_rfl) ?_
                      refine J.seq ?_
                      refine J.region ?_
                      refine L.va rfl (X.move (by conv => lhs; whnf)) ?_
                      refine L.va rfl (X.assign (by conv => lhs; whnf)) ?_
                      refine L.va rfl (X.assign (by conv => lhs; whnf)) ?_
                      refine L.nil ?_
                      -- ret
                      refine J.ret ?_
                      refine fin2 ?_
                      exact ⟨swp m j a, j, false, rfl, ⟨hoX, grb_trans hG19 hG, .step M.p ⟨by omega, by omega⟩ ⟨by omega, by omega⟩ (by omega)⟩, by omega, by omega, hd.1, hd.2⟩
                  · have hi' := hi (by omega)
                    have hj' := hj (by omega)
                    have hne : i ≠ j := fun e => by subst e; omega
                    obtain ⟨j, rfl⟩ : ∃ j', j = j' + 1 := ⟨j - 1, by omega⟩
                    refine J.skip ?_
                    refine J.seq ?_
                    -- draw
                    refine J.draw (ℓ := 1000000) (S := (fun _ => True)) mixed (fun w22d hSE hS_h => ?_)
                    have hS : ((fun _ => True)) w22d := trivial
                    have hrw22 := (Reads.of_own HO).ext hSE
                    have hoX := HO.ext hSE
                    have hG : w19.grownBy w22d (Value.ownBlock (.slice A n c)) := grown_ext hSE
                    refine D.va 0 rfl (by kernel_rfl) (fun _ _ _ h => h) rfl (fun w' hw => X.move (by conv => lhs; whnf)) hS ?_
                    refine D.va 1 rfl (by kernel_rfl) (fun _ _ _ h => h) rfl (fun w' hw => X.move (by conv => lhs; whnf)) hS ?_
                    refine D.va 2 rfl (by kernel_rfl) (fun _ _ _ h => h) rfl (fun w' hw => X.move (by conv => lhs; whnf)) hS ?_
                    refine D.va 3 rfl (by kernel_rfl) (fun _ _ _ h => h) rfl (fun w' hw => X.move (by conv => lhs; whnf)) hS ?_
                    refine D.va 4 rfl (by kernel_rfl) (fun _ _ _ h => h) rfl (fun w' hw => X.move (by conv => lhs; whnf)) hS ?_
                    refine D.va 5 rfl (by kernel_rfl) (fun _ _ _ h => h) rfl (fun w' hw => X.move (by conv => lhs; whnf)) hS ?_
                    refine D.va 6 rfl (by kernel_rfl) (fun _ _ _ h => h) rfl (fun w' hw => (by first | exact X.index1n rfl rfl Try.underlying23 sz_3 (by first | exact Option.some_ne_none _ | exact hA) (by omega) | exact X.index1 rfl rfl Try.underlying23 sz_3 (by first | exact Option.some_ne_none _ | exact hA) (by omega))) hS ?_
                    refine D.va 8 rfl (by kernel_rfl) (fun _ _ _ h => h) rfl (fun w' hw => X.move (by conv => lhs; whnf)) hS ?_
                    refine D.va 9 rfl (by kernel_rfl) (fun _ _ _ h => h) rfl (fun w' hw => X.move (by conv => lhs; whnf)) hS ?_
                    refine D.va 10 rfl (by kernel_rfl) (fun _ _ _ h => h) rfl (fun w' hw => (by first | exact X.index1n rfl rfl Try.underlying23 sz_3 (by first | exact Option.some_ne_none _ | exact hA) (by omega) | exact X.index1 rfl rfl Try.underlying23 sz_3 (by first | exact Option.some_ne_none _ | exact hA) (by omega))) hS ?_
                    refine D.two 7 11 (by kernel_rfl) rfl rfl ?_ ?_
                    · refine L.va rfl (X.load rfl sc_3 (Ld.num hrw22 (j := j + 1) (by omega))) ?_
                      refine L.nil ?_
                      refine ⟨fun _ => hS, ?_⟩
                      refine D.one 11 (by kernel_rfl) rfl ?_
                      refine L.va rfl (X.load rfl sc_3 (Ld.num hrw22 (j := i) (by omega))) ?_
                      refine L.nil ?_
                      refine ⟨fun _ => hS, ?_⟩
                      refine D.va 12 rfl (by kernel_rfl) (fun _ _ _ h => h) rfl (fun w' hw => (by first | exact X.index1n rfl rfl Try.underlying23 sz_3 (by first | exact Option.some_ne_none _ | exact hA) (by omega) | exact X.index1 rfl rfl Try.underlying23 sz_3 (by first | exact Option.some_ne_none _ | exact hA) (by omega))) hS ?_
                      refine D.one 13 (by kernel_rfl) rfl ?_
                      refine L.storeON rfl rfl (by conv => lhs; whnf) sz_3 (hoX) (by omega) ?_
                      intro w22 hoX hg2 hb2 hs2
                      have hS1 := trivial
                      refine L.nil ?_
                      refine ⟨fun _ => hS1, ?_⟩
                      replace hG := grb_trans hG hg2
                      refine D.va 14 rfl (by kernel_rfl) (fun _ _ _ h => h) rfl (fun w' hw => (by first | exact X.index1n rfl rfl Try.underlying23 sz_3 (by first | exact Option.some_ne_none _ | exact hA) (by omega) | exact X.index1 rfl rfl Try.underlying23 sz_3 (by first | exact Option.some_ne_none _ | exact hA) (by omega))) hS1 ?_
                      refine D.one 15 (by kernel_rfl) rfl ?_
                      refine L.storeON rfl rfl (by conv => lhs; whnf) sz_3 (hoX) (by omega) ?_
                      intro w22 hoX hg2 hb2 hs2
                      have hS2 := trivial
                      refine L.nil ?_
                      refine ⟨fun _ => hS2, ?_⟩
                      replace hG := grb_trans hG hg2
                      refine D.done (by kernel_rfl) ?_
                      refine J.seq ?_
                      refine J.region ?_
                      refine L.va rfl (X.move (by conv => lhs; whnf)) ?_
                      refine L.va rfl (X.add rfl rfl (by omega)) ?_
                      refine L.va rfl (X.assign (by conv => lhs; whnf)) ?_
                      refine L.nil ?_
                      refine J.region ?_
                      refine L.va rfl (X.move (by conv => lhs; whnf)) ?_
                      refine L.va rfl (X.sub rfl rfl (by omega)) ?_
                      refine L.va rfl (X.assign (by conv => lhs; whnf)) ?_
                      refine L.nil ?_
                      -- loopend
                      refine ⟨(i + 1, j, swp m i (j + 1)), At2 (by first | rfl | exact at_int rfl (by omega) | exact at_slice rfl (by omega) | exact at_int rfl (by simp)) (by first | rfl | exact at_int rfl (by omega) | exact at_slice rfl (by omega) | exact at_int rfl (by simp)), (by (iterate 23 refine Agr.lk rfl ?_); refine Agr.lk rfl ?_; refine Agr.hav rfl ?_; refine Agr.lk rfl ?_; refine Agr.hav rfl ?_; exact Agr.lk rfl (Agr.hav rfl Agr.rfl')), ?_⟩
                      exact ⟨⟨⟨hoX, grb_trans hG19 hG, .step M.p ⟨by omega, by omega⟩ ⟨by omega, by omega⟩ (by omega)⟩, HP.swap (by omega) (by omega) (by omega) (by omega)⟩, by show j + 1 - (i + 1) < _ + 1 - _; omega⟩
                    · refine L.va rfl (X.load rfl sc_3 (Ld.num hrw22 (j := i) (by omega))) ?_
                      refine L.nil ?_
                      refine ⟨fun _ => hS, ?_⟩
                      refine D.one 7 (by kernel_rfl) rfl ?_
                      refine L.va rfl (X.load rfl sc_3 (Ld.num hrw22 (j := j + 1) (by omega))) ?_
                      refine L.nil ?_
                      refine ⟨fun _ => hS, ?_⟩
                      refine D.va 12 rfl (by kernel_rfl) (fun _ _ _ h => h) rfl (fun w' hw => (by first | exact X.index1n rfl rfl Try.underlying23 sz_3 (by first | exact Option.some_ne_none _ | exact hA) (by omega) | exact X.index1 rfl rfl Try.underlying23 sz_3 (by first | exact Option.some_ne_none _ | exact hA) (by omega))) hS ?_
                      refine D.one 13 (by kernel_rfl) rfl ?_
                      refine L.storeON rfl rfl (by conv => lhs; whnf) sz_3 (hoX) (by omega) ?_
                      intro w22 hoX hg2 hb2 hs2
                      have hS1 := trivial
                      refine L.nil ?_
                      refine ⟨fun _ => hS1, ?_⟩
                      replace hG := grb_trans hG hg2
                      refine D.va 14 rfl (by kernel_rfl) (fun _ _ _ h => h) rfl (fun w' hw => (by first | exact X.index1n rfl rfl Try.underlying23 sz_3 (by first | exact Option.some_ne_none _ | exact hA) (by omega) | exact X.index1 rfl rfl Try.underlying23 sz_3 (by first | exact Option.some_ne_none _ | exact hA) (by omega))) hS1 ?_
                      refine D.one 15 (by kernel_rfl) rfl ?_
                      refine L.storeON rfl rfl (by conv => lhs; whnf) sz_3 (hoX) (by omega) ?_
                      intro w22 hoX hg2 hb2 hs2
                      have hS2 := trivial
                      refine L.nil ?_
                      refine ⟨fun _ => hS2, ?_⟩
                      replace hG := grb_trans hG hg2
                      refine D.done (by kernel_rfl) ?_
                      refine J.seq ?_
                      refine J.region ?_
                      refine L.va rfl (X.move (by conv => lhs; whnf)) ?_
                      refine L.va rfl (X.add rfl rfl (by omega)) ?_
                      refine L.va rfl (X.assign (by conv => lhs; whnf)) ?_
                      refine L.nil ?_
                      refine J.region ?_
                      refine L.va rfl (X.move (by conv => lhs; whnf)) ?_
                      refine L.va rfl (X.sub rfl rfl (by omega)) ?_
                      refine L.va rfl (X.assign (by conv => lhs; whnf)) ?_
                      refine L.nil ?_
                      -- loopend
                      refine ⟨(i + 1, j, swp m i (j + 1)), At2 (by first | rfl | exact at_int rfl (by omega) | exact at_slice rfl (by omega) | exact at_int rfl (by simp)) (by first | rfl | exact at_int rfl (by omega) | exact at_slice rfl (by omega) | exact at_int rfl (by simp)), (by (iterate 23 refine Agr.lk rfl ?_); refine Agr.lk rfl ?_; refine Agr.hav rfl ?_; refine Agr.lk rfl ?_; refine Agr.hav rfl ?_; exact Agr.lk rfl (Agr.hav rfl Agr.rfl')), ?_⟩
                      exact ⟨⟨⟨hoX, grb_trans hG19 hG, .step M.p ⟨by omega, by omega⟩ ⟨by omega, by omega⟩ (by omega)⟩, HP.swap (by omega) (by omega) (by omega) (by omega)⟩, by show j + 1 - (i + 1) < _ + 1 - _; omega⟩
          · refine L.va rfl (X.load rfl sc_3 (Ld.num hrw12 (j := i) (by omega))) ?_
            refine L.nil ?_
            refine ⟨fun _ => hS, ?_⟩
            refine D.one 7 (by kernel_rfl) rfl ?_
            refine L.va rfl (X.load rfl sc_3 (Ld.num hrw12 (j := j + 1) (by omega))) ?_
            refine L.nil ?_
            refine ⟨fun _ => hS, ?_⟩
            refine D.va 12 rfl (by kernel_rfl) (fun _ _ _ h => h) rfl (fun w' hw => (by first | exact X.index1n rfl rfl Try.underlying23 sz_3 (by first | exact Option.some_ne_none _ | exact hA) (by omega) | exact X.index1 rfl rfl Try.underlying23 sz_3 (by first | exact Option.some_ne_none _ | exact hA) (by omega))) hS ?_
            refine D.one 13 (by kernel_rfl) rfl ?_
            refine L.storeON rfl rfl (by conv => lhs; whnf) sz_3 (hoX) (by omega) ?_
            intro w12 hoX hg2 hb2 hs2
            have hS1 := trivial
            refine L.nil ?_
            refine ⟨fun _ => hS1, ?_⟩
            replace hG := grb_trans hG hg2
            refine D.va 14 rfl (by kernel_rfl) (fun _ _ _ h => h) rfl (fun w' hw => (by first | exact X.index1n rfl rfl Try.underlying23 sz_3 (by first | exact Option.some_ne_none _ | exact hA) (by omega) | exact X.index1 rfl rfl Try.underlying23 sz_3 (by first | exact Option.some_ne_none _ | exact hA) (by omega))) hS1 ?_
            refine D.one 15 (by kernel_rfl) rfl ?_
            refine L.storeON rfl rfl (by conv => lhs; whnf) sz_3 (hoX) (by omega) ?_
            intro w12 hoX hg2 hb2 hs2
            have hS2 := trivial
            refine L.nil ?_
            refine ⟨fun _ => hS2, ?_⟩
            replace hG := grb_trans hG hg2
            refine D.done (by kernel_rfl) ?_
            refine J.seq ?_
            refine J.region ?_
            refine L.va rfl (X.move (by conv => lhs; whnf)) ?_
            refine L.va rfl (X.add rfl rfl (by omega)) ?_
            refine L.va rfl (X.assign (by conv => lhs; whnf)) ?_
            refine L.nil ?_
            refine J.seq ?_
            refine J.region ?_
            refine L.va rfl (X.move (by conv => lhs; whnf)) ?_
            refine L.va rfl (X.sub rfl rfl (by omega)) ?_
            refine L.va rfl (X.assign (by conv => lhs; whnf)) ?_
            refine L.nil ?_
            refine J.seq ?_
            refine J.block ?_
            have M2 : SwI w w12 A n c N a b l (swp m i (j + 1)) := ⟨hoX, grb_trans hG9 hG, .step M.p ⟨by omega, by omega⟩ ⟨by omega, by omega⟩ (by omega)⟩
            have HP2 := HP.swap (by omega) (by omega) (by omega) (by omega)
            -- loop
            rw [ej]
            refine J.loop (X := Nat × Nat × List Int) [10, 11, 99, 100, 101, 102, 103, 104, 105, 106, 107, 108, 109, 110, 111, 112, 113, 114, 115, 116, 117, 118, 119, 120, 121, 122, 123, 124, 125, 126, 127, 128, 129, 130, 131, 132, 133, 134, 135, 136, 137, 138, 139, 140, 141, 142, 143, 144, 145, 146, 147, 148, 149, 150, 151, 152] (fun (i, j, m) => [(10, .int .i64 (i : Int)), (11, .int .i64 (j : Int))]) (fun (i, j, m) w' => SwI w w' A n c N a b l m ∧ Pt (· < ·) (fun x y => y ≤ x) m a b i j) (fun (i, j, _) => j + 1 - i) ((i + 1, j, swp m i (j + 1))) (At2 (by first | rfl | exact at_int rfl (by omega) | exact at_slice rfl (by omega) | exact at_int rfl (by simp)) (by first | rfl | exact at_int rfl (by omega) | exact at_slice rfl (by omega) | exact at_int rfl (by simp))) ?_ ?_
            · exact ⟨M2, HP2⟩
            · rintro ⟨i, j, m⟩ g w13 ⟨M, HP⟩
              have hml : m.length = n := by rw [M.p.len, hl]
              have HO := M.o
              obtain ⟨io, hio⟩ : ∃ io, io = i := ⟨_, rfl⟩
              refine J.block ?_
              -- until
              refine J.cut (X := Nat) [10, 99, 100, 101, 102, 103, 104, 105, 106, 107, 108, 109, 110, 111, 112, 113, 114] (fun i => [(10, .int .i64 (i : Int))]) (fun i w' => Pt (· < ·) (fun x y => y ≤ x) m a b i j ∧ (i ≤ j → ¬ m.getD i 0 < m.getD a 0) ∧ io ≤ i ∧ Ext w13 w') ?_ ?_
              · refine J.block ?_
                -- loop
                refine J.loop (X := Nat) [10, 99, 100, 101, 102, 103, 104, 105, 106, 107, 108, 109, 110, 111, 112, 113, 114] (fun i => [(10, .int .i64 (i : Int))]) (fun i w' => Pt (· < ·) (fun x y => y ≤ x) m a b i j ∧ io ≤ i ∧ Ext w13 w') (fun i => j + 1 - i) (i) (At1 (by first | rfl | exact at_int rfl (by omega) | exact at_slice rfl (by omega) | exact at_int rfl (by simp))) ?_ ?_
                · exact ⟨HP, by omega, Ext.refl _⟩
                · rintro i g w14 ⟨HP, hbd, he⟩
                  have h1 := HP.ai
                  have h2 := HP.ij
                  have h3 := HP.jb
                  have hr := Reads.of_own (HO.ext he)
                  have hA := hr.some_ (by omega)
                  refine J.seq ?_
                  refine J.seq ?_
                  -- draw
                  refine J.quiet mixed (by kernel_rfl) ?_
                  refine Qt.va rfl (fun w' hw => X.move (by conv => lhs; whnf)) ?_
                  refine Qt.va rfl (fun w' hw => X.move (by conv => lhs; whnf)) ?_
                  refine Qt.va rfl (fun w' hw => X.leq rfl rfl) ?_
                  refine Qt.va rfl (fun w' hw => X.move (by conv => lhs; whnf)) ?_
                  -- case t102
                  refine Qt.caseDec (k := 102) rfl (fun hij => ?_) (fun hij => ?_)
                  · refine Qt.va rfl (fun w' hw => X.move (by conv => lhs; whnf)) ?_
                    refine Qt.va rfl (fun w' hw => X.move (by conv => lhs; whnf)) ?_
                    refine Qt.va rfl (fun w' hw => (by first | exact X.index1n rfl rfl Try.underlying23 sz_3 (by first | exact Option.some_ne_none _ | exact hr.some_ (by omega) | exact hA) (by omega) | exact X.index1 rfl rfl Try.underlying23 sz_3 (by first | exact Option.some_ne_none _ | exact hr.some_ (by omega) | exact hA) (by omega))) ?_
                    refine Qt.va rfl (fun w' hw => X.load rfl sc_3 (by first | exact Ld.num (hr.ext hw) (by omega) | exact hA)) ?_
                    refine Qt.va rfl (fun w' hw => X.move (by conv => lhs; whnf)) ?_
                    refine Qt.va rfl (fun w' hw => X.move (by conv => lhs; whnf)) ?_
                    refine Qt.va rfl (fun w' hw => (by first | exact X.index1n rfl rfl Try.underlying23 sz_3 (by first | exact Option.some_ne_none _ | exact hr.some_ (by omega) | exact hA) (by omega) | exact X.index1 rfl rfl Try.underlying23 sz_3 (by first | exact Option.some_ne_none _ | exact hr.some_ (by omega) | exact hA) (by omega))) ?_
                    refine Qt.va rfl (fun w' hw => X.load rfl sc_3 (by first | exact Ld.num (hr.ext hw) (by omega) | exact hA)) ?_
                    -- callfn cmp.Less[int]
                    refine Qt.call rfl en_293 rfl (fun w' hw => calls_same hw (clessI (m.getD i 0) (m.getD a 0) w')) ?_
                    refine Qt.va rfl (fun w' hw => X.pickT rfl (by conv => lhs; whnf)) ?_
                    refine Qt.nil (fun w15 hq => ?_)
                    -- cond
                    by_cases hd : m.getD i 0 < m.getD a 0
                    · rw [show decide (m.getD i 0 < m.getD a 0) = true from decide_eq_true (by omega)]
                      refine J.iteT rfl ?_
                      refine J.skip ?_
                      refine J.block ?_
                      refine J.region ?_
                      refine L.va rfl (X.move (by conv => lhs; whnf)) ?_
                      refine L.va rfl (X.add rfl rfl (by omega)) ?_
                      refine L.va rfl (X.assign (by conv => lhs; whnf)) ?_
                      refine L.nil ?_
                      -- loopend
                      refine ⟨i + 1, At1 (by first | rfl | exact at_int rfl (by omega) | exact at_slice rfl (by omega) | exact at_int rfl (by simp)), (by (iterate 18 refine Agr.lk rfl ?_); exact Agr.lk rfl (Agr.hav rfl Agr.rfl')), ?_⟩
                      exact ⟨⟨⟨by omega, by omega, h3, fun k k1 k2 => by
                        rcases Nat.lt_or_ge k i with h | h
                        · exact HP.le k k1 h
                        · obtain rfl : k = i := by omega
                          exact hd, HP.ri⟩, by omega, he.trans hq⟩, by omega⟩
                    · rw [show decide (m.getD i 0 < m.getD a 0) = false from decide_eq_false (by omega)]
                      refine J.iteF rfl ?_
                      refine J.exit ?_
                      -- cutend
                      refine ⟨i, At1 (by first | rfl | exact at_int rfl (by omega) | exact at_slice rfl (by omega) | exact at_int rfl (by simp)), (by (iterate 15 refine Agr.lk rfl ?_); refine Agr.lk rfl ?_; refine Agr.hav rfl ?_; exact Agr.rfl'), ?_⟩
                      exact ⟨HP, (fun _ => hd), hbd, he.trans hq⟩
                  · skip
                    refine Qt.no rfl ?_
                    refine Qt.no rfl ?_
                    refine Qt.no rfl ?_
                    refine Qt.no rfl ?_
                    refine Qt.no rfl ?_
                    refine Qt.no rfl ?_
                    refine Qt.no rfl ?_
                    refine Qt.no rfl ?_
                    refine Qt.no rfl ?_
                    refine Qt.va rfl (fun w' hw => X.pickF rfl (by conv => lhs; whnf)) ?_
                    refine Qt.nil (fun w15 hq => ?_)
                    -- cond
                    refine J.iteF rfl ?_
                    refine J.exit ?_
                    -- cutend
                    refine ⟨i, At1 (by first | rfl | exact at_int rfl (by omega) | exact at_slice rfl (by omega) | exact at_int rfl (by simp)), (by (iterate 15 refine Agr.lk rfl ?_); refine Agr.lk rfl ?_; refine Agr.hav rfl ?_; exact Agr.rfl'), ?_⟩
                    exact ⟨HP, (fun h => absurd h (by omega)), hbd, he.trans hq⟩
              · rintro i g w16 ⟨HP, hi, hio2, he16⟩
                replace HO := HO.ext he16
                have hG16 : w.grownBy w16 (Value.ownBlock (.slice A n c)) := grb_trans M.g (grown_ext he16)
                obtain ⟨jo, hjo⟩ : ∃ jo, jo = j := ⟨_, rfl⟩
                rw [← hjo] at hi
                -- until
                refine J.cut (X := Nat) [11, 115, 116, 117, 118, 119, 120, 121, 122, 123, 124, 125, 126, 127, 128, 129, 130, 131] (fun j => [(11, .int .i64 (j : Int))]) (fun j w' => Pt (· < ·) (fun x y => y ≤ x) m a b i j ∧ (i ≤ j → ¬ m.getD a 0 ≤ m.getD j 0) ∧ j ≤ jo ∧ Ext w16 w') ?_ ?_
                · refine J.block ?_
                  -- loop
                  refine J.loop (X := Nat) [11, 115, 116, 117, 118, 119, 120, 121, 122, 123, 124, 125, 126, 127, 128, 129, 130, 131] (fun j => [(11, .int .i64 (j : Int))]) (fun j w' => Pt (· < ·) (fun x y => y ≤ x) m a b i j ∧ j ≤ jo ∧ Ext w16 w') (fun j => j) (j) (At1 (by first | rfl | exact at_int rfl (by omega) | exact at_slice rfl (by omega) | exact at_int rfl (by simp))) ?_ ?_
                  · exact ⟨HP, by omega, Ext.refl _⟩
                  · rintro j g w17 ⟨HP, hbd, he⟩
                    have h1 := HP.ai
                    have h2 := HP.ij
                    have h3 := HP.jb
                    have hr := Reads.of_own (HO.ext he)
                    have hA := hr.some_ (by omega)
                    refine J.seq ?_
                    refine J.seq ?_
                    -- draw
                    refine J.quiet mixed (by kernel_rfl) ?_
                    refine Qt.va rfl (fun w' hw => X.move (by conv => lhs; whnf)) ?_
                    refine Qt.va rfl (fun w' hw => X.move (by conv => lhs; whnf)) ?_
                    refine Qt.va rfl (fun w' hw => X.leq rfl rfl) ?_
                    refine Qt.va rfl (fun w' hw => X.move (by conv => lhs; whnf)) ?_
                    -- case t118
                    refine Qt.caseDec (k := 118) rfl (fun hij => ?_) (fun hij => ?_)
                    · refine Qt.va rfl (fun w' hw => X.move (by conv => lhs; whnf)) ?_
                      refine Qt.va rfl (fun w' hw => X.move (by conv => lhs; whnf)) ?_
                      refine Qt.va rfl (fun w' hw => (by first | exact X.index1n rfl rfl Try.underlying23 sz_3 (by first | exact Option.some_ne_none _ | exact hr.some_ (by omega) | exact hA) (by omega) | exact X.index1 rfl rfl Try.underlying23 sz_3 (by first | exact Option.some_ne_none _ | exact hr.some_ (by omega) | exact hA) (by omega))) ?_
                      refine Qt.va rfl (fun w' hw => X.load rfl sc_3 (by first | exact Ld.num (hr.ext hw) (by omega) | exact hA)) ?_
                      refine Qt.va rfl (fun w' hw => X.move (by conv => lhs; whnf)) ?_
                      refine Qt.va rfl (fun w' hw => X.move (by conv => lhs; whnf)) ?_
                      refine Qt.va rfl (fun w' hw => (by first | exact X.index1n rfl rfl Try.underlying23 sz_3 (by first | exact Option.some_ne_none _ | exact hr.some_ (by omega) | exact hA) (by omega) | exact X.index1 rfl rfl Try.underlying23 sz_3 (by first | exact Option.some_ne_none _ | exact hr.some_ (by omega) | exact hA) (by omega))) ?_
                      refine Qt.va rfl (fun w' hw => X.load rfl sc_3 (by first | exact Ld.num (hr.ext hw) (by omega) | exact hA)) ?_
                      -- callfn cmp.Less[int]
                      refine Qt.call rfl en_293 rfl (fun w' hw => calls_same hw (clessI (m.getD j 0) (m.getD a 0) w')) ?_
                      refine Qt.va rfl (fun w' hw => X.not rfl) ?_
                      refine Qt.va rfl (fun w' hw => X.pickT rfl (by conv => lhs; whnf)) ?_
                      refine Qt.nil (fun w18 hq => ?_)
                      -- cond
                      by_cases hd : m.getD a 0 ≤ m.getD j 0
                      · rw [show decide (m.getD j 0 < m.getD a 0) = false from decide_eq_false (by omega)]
                        refine J.iteT rfl ?_
                        refine J.skip ?_
                        refine J.block ?_
                        refine J.region ?_
                        refine L.va rfl (X.move (by conv => lhs; whnf)) ?_
                        refine L.va rfl (X.sub rfl rfl (by omega)) ?_
                        refine L.va rfl (X.assign (by conv => lhs; whnf)) ?_
                        refine L.nil ?_
                        -- loopend
                        obtain ⟨j', rfl⟩ : ∃ j', j = j' + 1 := ⟨j - 1, by omega⟩
                        refine ⟨j', At1 (by first | rfl | exact at_int rfl (by omega) | exact at_slice rfl (by omega) | exact at_int rfl (by simp)), (by (iterate 19 refine Agr.lk rfl ?_); exact Agr.lk rfl (Agr.hav rfl Agr.rfl')), ?_⟩
                        exact ⟨⟨⟨h1, by omega, by omega, HP.le, fun k k1 k2 => by
                          rcases Nat.lt_or_ge (j' + 1) k with h | h
                          · exact HP.ri k h k2
                          · obtain rfl : k = j' + 1 := by omega
                            exact hd⟩, by omega, he.trans hq⟩, by omega⟩
                      · rw [show decide (m.getD j 0 < m.getD a 0) = true from decide_eq_true (by omega)]
                        refine J.iteF rfl ?_
                        refine J.exit ?_
                        -- cutend
                        refine ⟨j, At1 (by first | rfl | exact at_int rfl (by omega) | exact at_slice rfl (by omega) | exact at_int rfl (by simp)), (by (iterate 16 refine Agr.lk rfl ?_); refine Agr.lk rfl ?_; refine Agr.hav rfl ?_; exact Agr.rfl'), ?_⟩
                        exact ⟨HP, (fun _ => hd), hbd, he.trans hq⟩
                    · skip
                      refine Qt.no rfl ?_
                      refine Qt.no rfl ?_
                      refine Qt.no rfl ?_
                      refine Qt.no rfl ?_
                      refine Qt.no rfl ?_
                      refine Qt.no rfl ?_
                      refine Qt.no rfl ?_
                      refine Qt.no rfl ?_
                      refine Qt.no rfl ?_
                      refine Qt.no rfl ?_
                      refine Qt.va rfl (fun w' hw => X.pickF rfl (by conv => lhs; whnf)) ?_
                      refine Qt.nil (fun w18 hq => ?_)
                      -- cond
                      refine J.iteF rfl ?_
                      refine J.exit ?_
                      -- cutend
                      refine ⟨j, At1 (by first | rfl | exact at_int rfl (by omega) | exact at_slice rfl (by omega) | exact at_int rfl (by simp)), (by (iterate 16 refine Agr.lk rfl ?_); refine Agr.lk rfl ?_; refine Agr.hav rfl ?_; exact Agr.rfl'), ?_⟩
                      exact ⟨HP, (fun h => absurd h (by omega)), hbd, he.trans hq⟩
                · rintro j g w19 ⟨HP, hj, hjo2, he19⟩
                  replace HO := HO.ext he19
                  have hG19 := grb_trans hG16 (grown_ext he19)
                  have h1 := HP.ai
                  have h2 := HP.ij
                  have h3 := HP.jb
                  refine J.seq ?_
                  refine J.seq ?_
                  refine J.region ?_
                  refine L.va rfl (X.move (by conv => lhs; whnf)) ?_
                  refine L.va rfl (X.move (by conv => lhs; whnf)) ?_
                  refine L.va rfl (X.gtr rfl rfl) ?_
                  refine L.nil ?_
                  -- cond
                  refine J.dec rfl (fun hgt => ?_) (fun hgt => ?_)
                  · have hd := HP.done (by omega) (by omega)
                    refine J.exit ?_
                    refine J.seq ?_
                    -- draw
                    refine J.draw (ℓ := 1000000) (S := (fun _ => True)) mixed (fun w22d hSE hS_h => ?_)
                    have hS : ((fun _ => True)) w22d := trivial
                    have hrw22 := (Reads.of_own HO).ext hSE
                    have hoX := HO.ext hSE
                    have hG : w19.grownBy w22d (Value.ownBlock (.slice A n c)) := grown_ext hSE
                    refine D.va 0 rfl (by kernel_rfl) (fun _ _ _ h => h) rfl (fun w' hw => X.move (by conv => lhs; whnf)) hS ?_
                    refine D.va 1 rfl (by kernel_rfl) (fun _ _ _ h => h) rfl (fun w' hw => X.move (by conv => lhs; whnf)) hS ?_
                    refine D.va 2 rfl (by kernel_rfl) (fun _ _ _ h => h) rfl (fun w' hw => X.move (by conv => lhs; whnf)) hS ?_
                    refine D.va 3 rfl (by kernel_rfl) (fun _ _ _ h => h) rfl (fun w' hw => X.move (by conv => lhs; whnf)) hS ?_
                    refine D.va 4 rfl (by kernel_rfl) (fun _ _ _ h => h) rfl (fun w' hw => X.move (by conv => lhs; whnf)) hS ?_
                    refine D.va 5 rfl (by kernel_rfl) (fun _ _ _ h => h) rfl (fun w' hw => X.move (by conv => lhs; whnf)) hS ?_
                    refine D.va 6 rfl (by kernel_rfl) (fun _ _ _ h => h) rfl (fun w' hw => (by first | exact X.index1n rfl rfl Try.underlying23 sz_3 (by first | exact Option.some_ne_none _ | exact hA) (by omega) | exact X.index1 rfl rfl Try.underlying23 sz_3 (by first | exact Option.some_ne_none _ | exact hA) (by omega))) hS ?_
                    refine D.va 8 rfl (by kernel_rfl) (fun _ _ _ h => h) rfl (fun w' hw => X.move (by conv => lhs; whnf)) hS ?_
                    refine D.va 9 rfl (by kernel_rfl) (fun _ _ _ h => h) rfl (fun w' hw => X.move (by conv => lhs; whnf)) hS ?_
                    refine D.va 10 rfl (by kernel_rfl) (fun _ _ _ h => h) rfl (fun w' hw => (by first | exact X.index1n rfl rfl Try.underlying23 sz_3 (by first | exact Option.some_ne_none _ | exact hA) (by omega) | exact X.index1 rfl rfl Try.underlying23 sz_3 (by first | exact Option.some_ne_none _ | exact hA) (by omega))) hS ?_
                    refine D.two 7 11 (by kernel_rfl) rfl rfl ?_ ?_
                    · refine L.va rfl (X.load rfl sc_3 (Ld.num hrw22 (j := a) (by omega))) ?_
                      refine L.nil ?_
                      refine ⟨fun _ => hS, ?_⟩
                      refine D.one 11 (by kernel_rfl) rfl ?_
                      refine L.va rfl (X.load rfl sc_3 (Ld.num hrw22 (j := j) (by omega))) ?_
                      refine L.nil ?_
                      refine ⟨fun _ => hS, ?_⟩
                      refine D.va 12 rfl (by kernel_rfl) (fun _ _ _ h => h) rfl (fun w' hw => (by first | exact X.index1n rfl rfl Try.underlying23 sz_3 (by first | exact Option.some_ne_none _ | exact hA) (by omega) | exact X.index1 rfl rfl Try.underlying23 sz_3 (by first | exact Option.some_ne_none _ | exact hA) (by omega))) hS ?_
                      refine D.one 13 (by kernel_rfl) rfl ?_
                      refine L.storeON rfl rfl (by conv => lhs; whnf) sz_3 (hoX) (by omega) ?_
                      intro w22 hoX hg2 hb2 hs2
                      have hS1 := trivial
                      refine L.nil ?_
                      refine ⟨fun _ => hS1, ?_⟩
                      replace hG := grb_trans hG hg2
                      refine D.va 14 rfl (by kernel_rfl) (fun _ _ _ h => h) rfl (fun w' hw => (by first | exact X.index1n rfl rfl Try.underlying23 sz_3 (by first | exact Option.some_ne_none _ | exact hA) (by omega) | exact X.index1 rfl rfl Try.underlying23 sz_3 (by first | exact Option.some_ne_none _ | exact hA) (by omega))) hS1 ?_
                      refine D.one 15 (by kernel_rfl) rfl ?_
                      refine L.storeON rfl rfl (by conv => lhs; whnf) sz_3 (hoX) (by omega) ?_
                      intro w22 hoX hg2 hb2 hs2
                      have hS2 := trivial
                      refine L.nil ?_
                      refine ⟨fun _ => hS2, ?_⟩
                      replace hG := grb_trans hG hg2
                      refine D.done (by kernel_rfl) ?_
                      refine J.seq ?_
                      refine J.region ?_
                      refine L.va rfl (X.move (by conv => lhs; whnf)) ?_
                      refine L.va rfl (X.assign (by conv => lhs; whnf)) ?_
                      refine L.va rfl (X.assign (by conv => lhs; whnf)) ?_
                      refine L.nil ?_
                      -- ret
                      refine J.ret ?_
                      refine fin2 ?_
                      exact ⟨swp m j a, j, false, rfl, ⟨hoX, grb_trans hG19 hG, .step M.p ⟨by omega, by omega⟩ ⟨by omega, by omega⟩ (by omega)⟩, by omega, by omega, hd.1, hd.2⟩
                    · refine L.va rfl (X.load rfl sc_3 (Ld.num hrw22 (j := j) (by omega))) ?_
                      refine L.nil ?_
                      refine ⟨fun _ => hS, ?_⟩
                      refine D.one 7 (by kernel_rfl) rfl ?_
                      refine L.va rfl (X.load rfl sc_3 (Ld.num hrw22 (j := a) (by omega))) ?_
                      refine L.nil ?_
                      refine ⟨fun _ => hS, ?_⟩
                      refine D.va 12 rfl (by kernel_rfl) (fun _ _ _ h => h) rfl (fun w' hw => (by first | exact X.index1n rfl rfl Try.underlying23 sz_3 (by first | exact Option.some_ne_none _ | exact hA) (by omega) | exact X.index1 rfl rfl Try.underlying23 sz_3 (by first | exact Option.some_ne_none _ | exact hA) (by omega))) hS ?_
                      refine D.one 13 (by kernel_rfl) rfl ?_
                      refine L.storeON rfl rfl (by conv => lhs; whnf) sz_3 (hoX) (by omega) ?_
                      intro w22 hoX hg2 hb2 hs2
                      have hS1 := trivial
                      refine L.nil ?_
                      refine ⟨fun _ => hS1, ?_⟩
                      replace hG := grb_trans hG hg2
                      refine D.va 14 rfl (by kernel_rfl) (fun _ _ _ h => h) rfl (fun w' hw => (by first | exact X.index1n rfl rfl Try.underlying23 sz_3 (by first | exact Option.some_ne_none _ | exact hA) (by omega) | exact X.index1 rfl rfl Try.underlying23 sz_3 (by first | exact Option.some_ne_none _ | exact hA) (by omega))) hS1 ?_
                      refine D.one 15 (by kernel_rfl) rfl ?_
                      refine L.storeON rfl rfl (by conv => lhs; whnf) sz_3 (hoX) (by omega) ?_
                      intro w22 hoX hg2 hb2 hs2
                      have hS2 := trivial
                      refine L.nil ?_
                      refine ⟨fun _ => hS2, ?_⟩
                      replace hG := grb_trans hG hg2
                      refine D.done (by kernel_rfl) ?_
                      refine J.seq ?_
                      refine J.region ?_
                      refine L.va rfl (X.move (by conv => lhs; whnf)) ?_
                      refine L.va rfl (X.assign (by conv => lhs; whnf)) ?_
                      refine L.va rfl (X.assign (by conv => lhs; whnf)) ?_
                      refine L.nil ?_
                      -- ret
                      refine J.ret ?_
                      refine fin2 ?_
                      exact ⟨swp m j a, j, false, rfl, ⟨hoX, grb_trans hG19 hG, .step M.p ⟨by omega, by omega⟩ ⟨by omega, by omega⟩ (by omega)⟩, by omega, by omega, hd.1, hd.2⟩
                  · have hi' := hi (by omega)
                    have hj' := hj (by omega)
                    have hne : i ≠ j := fun e => by subst e; omega
                    obtain ⟨j, rfl⟩ : ∃ j', j = j' + 1 := ⟨j - 1, by omega⟩
                    refine J.skip ?_
                    refine J.seq ?_
                    -- draw
                    refine J.draw (ℓ := 1000000) (S := (fun _ => True)) mixed (fun w22d hSE hS_h => ?_)
                    have hS : ((fun _ => True)) w22d := trivial
                    have hrw22 := (Reads.of_own HO).ext hSE
                    have hoX := HO.ext hSE
                    have hG : w19.grownBy w22d (Value.ownBlock (.slice A n c)) := grown_ext hSE
                    refine D.va 0 rfl (by kernel_rfl) (fun _ _ _ h => h) rfl (fun w' hw => X.move (by conv => lhs; whnf)) hS ?_
                    refine D.va 1 rfl (by kernel_rfl) (fun _ _ _ h => h) rfl (fun w' hw => X.move (by conv => lhs; whnf)) hS ?_
                    refine D.va 2 rfl (by kernel_rfl) (fun _ _ _ h => h) rfl (fun w' hw => X.move (by conv => lhs; whnf)) hS ?_
                    refine D.va 3 rfl (by kernel_rfl) (fun _ _ _ h => h) rfl (fun w' hw => X.move (by conv => lhs; whnf)) hS ?_
                    refine D.va 4 rfl (by kernel_rfl) (fun _ _ _ h => h) rfl (fun w' hw => X.move (by conv => lhs; whnf)) hS ?_
                    refine D.va 5 rfl (by kernel_rfl) (fun _ _ _ h => h) rfl (fun w' hw => X.move (by conv => lhs; whnf)) hS ?_
                    refine D.va 6 rfl (by kernel_rfl) (fun _ _ _ h => h) rfl (fun w' hw => (by first | exact X.index1n rfl rfl Try.underlying23 sz_3 (by first | exact Option.some_ne_none _ | exact hA) (by omega) | exact X.index1 rfl rfl Try.underlying23 sz_3 (by first | exact Option.some_ne_none _ | exact hA) (by omega))) hS ?_
                    refine D.va 8 rfl (by kernel_rfl) (fun _ _ _ h => h) rfl (fun w' hw => X.move (by conv => lhs; whnf)) hS ?_
                    refine D.va 9 rfl (by kernel_rfl) (fun _ _ _ h => h) rfl (fun w' hw => X.move (by conv => lhs; whnf)) hS ?_
                    refine D.va 10 rfl (by kernel_rfl) (fun _ _ _ h => h) rfl (fun w' hw => (by first | exact X.index1n rfl rfl Try.underlying23 sz_3 (by first | exact Option.some_ne_none _ | exact hA) (by omega) | exact X.index1 rfl rfl Try.underlying23 sz_3 (by first | exact Option.some_ne_none _ | exact hA) (by omega))) hS ?_
                    refine D.two 7 11 (by kernel_rfl) rfl rfl ?_ ?_
                    · refine L.va rfl (X.load rfl sc_3 (Ld.num hrw22 (j := j + 1) (by omega))) ?_
                      refine L.nil ?_
                      refine ⟨fun _ => hS, ?_⟩
                      refine D.one 11 (by kernel_rfl) rfl ?_
                      refine L.va rfl (X.load rfl sc_3 (Ld.num hrw22 (j := i) (by omega))) ?_
                      refine L.nil ?_
                      refine ⟨fun _ => hS, ?_⟩
                      refine D.va 12 rfl (by kernel_rfl) (fun _ _ _ h => h) rfl (fun w' hw => (by first | exact X.index1n rfl rfl Try.underlying23 sz_3 (by first | exact Option.some_ne_none _ | exact hA) (by omega) | exact X.index1 rfl rfl Try.underlying23 sz_3 (by first | exact Option.some_ne_none _ | exact hA) (by omega))) hS ?_
                      refine D.one 13 (by kernel_rfl) rfl ?_
                      refine L.storeON rfl rfl (by conv => lhs; whnf) sz_3 (hoX) (by omega) ?_
                      intro w22 hoX hg2 hb2 hs2
                      have hS1 := trivial
                      refine L.nil ?_
                      refine ⟨fun _ => hS1, ?_⟩
                      replace hG := grb_trans hG hg2
                      refine D.va 14 rfl (by kernel_rfl) (fun _ _ _ h => h) rfl (fun w' hw => (by first | exact X.index1n rfl rfl Try.underlying23 sz_3 (by first | exact Option.some_ne_none _ | exact hA) (by omega) | exact X.index1 rfl rfl Try.underlying23 sz_3 (by first | exact Option.some_ne_none _ | exact hA) (by omega))) hS1 ?_
                      refine D.one 15 (by kernel_rfl) rfl ?_
                      refine L.storeON rfl rfl (by conv => lhs; whnf) sz_3 (hoX) (by omega) ?_
                      intro w22 hoX hg2 hb2 hs2
                      have hS2 := trivial
                      refine L.nil ?_
                      refine ⟨fun _ => hS2, ?_⟩
                      replace hG := grb_trans hG hg2
                      refine D.done (by kernel_rfl) ?_
                      refine J.seq ?_
                      refine J.region ?_
                      refine L.va rfl (X.move (by conv => lhs; whnf)) ?_
                      refine L.va rfl (X.add rfl rfl (by omega)) ?_
                      refine L.va rfl (X.assign (by conv => lhs; whnf)) ?_
                      refine L.nil ?_
                      refine J.region ?_
                      refine L.va rfl (X.move (by conv => lhs; whnf)) ?_
                      refine L.va rfl (X.sub rfl rfl (by omega)) ?_
                      refine L.va rfl (X.assign (by conv => lhs; whnf)) ?_
                      refine L.nil ?_
                      -- loopend
                      refine ⟨(i + 1, j, swp m i (j + 1)), At2 (by first | rfl | exact at_int rfl (by omega) | exact at_slice rfl (by omega) | exact at_int rfl (by simp)) (by first | rfl | exact at_int rfl (by omega) | exact at_slice rfl (by omega) | exact at_int rfl (by simp)), (by (iterate 23 refine Agr.lk rfl ?_); refine Agr.lk rfl ?_; refine Agr.hav rfl ?_; refine Agr.lk rfl ?_; refine Agr.hav rfl ?_; exact Agr.lk rfl (Agr.hav rfl Agr.rfl')), ?_⟩
                      exact ⟨⟨⟨hoX, grb_trans hG19 hG, .step M.p ⟨by omega, by omega⟩ ⟨by omega, by omega⟩ (by omega)⟩, HP.swap (by omega) (by omega) (by omega) (by omega)⟩, by show j + 1 - (i + 1) < _ + 1 - _; omega⟩
                    · refine L.va rfl (X.load rfl sc_3 (Ld.num hrw22 (j := i) (by omega))) ?_
                      refine L.nil ?_
                      refine ⟨fun _ => hS, ?_⟩
                      refine D.one 7 (by kernel_rfl) rfl ?_
                      refine L.va rfl (X.load rfl sc_3 (Ld.num hrw22 (j := j + 1) (by omega))) ?_
                      refine L.nil ?_
                      refine ⟨fun _ => hS, ?_⟩
                      refine D.va 12 rfl (by kernel_rfl) (fun _ _ _ h => h) rfl (fun w' hw => (by first | exact X.index1n rfl rfl Try.underlying23 sz_3 (by first | exact Option.some_ne_none _ | exact hA) (by omega) | exact X.index1 rfl rfl Try.underlying23 sz_3 (by first | exact Option.some_ne_none _ | exact hA) (by omega))) hS ?_
                      refine D.one 13 (by kernel_rfl) rfl ?_
                      refine L.storeON rfl rfl (by conv => lhs; whnf) sz_3 (hoX) (by omega) ?_
                      intro w22 hoX hg2 hb2 hs2
                      have hS1 := trivial
                      refine L.nil ?_
                      refine ⟨fun _ => hS1, ?_⟩
                      replace hG := grb_trans hG hg2
                      refine D.va 14 rfl (by kernel_rfl) (fun _ _ _ h => h) rfl (fun w' hw => (by first | exact X.index1n rfl rfl Try.underlying23 sz_3 (by first | exact Option.some_ne_none _ | exact hA) (by omega) | exact X.index1 rfl rfl Try.underlying23 sz_3 (by first | exact Option.some_ne_none _ | exact hA) (by omega))) hS1 ?_
                      refine D.one 15 (by kernel_rfl) rfl ?_
                      refine L.storeON rfl rfl (by conv => lhs; whnf) sz_3 (hoX) (by omega) ?_
                      intro w22 hoX hg2 hb2 hs2
                      have hS2 := trivial
                      refine L.nil ?_
                      refine ⟨fun _ => hS2, ?_⟩
                      replace hG := grb_trans hG hg2
                      refine D.done (by kernel_rfl) ?_
                      refine J.seq ?_
                      refine J.region ?_
                      refine L.va rfl (X.move (by conv => lhs; whnf)) ?_
                      refine L.va rfl (X.add rfl rfl (by omega)) ?_
                      refine L.va rfl (X.assign (by conv => lhs; whnf)) ?_
                      refine L.nil ?_
                      refine J.region ?_
                      refine L.va rfl (X.move (by conv => lhs; whnf)) ?_
                      refine L.va rfl (X.sub rfl rfl (by omega)) ?_
                      refine L.va rfl (X.assign (by conv => lhs; whnf)) ?_
                      refine L.nil ?_
                      -- loopend
                      refine ⟨(i + 1, j, swp m i (j + 1)), At2 (by first | rfl | exact at_int rfl (by omega) | exact at_slice rfl (by omega) | exact at_int rfl (by simp)) (by first | rfl | exact at_int rfl (by omega) | exact at_slice rfl (by omega) | exact at_int rfl (by simp)), (by (iterate 23 refine Agr.lk rfl ?_); refine Agr.lk rfl ?_; refine Agr.hav rfl ?_; refine Agr.lk rfl ?_; refine Agr.hav rfl ?_; exact Agr.lk rfl (Agr.hav rfl Agr.rfl')), ?_⟩
                      exact ⟨⟨⟨hoX, grb_trans hG19 hG, .step M.p ⟨by omega, by omega⟩ ⟨by omega, by omega⟩ (by omega)⟩, HP.swap (by omega) (by omega) (by omega) (by omega)⟩, by show j + 1 - (i + 1) < _ + 1 - _; omega⟩

end Go.Proofs.Ytlipeplfjkgamaa
