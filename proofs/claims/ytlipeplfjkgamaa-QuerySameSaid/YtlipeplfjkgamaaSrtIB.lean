/-
  Go's slices.Sort at []int, walked: sifting down, and the heap sort.
-/
import Derived.Test.YtlipeplfjkgamaaSrtI
namespace Go.Proofs.Ytlipeplfjkgamaa
set_option maxRecDepth 100000
open Go.RowKit H
open Srt
set_option linter.unusedVariables false
theorem sdownI (A : Option Addr) (n c N lo hi f : Nat) (l : List Int) (w : World) (ho : w.ownsRow N 3 1 (.slice A n c) n (nums .i64 l)) (hf : f + hi ≤ n) (hn : n ≤ 1000000) (hlo : lo ≤ hi) (hS : Sd l f lo hi lo) :
    Calls Try.prog 303 #[.slice A n c, .int .i64 (lo : Int), .int .i64 (hi : Int), .int .i64 (f : Int)] w fun e w' => e = .returned (.tuple #[]) ∧ ∃ l', SwI w w' A n c N f (f + hi) l l' ∧ Hpr l' f lo hi := by
  have hl : l.length = n := by have := ho.1; simpa [nums] using this
  refine enter Try.func303 rfl (by kernel_rfl) ?_
  refine J.seq ?_
  refine J.region ?_
  refine L.va rfl (X.move (by conv => lhs; whnf)) ?_
  refine L.va rfl (X.assign (by conv => lhs; whnf)) ?_
  refine L.nil ?_
  refine J.block ?_
  -- loop
  refine J.loop (X := Nat × List Int) [8, 9, 11, 12, 13, 14, 15, 16, 17, 18, 19, 20, 21, 22, 23, 24, 25, 26, 27, 28, 29, 30, 31, 32, 33, 34, 35, 36, 37, 38, 39, 40, 41, 42, 43, 44, 45, 46, 47, 48, 49, 50, 51, 52, 53, 54, 55, 56, 57, 58, 59, 60, 61, 62, 63, 64, 65, 66, 67, 68, 69, 70, 71, 72, 73, 74, 75] (fun (r, m) => [(8, .int .i64 (r : Int))]) (fun (r, m) w' => r ≤ hi ∧ SwI w w' A n c N f (f + hi) l m ∧ Sd m f lo hi r) (fun (r, _) => hi - r) ((lo, l)) (At1 (by first | rfl | exact at_int rfl (by omega) | exact at_slice rfl (by omega) | exact at_int rfl (by simp))) ?_ ?_
  · exact ⟨hlo, ⟨ho, grown_ext (Ext.refl _), .refl _⟩, hS⟩
  · rintro ⟨r, m⟩ g w2 ⟨h1, M, hSd⟩
    have hml : m.length = n := by rw [M.p.len, hl]
    refine J.block ?_
    refine J.seq ?_
    refine J.region ?_
    refine L.va rfl (X.move (by conv => lhs; whnf)) ?_
    refine L.va rfl (X.mul rfl rfl (by omega)) ?_
    refine L.va rfl (X.add rfl rfl (by omega)) ?_
    refine L.va rfl (X.assign (by conv => lhs; whnf)) ?_
    refine L.nil ?_
    refine J.seq ?_
    refine J.seq ?_
    refine J.region ?_
    refine L.va rfl (X.move (by conv => lhs; whnf)) ?_
    refine L.va rfl (X.move (by conv => lhs; whnf)) ?_
    refine L.va rfl (X.geq rfl rfl) ?_
    refine L.nil ?_
    -- cond
    refine J.dec rfl (fun hge => ?_) (fun hge => ?_)
    · refine J.exit ?_
      refine thn_exit <| inB_ne rfl <| thn_exit <| inB_eq ?_
      -- end
      refine fin0 (.inr rfl) ?_
      exact ⟨rfl, m, M, hSd.stop fun k h0 hk hp => by omega⟩
    · have hc : 2 * r + 1 < hi := by omega
      have hr := Reads.of_own M.o
      have hA := hr.some_ (by omega)
      refine J.skip ?_
      -- until
      refine J.cut (X := Nat) [9, 17, 18, 19, 20, 21, 22, 23, 24, 25, 26, 27, 28, 29, 30, 31, 32, 33, 34, 35, 36, 37, 38] (fun j => [(9, .int .i64 (j : Int))]) (fun j w' => Ext w2 w' ∧ (j - 1) / 2 = r ∧ 0 < j ∧ j < hi ∧ ∀ k, 0 < k → k < hi → (k - 1) / 2 = r → m.getD (f + k) 0 ≤ m.getD (f + j) 0) ?_ ?_
      · refine J.seq ?_
        -- draw
        -- t26
        -- t33
        refine J.quiet mixed (by kernel_rfl) ?_
        refine Qt.va rfl (fun w' hw => X.move (by conv => lhs; whnf)) ?_
        refine Qt.va rfl (fun w' hw => X.add rfl rfl (by omega)) ?_
        refine Qt.va rfl (fun w' hw => X.move (by conv => lhs; whnf)) ?_
        refine Qt.va rfl (fun w' hw => X.lss rfl rfl) ?_
        refine Qt.va rfl (fun w' hw => X.move (by conv => lhs; whnf)) ?_
        -- case t21
        refine Qt.caseDec (k := 21) rfl (fun h2 => ?_) (fun h2 => ?_)
        · refine Qt.va rfl (fun w' hw => X.move (by conv => lhs; whnf)) ?_
          refine Qt.va rfl (fun w' hw => X.move (by conv => lhs; whnf)) ?_
          refine Qt.va rfl (fun w' hw => X.move (by conv => lhs; whnf)) ?_
          refine Qt.va rfl (fun w' hw => X.add rfl rfl (by omega)) ?_
          refine Qt.va rfl (fun w' hw => X.index1eI (j := f + (2 * r + 1)) rfl rfl (by omega) Try.underlying23 sz_3 hA (by omega)) ?_
          refine Qt.va rfl (fun w' hw => X.load rfl sc_3 (by first | exact Ld.num (hr.ext hw) (by omega) | exact hA)) ?_
          refine Qt.va rfl (fun w' hw => X.move (by conv => lhs; whnf)) ?_
          refine Qt.va rfl (fun w' hw => X.move (by conv => lhs; whnf)) ?_
          refine Qt.va rfl (fun w' hw => X.move (by conv => lhs; whnf)) ?_
          refine Qt.va rfl (fun w' hw => X.add rfl rfl (by omega)) ?_
          refine Qt.va rfl (fun w' hw => X.add rfl rfl (by omega)) ?_
          refine Qt.va rfl (fun w' hw => X.index1eI (j := f + (2 * r + 2)) rfl rfl (by omega) Try.underlying23 sz_3 hA (by omega)) ?_
          refine Qt.va rfl (fun w' hw => X.load rfl sc_3 (by first | exact Ld.num (hr.ext hw) (by omega) | exact hA)) ?_
          -- callfn cmp.Less[int]
          refine Qt.call rfl en_293 rfl (fun w' hw => calls_same hw (clessI (m.getD (f + (2 * r + 1)) 0) (m.getD (f + (2 * r + 2)) 0) w')) ?_
          refine Qt.va rfl (fun w' hw => X.pickT rfl (by conv => lhs; whnf)) ?_
          refine Qt.nil (fun w3 hq => ?_)
          replace hr := hr.ext hq
          -- cond
          by_cases hd : m.getD (f + (2 * r + 1)) 0 < m.getD (f + (2 * r + 2)) 0
          · rw [decide_eq_true hd]
            refine J.iteT rfl ?_
            refine J.region ?_
            refine L.va rfl (X.move (by conv => lhs; whnf)) ?_
            refine L.va rfl (X.add rfl rfl (by omega)) ?_
            refine L.va rfl (X.assign (by conv => lhs; whnf)) ?_
            refine L.nil ?_
            -- cutend
            refine ⟨2 * r + 2, At1 (by first | rfl | exact at_int rfl (by omega) | exact at_slice rfl (by omega) | exact at_int rfl (by simp)), (by (iterate 24 refine Agr.lk rfl ?_); exact Agr.rfl'), ?_⟩
            refine ⟨hq, by omega, by omega, by omega, fun k h0 hk hp => ?_⟩
            rcases (by omega : k = 2 * r + 1 ∨ k = 2 * r + 2) with rfl | rfl
            · omega
            · exact Int.le_refl _
          · rw [decide_eq_false hd]
            refine J.iteF rfl ?_
            refine J.skip ?_
            -- cutend
            refine ⟨2 * r + 1, At1 (by first | rfl | exact at_int rfl (by omega) | exact at_slice rfl (by omega) | exact at_int rfl (by simp)), (by (iterate 21 refine Agr.lk rfl ?_); exact Agr.rfl'), ?_⟩
            refine ⟨hq, by omega, by omega, by omega, fun k h0 hk hp => ?_⟩
            rcases (by omega : k = 2 * r + 1 ∨ k = 2 * r + 2) with rfl | rfl
            · exact Int.le_refl _
            · omega
        · refine Qt.no rfl ?_
          refine Qt.no rfl ?_
          refine Qt.no rfl ?_
          refine Qt.no rfl ?_
          refine Qt.no rfl ?_
          refine Qt.no rfl ?_
          refine Qt.no rfl ?_
          refine Qt.no rfl ?_
          refine Qt.no rfl ?_
          refine Qt.no rfl ?_
          refine Qt.no rfl ?_
          refine Qt.no rfl ?_
          refine Qt.no rfl ?_
          refine Qt.no rfl ?_
          refine Qt.va rfl (fun w' hw => X.pickF rfl (by conv => lhs; whnf)) ?_
          refine Qt.nil (fun w3 hq => ?_)
          replace hr := hr.ext hq
          -- cond
          refine J.iteF rfl ?_
          refine J.skip ?_
          -- cutend
          refine ⟨2 * r + 1, At1 (by first | rfl | exact at_int rfl (by omega) | exact at_slice rfl (by omega) | exact at_int rfl (by simp)), (by (iterate 21 refine Agr.lk rfl ?_); exact Agr.rfl'), ?_⟩
          refine ⟨hq, by omega, by omega, by omega, fun k h0 hk hp => ?_⟩
          obtain rfl : k = 2 * r + 1 := by omega
          exact Int.le_refl _
      · rintro j g w3 ⟨he3, hj, hj0, hjn, hmx⟩
        have ho3 := M.o.ext he3
        have hr3 := Reads.of_own ho3
        refine J.seq ?_
        refine J.seq ?_
        -- draw
        -- t43
        -- t49
        refine J.quiet mixed (by kernel_rfl) ?_
        refine Qt.va rfl (fun w' hw => X.move (by conv => lhs; whnf)) ?_
        refine Qt.va rfl (fun w' hw => X.move (by conv => lhs; whnf)) ?_
        refine Qt.va rfl (fun w' hw => X.move (by conv => lhs; whnf)) ?_
        refine Qt.va rfl (fun w' hw => X.add rfl rfl (by omega)) ?_
        refine Qt.va rfl (fun w' hw => X.index1eI (j := f + r) rfl rfl (by omega) Try.underlying23 sz_3 hA (by omega)) ?_
        refine Qt.va rfl (fun w' hw => X.load rfl sc_3 (by first | exact Ld.num (hr3.ext hw) (by omega) | exact hA)) ?_
        refine Qt.va rfl (fun w' hw => X.move (by conv => lhs; whnf)) ?_
        refine Qt.va rfl (fun w' hw => X.move (by conv => lhs; whnf)) ?_
        refine Qt.va rfl (fun w' hw => X.move (by conv => lhs; whnf)) ?_
        refine Qt.va rfl (fun w' hw => X.add rfl rfl (by omega)) ?_
        refine Qt.va rfl (fun w' hw => X.index1eI (j := f + j) rfl rfl (by omega) Try.underlying23 sz_3 hA (by omega)) ?_
        refine Qt.va rfl (fun w' hw => X.load rfl sc_3 (by first | exact Ld.num (hr3.ext hw) (by omega) | exact hA)) ?_
        -- callfn cmp.Less[int]
        refine Qt.call rfl en_293 rfl (fun w' hw => calls_same hw (clessI (m.getD (f + r) 0) (m.getD (f + j) 0) w')) ?_
        refine Qt.va rfl (fun w' hw => X.not rfl) ?_
        refine Qt.nil (fun w4 hq => ?_)
        replace hr3 := hr3.ext hq
        -- cond
        by_cases hd : m.getD (f + r) 0 < m.getD (f + j) 0
        · rw [decide_eq_true hd]
          have ho4 := ho3.ext hq
          refine J.iteF rfl ?_
          -- t65
          -- t71
          -- t73
          -- t74
          refine J.skip ?_
          refine J.seq ?_
          -- draw
          refine J.draw (ℓ := 1000000) (S := (fun _ => True)) mixed (fun w5d hSE hS_h => ?_)
          have hS : ((fun _ => True)) w5d := trivial
          have hrw5 := (Reads.of_own ho4).ext hSE
          have hoX := ho4.ext hSE
          have hG : w4.grownBy w5d (Value.ownBlock (.slice A n c)) := grown_ext hSE
          refine D.va 0 rfl (by kernel_rfl) (fun _ _ _ h => h) rfl (fun w' hw => X.move (by conv => lhs; whnf)) hS ?_
          refine D.va 1 rfl (by kernel_rfl) (fun _ _ _ h => h) rfl (fun w' hw => X.move (by conv => lhs; whnf)) hS ?_
          refine D.va 2 rfl (by kernel_rfl) (fun _ _ _ h => h) rfl (fun w' hw => X.move (by conv => lhs; whnf)) hS ?_
          refine D.va 3 rfl (by kernel_rfl) (fun _ _ _ h => h) rfl (fun w' hw => X.add rfl rfl (by omega)) hS ?_
          refine D.va 4 rfl (by kernel_rfl) (fun _ _ _ h => h) rfl (fun w' hw => X.move (by conv => lhs; whnf)) hS ?_
          refine D.va 5 rfl (by kernel_rfl) (fun _ _ _ h => h) rfl (fun w' hw => X.move (by conv => lhs; whnf)) hS ?_
          refine D.va 6 rfl (by kernel_rfl) (fun _ _ _ h => h) rfl (fun w' hw => X.move (by conv => lhs; whnf)) hS ?_
          refine D.va 7 rfl (by kernel_rfl) (fun _ _ _ h => h) rfl (fun w' hw => X.add rfl rfl (by omega)) hS ?_
          refine D.va 8 rfl (by kernel_rfl) (fun _ _ _ h => h) rfl (fun w' hw => X.move (by conv => lhs; whnf)) hS ?_
          refine D.va 9 rfl (by kernel_rfl) (fun _ _ _ h => h) rfl (fun w' hw => X.move (by conv => lhs; whnf)) hS ?_
          refine D.va 10 rfl (by kernel_rfl) (fun _ _ _ h => h) rfl (fun w' hw => X.move (by conv => lhs; whnf)) hS ?_
          refine D.va 11 rfl (by kernel_rfl) (fun _ _ _ h => h) rfl (fun w' hw => X.add rfl rfl (by omega)) hS ?_
          refine D.va 12 rfl (by kernel_rfl) (fun _ _ _ h => h) rfl (fun w' hw => X.index1eI (j := f + j) rfl rfl (by omega) Try.underlying23 sz_3 hA (by omega)) hS ?_
          refine D.va 14 rfl (by kernel_rfl) (fun _ _ _ h => h) rfl (fun w' hw => X.move (by conv => lhs; whnf)) hS ?_
          refine D.va 15 rfl (by kernel_rfl) (fun _ _ _ h => h) rfl (fun w' hw => X.move (by conv => lhs; whnf)) hS ?_
          refine D.va 16 rfl (by kernel_rfl) (fun _ _ _ h => h) rfl (fun w' hw => X.move (by conv => lhs; whnf)) hS ?_
          refine D.va 17 rfl (by kernel_rfl) (fun _ _ _ h => h) rfl (fun w' hw => X.add rfl rfl (by omega)) hS ?_
          refine D.va 18 rfl (by kernel_rfl) (fun _ _ _ h => h) rfl (fun w' hw => X.index1eI (j := f + r) rfl rfl (by omega) Try.underlying23 sz_3 hA (by omega)) hS ?_
          refine D.two 13 19 (by kernel_rfl) rfl rfl ?_ ?_
          · refine L.va rfl (X.load rfl sc_3 (Ld.num hrw5 (j := f + j) (by omega))) ?_
            refine L.nil ?_
            refine ⟨fun _ => hS, ?_⟩
            refine D.one 19 (by kernel_rfl) rfl ?_
            refine L.va rfl (X.load rfl sc_3 (Ld.num hrw5 (j := f + r) (by omega))) ?_
            refine L.nil ?_
            refine ⟨fun _ => hS, ?_⟩
            refine D.va 20 rfl (by kernel_rfl) (fun _ _ _ h => h) rfl (fun w' hw => X.index1eI (j := f + r) rfl rfl (by omega) Try.underlying23 sz_3 hA (by omega)) hS ?_
            refine D.one 21 (by kernel_rfl) rfl ?_
            refine L.storeON rfl rfl (by conv => lhs; whnf) sz_3 (hoX) (by omega) ?_
            intro w5 hoX hg2 hb2 hs2
            have hS1 := trivial
            refine L.nil ?_
            refine ⟨fun _ => hS1, ?_⟩
            replace hG := grb_trans hG hg2
            refine D.va 22 rfl (by kernel_rfl) (fun _ _ _ h => h) rfl (fun w' hw => X.index1eI (j := f + j) rfl rfl (by omega) Try.underlying23 sz_3 hA (by omega)) hS1 ?_
            refine D.one 23 (by kernel_rfl) rfl ?_
            refine L.storeON rfl rfl (by conv => lhs; whnf) sz_3 (hoX) (by omega) ?_
            intro w5 hoX hg2 hb2 hs2
            have hS2 := trivial
            refine L.nil ?_
            refine ⟨fun _ => hS2, ?_⟩
            replace hG := grb_trans hG hg2
            refine D.done (by kernel_rfl) ?_
            refine J.region ?_
            refine L.va rfl (X.move (by conv => lhs; whnf)) ?_
            refine L.va rfl (X.assign (by conv => lhs; whnf)) ?_
            refine L.nil ?_
            -- loopend
            refine ⟨(j, swp m (f + r) (f + j)), At1 (by first | rfl | exact at_int rfl (by omega) | exact at_slice rfl (by omega) | exact at_int rfl (by simp)), (by (iterate 38 refine Agr.lk rfl ?_); refine Agr.lk rfl ?_; refine Agr.hav rfl ?_; (iterate 7 refine Agr.lk rfl ?_); exact Agr.lk rfl (Agr.hav rfl Agr.rfl')), ?_⟩
            exact ⟨⟨by omega, ⟨hoX, grb_trans M.g (grb_trans (grown_ext (he3.trans hq)) hG), .step M.p ⟨by omega, by omega⟩ ⟨by omega, by omega⟩ (by omega)⟩, hSd.step hj hj0 hjn (by omega) hmx hd⟩, by show hi - j < hi - r; omega⟩
          · refine L.va rfl (X.load rfl sc_3 (Ld.num hrw5 (j := f + r) (by omega))) ?_
            refine L.nil ?_
            refine ⟨fun _ => hS, ?_⟩
            refine D.one 13 (by kernel_rfl) rfl ?_
            refine L.va rfl (X.load rfl sc_3 (Ld.num hrw5 (j := f + j) (by omega))) ?_
            refine L.nil ?_
            refine ⟨fun _ => hS, ?_⟩
            refine D.va 20 rfl (by kernel_rfl) (fun _ _ _ h => h) rfl (fun w' hw => X.index1eI (j := f + r) rfl rfl (by omega) Try.underlying23 sz_3 hA (by omega)) hS ?_
            refine D.one 21 (by kernel_rfl) rfl ?_
            refine L.storeON rfl rfl (by conv => lhs; whnf) sz_3 (hoX) (by omega) ?_
            intro w5 hoX hg2 hb2 hs2
            have hS1 := trivial
            refine L.nil ?_
            refine ⟨fun _ => hS1, ?_⟩
            replace hG := grb_trans hG hg2
            refine D.va 22 rfl (by kernel_rfl) (fun _ _ _ h => h) rfl (fun w' hw => X.index1eI (j := f + j) rfl rfl (by omega) Try.underlying23 sz_3 hA (by omega)) hS1 ?_
            refine D.one 23 (by kernel_rfl) rfl ?_
            refine L.storeON rfl rfl (by conv => lhs; whnf) sz_3 (hoX) (by omega) ?_
            intro w5 hoX hg2 hb2 hs2
            have hS2 := trivial
            refine L.nil ?_
            refine ⟨fun _ => hS2, ?_⟩
            replace hG := grb_trans hG hg2
            refine D.done (by kernel_rfl) ?_
            refine J.region ?_
            refine L.va rfl (X.move (by conv => lhs; whnf)) ?_
            refine L.va rfl (X.assign (by conv => lhs; whnf)) ?_
            refine L.nil ?_
            -- loopend
            refine ⟨(j, swp m (f + r) (f + j)), At1 (by first | rfl | exact at_int rfl (by omega) | exact at_slice rfl (by omega) | exact at_int rfl (by simp)), (by (iterate 38 refine Agr.lk rfl ?_); refine Agr.lk rfl ?_; refine Agr.hav rfl ?_; (iterate 7 refine Agr.lk rfl ?_); exact Agr.lk rfl (Agr.hav rfl Agr.rfl')), ?_⟩
            exact ⟨⟨by omega, ⟨hoX, grb_trans M.g (grb_trans (grown_ext (he3.trans hq)) hG), .step M.p ⟨by omega, by omega⟩ ⟨by omega, by omega⟩ (by omega)⟩, hSd.step hj hj0 hjn (by omega) hmx hd⟩, by show hi - j < hi - r; omega⟩
        · rw [decide_eq_false hd]
          refine J.iteT rfl ?_
          -- ret
          refine J.ret ?_
          refine thn_ret <|  inB_ret <|  thn_ret <|  inB_ret <| ?_
          refine fin0 (.inl rfl) ?_
          exact ⟨rfl, m, ⟨ho3.ext hq, grb_trans M.g (grown_ext (he3.trans hq)), M.p⟩, hSd.stop fun k h0 hk hp => by have := hmx k h0 hk hp; omega⟩
theorem hsortI (A : Option Addr) (n c N a h : Nat) (l : List Int) (w : World) (ho : w.ownsRow N 3 1 (.slice A n c) n (nums .i64 l)) (hf : a + h ≤ n) (hn : n ≤ 1000000) (h0 : 0 < h) :
    Calls Try.prog 288 #[.slice A n c, .int .i64 (a : Int), .int .i64 ((a + h : Nat) : Int)] w fun e w' => e = .returned (.tuple #[]) ∧ ∃ l', SwI w w' A n c N a (a + h) l l' ∧ In l' a (a + h) := by
  have hl : l.length = n := by have := ho.1; simpa [nums] using this
  have eh : ((a + h : Nat) : Int) - (a : Int) = (h : Int) := by omega
  refine enter Try.func288 rfl (by kernel_rfl) ?_
  refine J.seq ?_
  refine J.region ?_
  refine L.va rfl (X.move (by conv => lhs; whnf)) ?_
  refine L.va rfl (X.assign (by conv => lhs; whnf)) ?_
  refine L.nil ?_
  refine J.seq ?_
  refine J.region ?_
  refine L.va rfl (X.assign (by conv => lhs; whnf)) ?_
  refine L.nil ?_
  refine J.seq ?_
  refine J.region ?_
  refine L.va rfl (X.move (by conv => lhs; whnf)) ?_
  refine L.va rfl (X.move (by conv => lhs; whnf)) ?_
  refine L.va rfl (X.sub rfl rfl (by omega)) ?_
  refine L.va rfl (X.assign (by conv => lhs; whnf)) ?_
  refine L.nil ?_
  -- until
  rw [eh]
  refine J.seq ?_
  refine J.seq ?_
  refine J.region ?_
  refine L.va rfl (X.move (by conv => lhs; whnf)) ?_
  refine L.va rfl (X.sub rfl rfl (by omega)) ?_
  refine L.va rfl (X.quo rfl rfl (by omega)) ?_
  refine L.va rfl (X.assign (by conv => lhs; whnf)) ?_
  refine L.nil ?_
  refine J.block ?_
  -- loop
  refine J.loop (X := Int × List Int) [9, 18, 19, 20, 21, 22, 23, 24, 25, 26] (fun (i, m) => [(9, .int .i64 i)]) (fun (i, m) w' => -1 ≤ i ∧ 2 * i < h ∧ SwI w w' A n c N a (a + h) l m ∧ Hpr m a (i + 1).toNat h) (fun (i, _) => (i + 1).toNat) ((((h : Int) - 1) / 2, l)) (At1 (by first | rfl | exact at_int rfl (by omega) | exact at_slice rfl (by omega) | exact at_int rfl (by simp))) ?_ ?_
  · refine ⟨by omega, by omega, ⟨ho, grown_ext (Ext.refl _), .refl _⟩, fun k k0 hk hlo => by omega⟩
  · rintro ⟨i, m⟩ g w2 ⟨h1, h2, M, hH⟩
    have hml : m.length = n := by rw [M.p.len, hl]
    refine J.seq ?_
    refine J.seq ?_
    refine J.region ?_
    refine L.va rfl (X.move (by conv => lhs; whnf)) ?_
    refine L.va rfl (X.geq rfl rfl) ?_
    refine L.nil ?_
    -- cond
    refine J.dec rfl (fun hge => ?_) (fun hge => ?_)
    · obtain ⟨p, rfl⟩ := Int.eq_ofNat_of_zero_le hge
      rw [show ((p : Int) + 1).toNat = p + 1 by omega] at hH
      have c1 := sdownI A n c N p h a m w2 M.o hf hn (by omega) (Sd.start hH)
      refine J.skip ?_
      refine J.seq ?_
      refine J.block ?_
      refine J.region ?_
      refine L.va rfl (X.move (by conv => lhs; whnf)) ?_
      refine L.va rfl (X.move (by conv => lhs; whnf)) ?_
      refine L.va rfl (X.move (by conv => lhs; whnf)) ?_
      refine L.va rfl (X.move (by conv => lhs; whnf)) ?_
      -- callfn slices.siftDownOrdered[int]
      refine L.call rfl en_303 rfl (c1) ?_
      rintro e w3 ⟨rfl, m', M', hH'⟩
      refine ⟨_, rfl, ?_⟩
      refine L.nil ?_
      refine J.region ?_
      refine L.va rfl (X.move (by conv => lhs; whnf)) ?_
      refine L.va rfl (X.sub rfl rfl (by omega)) ?_
      refine L.va rfl (X.assign (by conv => lhs; whnf)) ?_
      refine L.nil ?_
      -- loopend
      refine ⟨((p : Int) - 1, m'), At1 (by first | rfl | exact at_int rfl (by omega) | exact at_slice rfl (by omega) | exact at_int rfl (by simp)), (by (iterate 10 refine Agr.lk rfl ?_); exact Agr.lk rfl (Agr.hav rfl Agr.rfl')), ?_⟩
      refine ⟨⟨by omega, by omega, ⟨M'.o, grb_trans M.g M'.g, M.p.trans M'.p⟩, ?_⟩, by show ((p : Int) - 1 + 1).toNat < ((p : Int) + 1).toNat; omega⟩
      rw [show ((p : Int) - 1 + 1).toNat = p by omega]
      exact hH'
    · obtain rfl : i = -1 := by omega
      have hH0 : Hpr m a 0 h := hH
      refine J.exit ?_
      refine J.seq ?_
      refine J.region ?_
      refine L.va rfl (X.move (by conv => lhs; whnf)) ?_
      refine L.va rfl (X.sub rfl rfl (by omega)) ?_
      refine L.va rfl (X.assign (by conv => lhs; whnf)) ?_
      refine L.nil ?_
      refine J.block ?_
      -- loop
      refine J.loop (X := Nat × List Int) [10, 29, 30, 31, 32, 33, 34, 35, 36, 37, 38, 39, 40, 41, 42, 43, 44, 45, 46, 47, 48, 49, 50, 51, 52, 53, 54, 55] (fun (p, m) => [(10, .int .i64 ((p : Int) - 1))]) (fun (p, m) w' => p ≤ h ∧ SwI w w' A n c N a (a + h) l m ∧ Off m a p h) (fun (p, _) => p) ((h, m)) (At1 (by first | rfl | exact at_int rfl (by omega) | exact at_slice rfl (by omega) | exact at_int rfl (by simp))) ?_ ?_
      · exact ⟨Nat.le_refl _, M, ⟨hH0, (fun x y x1 x2 x3 => by omega), (fun x y x1 x2 x3 => by omega)⟩⟩
      · rintro ⟨p, m⟩ g w3 ⟨hp, M, hO⟩
        have hml : m.length = n := by rw [M.p.len, hl]
        refine J.seq ?_
        refine J.seq ?_
        refine J.region ?_
        refine L.va rfl (X.move (by conv => lhs; whnf)) ?_
        refine L.va rfl (X.geq rfl rfl) ?_
        refine L.nil ?_
        -- cond
        refine J.dec rfl (fun hge => ?_) (fun hge => ?_)
        · obtain ⟨p, rfl⟩ : ∃ p', p = p' + 1 := ⟨p - 1, by omega⟩
          have hA := (Reads.of_own M.o).some_ (by omega)
          have ep : ((p + 1 : Nat) : Int) - 1 = (p : Int) := by omega
          have ho4 := M.o
          -- t43
          -- t50
          refine J.skip ?_
          refine J.seq ?_
          refine J.block ?_
          refine J.seq ?_
          -- draw
          refine J.draw (ℓ := 1000000) (S := (fun _ => True)) mixed (fun w5d hSE hS_h => ?_)
          have hS : ((fun _ => True)) w5d := trivial
          have hrw5 := (Reads.of_own ho4).ext hSE
          have hoX := ho4.ext hSE
          have hG : w3.grownBy w5d (Value.ownBlock (.slice A n c)) := grown_ext hSE
          refine D.va 0 rfl (by kernel_rfl) (fun _ _ _ h => h) rfl (fun w' hw => X.move (by conv => lhs; whnf)) hS ?_
          refine D.va 1 rfl (by kernel_rfl) (fun _ _ _ h => h) rfl (fun w' hw => X.move (by conv => lhs; whnf)) hS ?_
          refine D.va 2 rfl (by kernel_rfl) (fun _ _ _ h => h) rfl (fun w' hw => X.move (by conv => lhs; whnf)) hS ?_
          refine D.va 3 rfl (by kernel_rfl) (fun _ _ _ h => h) rfl (fun w' hw => X.move (by conv => lhs; whnf)) hS ?_
          refine D.va 4 rfl (by kernel_rfl) (fun _ _ _ h => h) rfl (fun w' hw => X.move (by conv => lhs; whnf)) hS ?_
          refine D.va 5 rfl (by kernel_rfl) (fun _ _ _ h => h) rfl (fun w' hw => X.add rfl rfl (by omega)) hS ?_
          refine D.va 6 rfl (by kernel_rfl) (fun _ _ _ h => h) rfl (fun w' hw => X.move (by conv => lhs; whnf)) hS ?_
          refine D.va 7 rfl (by kernel_rfl) (fun _ _ _ h => h) rfl (fun w' hw => X.move (by conv => lhs; whnf)) hS ?_
          refine D.va 8 rfl (by kernel_rfl) (fun _ _ _ h => h) rfl (fun w' hw => X.move (by conv => lhs; whnf)) hS ?_
          refine D.va 9 rfl (by kernel_rfl) (fun _ _ _ h => h) rfl (fun w' hw => X.add rfl rfl (by omega)) hS ?_
          refine D.va 10 rfl (by kernel_rfl) (fun _ _ _ h => h) rfl (fun w' hw => X.index1eI (j := a + p) rfl rfl (by omega) Try.underlying23 sz_3 hA (by omega)) hS ?_
          refine D.va 12 rfl (by kernel_rfl) (fun _ _ _ h => h) rfl (fun w' hw => X.move (by conv => lhs; whnf)) hS ?_
          refine D.va 13 rfl (by kernel_rfl) (fun _ _ _ h => h) rfl (fun w' hw => X.move (by conv => lhs; whnf)) hS ?_
          refine D.va 14 rfl (by kernel_rfl) (fun _ _ _ h => h) rfl (fun w' hw => (by first | exact X.index1n rfl rfl Try.underlying23 sz_3 (by first | exact Option.some_ne_none _ | exact hA) (by omega) | exact X.index1 rfl rfl Try.underlying23 sz_3 (by first | exact Option.some_ne_none _ | exact hA) (by omega))) hS ?_
          refine D.two 11 15 (by kernel_rfl) rfl rfl ?_ ?_
          · refine L.va rfl (X.load rfl sc_3 (Ld.num hrw5 (j := a + p) (by omega))) ?_
            refine L.nil ?_
            refine ⟨fun _ => hS, ?_⟩
            refine D.one 15 (by kernel_rfl) rfl ?_
            refine L.va rfl (X.load rfl sc_3 (Ld.num hrw5 (j := a) (by omega))) ?_
            refine L.nil ?_
            refine ⟨fun _ => hS, ?_⟩
            refine D.va 16 rfl (by kernel_rfl) (fun _ _ _ h => h) rfl (fun w' hw => (by first | exact X.index1n rfl rfl Try.underlying23 sz_3 (by first | exact Option.some_ne_none _ | exact hA) (by omega) | exact X.index1 rfl rfl Try.underlying23 sz_3 (by first | exact Option.some_ne_none _ | exact hA) (by omega))) hS ?_
            refine D.one 17 (by kernel_rfl) rfl ?_
            refine L.storeON rfl rfl (by conv => lhs; whnf) sz_3 (hoX) (by omega) ?_
            intro w5 hoX hg2 hb2 hs2
            have hS1 := trivial
            refine L.nil ?_
            refine ⟨fun _ => hS1, ?_⟩
            replace hG := grb_trans hG hg2
            refine D.va 18 rfl (by kernel_rfl) (fun _ _ _ h => h) rfl (fun w' hw => X.index1eI (j := a + p) rfl rfl (by omega) Try.underlying23 sz_3 hA (by omega)) hS1 ?_
            refine D.one 19 (by kernel_rfl) rfl ?_
            refine L.storeON rfl rfl (by conv => lhs; whnf) sz_3 (hoX) (by omega) ?_
            intro w5 hoX hg2 hb2 hs2
            have hS2 := trivial
            refine L.nil ?_
            refine ⟨fun _ => hS2, ?_⟩
            replace hG := grb_trans hG hg2
            refine D.done (by kernel_rfl) ?_
            refine J.region ?_
            refine L.va rfl (X.move (by conv => lhs; whnf)) ?_
            refine L.va rfl (X.move (by conv => lhs; whnf)) ?_
            refine L.va rfl (X.move (by conv => lhs; whnf)) ?_
            refine L.va rfl (X.move (by conv => lhs; whnf)) ?_
            have hsw : Pr a (a + h) m (swp m a (a + p)) := .step (.refl _) ⟨by omega, by omega⟩ ⟨by omega, by omega⟩ (by omega)
            have c2 := sdownI A n c N 0 p a (swp m a (a + p)) w5 hoX (by omega) hn (Nat.zero_le _) (hO.swap (by omega) (by omega))
            rw [← ep] at c2
            -- callfn slices.siftDownOrdered[int]
            refine L.call rfl en_303 rfl (c2) ?_
            rintro e w6 ⟨rfl, m', M', hH'⟩
            refine ⟨_, rfl, ?_⟩
            refine L.nil ?_
            refine J.region ?_
            refine L.va rfl (X.move (by conv => lhs; whnf)) ?_
            refine L.va rfl (X.sub rfl rfl (by omega)) ?_
            refine L.va rfl (X.assign (by conv => lhs; whnf)) ?_
            refine L.nil ?_
            -- loopend
            refine ⟨(p, m'), At1 (by first | rfl | exact at_int rfl (by omega) | exact at_slice rfl (by omega) | exact at_int rfl (by simp)), (by (iterate 28 refine Agr.lk rfl ?_); exact Agr.lk rfl (Agr.hav rfl Agr.rfl')), ?_⟩
            exact ⟨⟨by omega, ⟨M'.o, grb_trans (grb_trans M.g hG) M'.g, (M.p.trans hsw).trans (M'.p.wide (Nat.le_refl _) (by omega) (by rw [swp_length]; omega))⟩, hO.next (by omega) (by omega) M'.p hH'⟩, by show p < p + 1; omega⟩
          · refine L.va rfl (X.load rfl sc_3 (Ld.num hrw5 (j := a) (by omega))) ?_
            refine L.nil ?_
            refine ⟨fun _ => hS, ?_⟩
            refine D.one 11 (by kernel_rfl) rfl ?_
            refine L.va rfl (X.load rfl sc_3 (Ld.num hrw5 (j := a + p) (by omega))) ?_
            refine L.nil ?_
            refine ⟨fun _ => hS, ?_⟩
            refine D.va 16 rfl (by kernel_rfl) (fun _ _ _ h => h) rfl (fun w' hw => (by first | exact X.index1n rfl rfl Try.underlying23 sz_3 (by first | exact Option.some_ne_none _ | exact hA) (by omega) | exact X.index1 rfl rfl Try.underlying23 sz_3 (by first | exact Option.some_ne_none _ | exact hA) (by omega))) hS ?_
            refine D.one 17 (by kernel_rfl) rfl ?_
            refine L.storeON rfl rfl (by conv => lhs; whnf) sz_3 (hoX) (by omega) ?_
            intro w5 hoX hg2 hb2 hs2
            have hS1 := trivial
            refine L.nil ?_
            refine ⟨fun _ => hS1, ?_⟩
            replace hG := grb_trans hG hg2
            refine D.va 18 rfl (by kernel_rfl) (fun _ _ _ h => h) rfl (fun w' hw => X.index1eI (j := a + p) rfl rfl (by omega) Try.underlying23 sz_3 hA (by omega)) hS1 ?_
            refine D.one 19 (by kernel_rfl) rfl ?_
            refine L.storeON rfl rfl (by conv => lhs; whnf) sz_3 (hoX) (by omega) ?_
            intro w5 hoX hg2 hb2 hs2
            have hS2 := trivial
            refine L.nil ?_
            refine ⟨fun _ => hS2, ?_⟩
            replace hG := grb_trans hG hg2
            refine D.done (by kernel_rfl) ?_
            refine J.region ?_
            refine L.va rfl (X.move (by conv => lhs; whnf)) ?_
            refine L.va rfl (X.move (by conv => lhs; whnf)) ?_
            refine L.va rfl (X.move (by conv => lhs; whnf)) ?_
            refine L.va rfl (X.move (by conv => lhs; whnf)) ?_
            have hsw : Pr a (a + h) m (swp m a (a + p)) := .step (.refl _) ⟨by omega, by omega⟩ ⟨by omega, by omega⟩ (by omega)
            have c2 := sdownI A n c N 0 p a (swp m a (a + p)) w5 hoX (by omega) hn (Nat.zero_le _) (hO.swap (by omega) (by omega))
            rw [← ep] at c2
            -- callfn slices.siftDownOrdered[int]
            refine L.call rfl en_303 rfl (c2) ?_
            rintro e w6 ⟨rfl, m', M', hH'⟩
            refine ⟨_, rfl, ?_⟩
            refine L.nil ?_
            refine J.region ?_
            refine L.va rfl (X.move (by conv => lhs; whnf)) ?_
            refine L.va rfl (X.sub rfl rfl (by omega)) ?_
            refine L.va rfl (X.assign (by conv => lhs; whnf)) ?_
            refine L.nil ?_
            -- loopend
            refine ⟨(p, m'), At1 (by first | rfl | exact at_int rfl (by omega) | exact at_slice rfl (by omega) | exact at_int rfl (by simp)), (by (iterate 28 refine Agr.lk rfl ?_); exact Agr.lk rfl (Agr.hav rfl Agr.rfl')), ?_⟩
            exact ⟨⟨by omega, ⟨M'.o, grb_trans (grb_trans M.g hG) M'.g, (M.p.trans hsw).trans (M'.p.wide (Nat.le_refl _) (by omega) (by rw [swp_length]; omega))⟩, hO.next (by omega) (by omega) M'.p hH'⟩, by show p < p + 1; omega⟩
        · obtain rfl : p = 0 := by omega
          refine J.exit ?_
          refine thn_exit <| thn_exit <| inB_eq ?_
          -- end
          refine fin0 (.inr rfl) ?_
          exact ⟨rfl, m, M, hO.all⟩
end Go.Proofs.Ytlipeplfjkgamaa
