/-
  Go's slices.Sort at []int, walked: a few exchanges tried.
-/
import Derived.Test.YtlipeplfjkgamaaSrtIE
namespace Go.Proofs.Ytlipeplfjkgamaa
set_option maxRecDepth 100000
open Go.RowKit H
open Srt
set_option linter.unusedVariables false
theorem SwI.up {w w' w'' : World} {A : Option Addr} {n c N a b : Nat} {l m : List Int} (h : SwI w w' A n c N a b l m) (he : Ext w' w'') : SwI w w'' A n c N a b l m := ⟨h.o.ext he, grb_trans h.g (grown_ext he), h.p⟩
theorem SwI.sw {w w' w'' : World} {A : Option Addr} {n c N a b i j : Nat} {l m : List Int} (h : SwI w w' A n c N a b l m) (ho : w''.ownsRow N 3 1 (.slice A n c) n (nums .i64 (swp m i j))) (hg : w'.grownBy w'' (Value.ownBlock (.slice A n c))) (hi : a ≤ i ∧ i < b) (hj : a ≤ j ∧ j < b) (hb : b ≤ m.length) : SwI w w'' A n c N a b l (swp m i j) :=
  ⟨ho, grb_trans h.g hg, .step h.p hi hj hb⟩
theorem partinsI (A : Option Addr) (n c N a b : Nat) (l : List Int) (w : World) (ho : w.ownsRow N 3 1 (.slice A n c) n (nums .i64 l)) (hb : b ≤ n) (hn : n ≤ 900000) (hab : a + 1 ≤ b) (hLo : Lo l a b) :
    Calls Try.prog 292 #[.slice A n c, .int .i64 (a : Int), .int .i64 (b : Int)] w fun e w' => ∃ (l' : List Int) (z : Bool), e = .returned (.bool z) ∧ SwI w w' A n c N a b l l' ∧ (z = true → In l' a b) := by
  have hl : l.length = n := by have := ho.1; simpa [nums] using this
  have hA := (Reads.of_own ho).some_ (by omega)
  refine enter Try.func292 rfl (by kernel_rfl) ?_
  refine J.seq ?_
  refine J.region ?_
  refine L.va rfl (X.assign (by conv => lhs; whnf)) ?_
  refine L.nil ?_
  refine J.seq ?_
  refine J.region ?_
  refine L.va rfl (X.move (by conv => lhs; whnf)) ?_
  refine L.va rfl (X.add rfl rfl (by omega)) ?_
  refine L.va rfl (X.assign (by conv => lhs; whnf)) ?_
  refine L.nil ?_
  refine J.seq ?_
  refine J.seq ?_
  refine J.region ?_
  refine L.va rfl (X.assign (by conv => lhs; whnf)) ?_
  refine L.nil ?_
  refine J.block ?_
  -- loop
  refine J.loop (X := Nat × Nat × List Int) [6, 7, 8, 9, 10, 13, 14, 15, 16, 17, 18, 19, 20, 21, 22, 23, 24, 25, 26, 27, 28, 29, 30, 31, 32, 33, 34, 35, 36, 37, 38, 39, 40, 41, 42, 43, 44, 45, 46, 47, 48, 49, 50, 51, 52, 53, 54, 55, 56, 57, 58, 59, 60, 61, 62, 63, 64, 65, 66, 67, 68, 69, 70, 71, 72, 73, 74, 75, 76, 77, 78, 79, 80, 81, 82, 83, 84, 85, 86, 87, 88, 89, 90, 91, 92, 93, 94, 95, 96, 97, 98, 99, 100, 101, 102, 103, 104, 105, 106, 107, 108, 109, 110, 111, 112, 113, 114, 115, 116, 117, 118, 119, 120, 121, 122, 123, 124, 125, 126, 127, 128, 129, 130, 131, 132] (fun (i, q, m) => [(7, .int .i64 (i : Int)), (8, .int .i64 (q : Int))]) (fun (i, q, m) w' => a + 1 ≤ i ∧ i ≤ b ∧ q ≤ 5 ∧ SwI w w' A n c N a b l m ∧ In m a i) (fun (_, q, _) => 5 - q) ((a + 1, 0, l)) (At2 (by first | rfl | exact at_int rfl (by omega) | exact at_slice rfl (by omega) | exact at_int rfl (by simp)) (by first | rfl | exact at_int rfl (by omega) | exact at_slice rfl (by omega) | exact at_int rfl (by simp))) ?_ ?_
  · exact ⟨Nat.le_refl _, hab, by omega, ⟨ho, grown_ext (Ext.refl _), .refl _⟩, In.tiny (Nat.le_refl _)⟩
  · rintro ⟨i, q, m⟩ g w2 ⟨h1, h2, hq5, M, hI⟩
    have hml : m.length = n := by rw [M.p.len, hl]
    refine J.seq ?_
    refine J.seq ?_
    refine J.region ?_
    refine L.va rfl (X.move (by conv => lhs; whnf)) ?_
    refine L.va rfl (X.lss rfl rfl) ?_
    refine L.nil ?_
    -- cond
    refine J.dec rfl (fun hlt => ?_) (fun hlt => ?_)
    · refine J.skip ?_
      -- until
      refine J.cut (X := Nat × List Int) [6, 7, 9, 10, 17, 18, 19, 20, 21, 22, 23, 24, 25, 26, 27, 28, 29, 30, 31, 32, 33, 34, 35, 36, 37, 38, 39, 40, 41, 42, 43, 44, 45, 46, 47, 48, 49, 50, 51, 52, 53, 54, 55, 56, 57, 58, 59, 60, 61, 62, 63, 64, 65, 66, 67, 68, 69, 70, 71, 72, 73, 74, 75, 76, 77, 78, 79, 80, 81, 82, 83, 84, 85, 86, 87, 88, 89, 90, 91, 92, 93, 94, 95, 96, 97, 98, 99, 100, 101, 102, 103, 104, 105, 106, 107, 108, 109, 110, 111, 112, 113, 114, 115, 116, 117, 118, 119, 120, 121, 122, 123, 124, 125, 126, 127, 128, 129, 130, 131, 132] (fun (i, m) => [(7, .int .i64 (i : Int))]) (fun (i, m) w' => a + 1 ≤ i ∧ i ≤ b ∧ SwI w w' A n c N a b l m ∧ In m a i) ?_ ?_
      · refine J.block ?_
        -- until
        refine J.cut (X := Nat) [7, 17, 18, 19, 20, 21, 22, 23, 24, 25, 26, 27, 28, 29, 30, 31, 32, 33, 34] (fun i => [(7, .int .i64 (i : Int))]) (fun i w' => a + 1 ≤ i ∧ i ≤ b ∧ In m a i ∧ (i < b → m.getD i 0 < m.getD (i - 1) 0) ∧ Ext w2 w') ?_ ?_
        · refine J.block ?_
          -- loop
          refine J.loop (X := Nat) [7, 17, 18, 19, 20, 21, 22, 23, 24, 25, 26, 27, 28, 29, 30, 31, 32, 33, 34] (fun i => [(7, .int .i64 (i : Int))]) (fun i w' => a + 1 ≤ i ∧ i ≤ b ∧ In m a i ∧ Ext w2 w') (fun i => b - i) (i) (At1 (by first | rfl | exact at_int rfl (by omega) | exact at_slice rfl (by omega) | exact at_int rfl (by simp))) ?_ ?_
          · exact ⟨h1, h2, hI, Ext.refl _⟩
          · rintro i g w3 ⟨h1, h2, hI, he⟩
            have hr := Reads.of_own (M.o.ext he)
            -- t28
            refine J.seq ?_
            refine J.seq ?_
            -- draw
            refine J.quiet mixed (by kernel_rfl) ?_
            refine Qt.va rfl (fun w' hw => X.move (by conv => lhs; whnf)) ?_
            refine Qt.va rfl (fun w' hw => X.move (by conv => lhs; whnf)) ?_
            refine Qt.va rfl (fun w' hw => X.lss rfl rfl) ?_
            refine Qt.va rfl (fun w' hw => X.move (by conv => lhs; whnf)) ?_
            -- case t20
            refine Qt.caseDec (k := 20) rfl (fun hib => ?_) (fun hib => ?_)
            · refine Qt.va rfl (fun w' hw => X.move (by conv => lhs; whnf)) ?_
              refine Qt.va rfl (fun w' hw => X.move (by conv => lhs; whnf)) ?_
              refine Qt.va rfl (fun w' hw => (by first | exact X.index1n rfl rfl Try.underlying23 sz_3 (by first | exact Option.some_ne_none _ | exact hr.some_ (by omega) | exact hA) (by omega) | exact X.index1 rfl rfl Try.underlying23 sz_3 (by first | exact Option.some_ne_none _ | exact hr.some_ (by omega) | exact hA) (by omega))) ?_
              refine Qt.va rfl (fun w' hw => X.load rfl sc_3 (by first | exact Ld.num (hr.ext hw) (by omega) | exact hA)) ?_
              refine Qt.va rfl (fun w' hw => X.move (by conv => lhs; whnf)) ?_
              refine Qt.va rfl (fun w' hw => X.move (by conv => lhs; whnf)) ?_
              refine Qt.va rfl (fun w' hw => X.sub rfl rfl (by omega)) ?_
              refine Qt.va rfl (fun w' hw => X.index1eI (j := i - 1) rfl rfl (by omega) Try.underlying23 sz_3 hA (by omega)) ?_
              refine Qt.va rfl (fun w' hw => X.load rfl sc_3 (by first | exact Ld.num (hr.ext hw) (by omega) | exact hA)) ?_
              -- callfn cmp.Less[int]
              refine Qt.call rfl en_293 rfl (fun w' hw => calls_same hw (clessI (m.getD i 0) (m.getD (i - 1) 0) w')) ?_
              refine Qt.va rfl (fun w' hw => X.not rfl) ?_
              refine Qt.va rfl (fun w' hw => X.pickT rfl (by conv => lhs; whnf)) ?_
              refine Qt.nil (fun w4 hq => ?_)
              -- cond
              by_cases hd : m.getD i 0 < m.getD (i - 1) 0
              · rw [decide_eq_true hd]
                refine J.iteF rfl ?_
                refine J.exit ?_
                -- cutend
                refine ⟨i, At1 (by first | rfl | exact at_int rfl (by omega) | exact at_slice rfl (by omega) | exact at_int rfl (by simp)), (by (iterate 17 refine Agr.lk rfl ?_); refine Agr.lk rfl ?_; refine Agr.hav rfl ?_; exact Agr.rfl'), ?_⟩
                exact ⟨h1, h2, hI, (fun _ => hd), he.trans hq⟩
              · rw [decide_eq_false hd]
                refine J.iteT rfl ?_
                refine J.skip ?_
                refine J.block ?_
                refine J.region ?_
                refine L.va rfl (X.move (by conv => lhs; whnf)) ?_
                refine L.va rfl (X.add rfl rfl (by omega)) ?_
                refine L.va rfl (X.assign (by conv => lhs; whnf)) ?_
                refine L.nil ?_
                -- loopend
                refine ⟨i + 1, At1 (by first | rfl | exact at_int rfl (by omega) | exact at_slice rfl (by omega) | exact at_int rfl (by simp)), (by (iterate 20 refine Agr.lk rfl ?_); exact Agr.lk rfl (Agr.hav rfl Agr.rfl')), ?_⟩
                refine ⟨⟨by omega, by omega, fun p q k1 k2 k3 => ?_, he.trans hq⟩, by omega⟩
                by_cases e : q = i
                · subst e
                  by_cases e2 : p = q - 1
                  · rw [e2]; omega
                  · exact Int.le_trans (hI p (q - 1) k1 (by omega) (by omega)) (by omega)
                · exact hI p q k1 k2 (by omega)
            · skip
              refine Qt.no rfl ?_
              refine Qt.no rfl ?_
              refine Qt.no rfl ?_
              refine Qt.no rfl ?_
              refine Qt.no rfl ?_
              refine Qt.no rfl ?_
              refine Qt.no rfl ?_
              refine Qt.no rfl ?_
              refine Qt.no rfl ?_
              refine Qt.no rfl ?_
              refine Qt.no rfl ?_
              refine Qt.va rfl (fun w' hw => X.pickF rfl (by conv => lhs; whnf)) ?_
              refine Qt.nil (fun w4 hq => ?_)
              -- cond
              refine J.iteF rfl ?_
              refine J.exit ?_
              -- cutend
              refine ⟨i, At1 (by first | rfl | exact at_int rfl (by omega) | exact at_slice rfl (by omega) | exact at_int rfl (by simp)), (by (iterate 17 refine Agr.lk rfl ?_); refine Agr.lk rfl ?_; refine Agr.hav rfl ?_; exact Agr.rfl'), ?_⟩
              exact ⟨h1, h2, hI, (fun h => absurd h (by omega)), he.trans hq⟩
        · rintro i g w5 ⟨h1, h2, hI, hst, he5⟩
          replace M := M.up he5
          refine J.seq ?_
          refine J.seq ?_
          refine J.region ?_
          refine L.va rfl (X.move (by conv => lhs; whnf)) ?_
          refine L.va rfl (X.move (by conv => lhs; whnf)) ?_
          refine L.va rfl (X.eql rfl rfl) ?_
          refine L.nil ?_
          -- cond
          refine J.dec rfl (fun heq => ?_) (fun heq => ?_)
          · obtain rfl : i = b := by omega
            refine J.seq ?_
            refine J.region ?_
            refine L.va rfl (X.assign (by conv => lhs; whnf)) ?_
            refine L.nil ?_
            -- ret
            refine J.ret ?_
            refine thn_ret <|  inB_ret <|  thn_ret <|  thn_ret <|  inB_ret <|  thn_ret <| ?_
            refine fin1 ?_
            exact ⟨m, true, rfl, M, fun _ => hI⟩
          · have hst := hst (by omega)
            refine J.skip ?_
            refine J.seq ?_
            refine J.seq ?_
            refine J.region ?_
            refine L.va rfl (X.move (by conv => lhs; whnf)) ?_
            refine L.va rfl (X.move (by conv => lhs; whnf)) ?_
            refine L.va rfl (X.sub rfl rfl (by omega)) ?_
            refine L.va rfl (X.lss rfl rfl) ?_
            refine L.nil ?_
            -- cond
            refine J.dec rfl (fun h50 => ?_) (fun h50 => ?_)
            · refine J.seq ?_
              refine J.region ?_
              refine L.va rfl (X.assign (by conv => lhs; whnf)) ?_
              refine L.nil ?_
              -- ret
              refine J.ret ?_
              refine thn_ret <|  inB_ret <|  thn_ret <|  thn_ret <|  inB_ret <|  thn_ret <| ?_
              refine fin1 ?_
              exact ⟨m, false, rfl, M, fun h => by cases h⟩
            · obtain ⟨i, rfl⟩ : ∃ i', i = i' + 1 := ⟨i - 1, by omega⟩
              have HO := M.o
              refine J.skip ?_
              -- until
              refine J.cut (X := List Int) [42, 43, 44, 45, 46, 47, 48, 49, 50, 51, 52, 53, 54, 55, 56, 57] (fun m => [(7, .int .i64 ((i + 1 : Nat) : Int))]) (fun m w' => SwI w w' A n c N a b l m ∧ InBut m a i i) ?_ ?_
              · skip
                -- t50
                -- t57
                -- draw
                refine J.draw (ℓ := 1000000) (S := (fun _ => True)) mixed (fun w6d hSE hS_h => ?_)
                have hS : ((fun _ => True)) w6d := trivial
                have hrw6 := (Reads.of_own HO).ext hSE
                have hoX := HO.ext hSE
                have hG : w5.grownBy w6d (Value.ownBlock (.slice A n c)) := grown_ext hSE
                refine D.va 0 rfl (by kernel_rfl) (fun _ _ _ h => h) rfl (fun w' hw => X.move (by conv => lhs; whnf)) hS ?_
                refine D.va 1 rfl (by kernel_rfl) (fun _ _ _ h => h) rfl (fun w' hw => X.move (by conv => lhs; whnf)) hS ?_
                refine D.va 2 rfl (by kernel_rfl) (fun _ _ _ h => h) rfl (fun w' hw => X.move (by conv => lhs; whnf)) hS ?_
                refine D.va 3 rfl (by kernel_rfl) (fun _ _ _ h => h) rfl (fun w' hw => X.move (by conv => lhs; whnf)) hS ?_
                refine D.va 4 rfl (by kernel_rfl) (fun _ _ _ h => h) rfl (fun w' hw => X.sub rfl rfl (by omega)) hS ?_
                refine D.va 5 rfl (by kernel_rfl) (fun _ _ _ h => h) rfl (fun w' hw => X.move (by conv => lhs; whnf)) hS ?_
                refine D.va 6 rfl (by kernel_rfl) (fun _ _ _ h => h) rfl (fun w' hw => X.move (by conv => lhs; whnf)) hS ?_
                refine D.va 7 rfl (by kernel_rfl) (fun _ _ _ h => h) rfl (fun w' hw => X.sub rfl rfl (by omega)) hS ?_
                refine D.va 8 rfl (by kernel_rfl) (fun _ _ _ h => h) rfl (fun w' hw => X.index1eI (j := i) rfl rfl (by omega) Try.underlying23 sz_3 hA (by omega)) hS ?_
                refine D.va 10 rfl (by kernel_rfl) (fun _ _ _ h => h) rfl (fun w' hw => X.move (by conv => lhs; whnf)) hS ?_
                refine D.va 11 rfl (by kernel_rfl) (fun _ _ _ h => h) rfl (fun w' hw => X.move (by conv => lhs; whnf)) hS ?_
                refine D.va 12 rfl (by kernel_rfl) (fun _ _ _ h => h) rfl (fun w' hw => (by first | exact X.index1n rfl rfl Try.underlying23 sz_3 (by first | exact Option.some_ne_none _ | exact hA) (by omega) | exact X.index1 rfl rfl Try.underlying23 sz_3 (by first | exact Option.some_ne_none _ | exact hA) (by omega))) hS ?_
                refine D.two 9 13 (by kernel_rfl) rfl rfl ?_ ?_
                · refine L.va rfl (X.load rfl sc_3 (Ld.num hrw6 (j := i) (by omega))) ?_
                  refine L.nil ?_
                  refine ⟨fun _ => hS, ?_⟩
                  refine D.one 13 (by kernel_rfl) rfl ?_
                  refine L.va rfl (X.load rfl sc_3 (Ld.num hrw6 (j := i + 1) (by omega))) ?_
                  refine L.nil ?_
                  refine ⟨fun _ => hS, ?_⟩
                  refine D.va 14 rfl (by kernel_rfl) (fun _ _ _ h => h) rfl (fun w' hw => (by first | exact X.index1n rfl rfl Try.underlying23 sz_3 (by first | exact Option.some_ne_none _ | exact hA) (by omega) | exact X.index1 rfl rfl Try.underlying23 sz_3 (by first | exact Option.some_ne_none _ | exact hA) (by omega))) hS ?_
                  refine D.one 15 (by kernel_rfl) rfl ?_
                  refine L.storeON rfl rfl (by conv => lhs; whnf) sz_3 (hoX) (by omega) ?_
                  intro w6 hoX hg2 hb2 hs2
                  have hS1 := trivial
                  refine L.nil ?_
                  refine ⟨fun _ => hS1, ?_⟩
                  replace hG := grb_trans hG hg2
                  refine D.va 16 rfl (by kernel_rfl) (fun _ _ _ h => h) rfl (fun w' hw => X.index1eI (j := i) rfl rfl (by omega) Try.underlying23 sz_3 hA (by omega)) hS1 ?_
                  refine D.one 17 (by kernel_rfl) rfl ?_
                  refine L.storeON rfl rfl (by conv => lhs; whnf) sz_3 (hoX) (by omega) ?_
                  intro w6 hoX hg2 hb2 hs2
                  have hS2 := trivial
                  refine L.nil ?_
                  refine ⟨fun _ => hS2, ?_⟩
                  replace hG := grb_trans hG hg2
                  refine D.done (by kernel_rfl) ?_
                  refine ⟨swp m (i + 1) i, At1 (by first | rfl | exact at_int rfl (by omega) | exact at_slice rfl (by omega) | exact at_int rfl (by simp)), (by (iterate 16 refine Agr.lk rfl ?_); exact Agr.rfl'), ?_⟩
                  exact ⟨M.sw hoX hG ⟨by omega, by omega⟩ ⟨by omega, by omega⟩ (by omega), hI.but (by omega)⟩
                · refine L.va rfl (X.load rfl sc_3 (Ld.num hrw6 (j := i + 1) (by omega))) ?_
                  refine L.nil ?_
                  refine ⟨fun _ => hS, ?_⟩
                  refine D.one 9 (by kernel_rfl) rfl ?_
                  refine L.va rfl (X.load rfl sc_3 (Ld.num hrw6 (j := i) (by omega))) ?_
                  refine L.nil ?_
                  refine ⟨fun _ => hS, ?_⟩
                  refine D.va 14 rfl (by kernel_rfl) (fun _ _ _ h => h) rfl (fun w' hw => (by first | exact X.index1n rfl rfl Try.underlying23 sz_3 (by first | exact Option.some_ne_none _ | exact hA) (by omega) | exact X.index1 rfl rfl Try.underlying23 sz_3 (by first | exact Option.some_ne_none _ | exact hA) (by omega))) hS ?_
                  refine D.one 15 (by kernel_rfl) rfl ?_
                  refine L.storeON rfl rfl (by conv => lhs; whnf) sz_3 (hoX) (by omega) ?_
                  intro w6 hoX hg2 hb2 hs2
                  have hS1 := trivial
                  refine L.nil ?_
                  refine ⟨fun _ => hS1, ?_⟩
                  replace hG := grb_trans hG hg2
                  refine D.va 16 rfl (by kernel_rfl) (fun _ _ _ h => h) rfl (fun w' hw => X.index1eI (j := i) rfl rfl (by omega) Try.underlying23 sz_3 hA (by omega)) hS1 ?_
                  refine D.one 17 (by kernel_rfl) rfl ?_
                  refine L.storeON rfl rfl (by conv => lhs; whnf) sz_3 (hoX) (by omega) ?_
                  intro w6 hoX hg2 hb2 hs2
                  have hS2 := trivial
                  refine L.nil ?_
                  refine ⟨fun _ => hS2, ?_⟩
                  replace hG := grb_trans hG hg2
                  refine D.done (by kernel_rfl) ?_
                  refine ⟨swp m (i + 1) i, At1 (by first | rfl | exact at_int rfl (by omega) | exact at_slice rfl (by omega) | exact at_int rfl (by simp)), (by (iterate 16 refine Agr.lk rfl ?_); exact Agr.rfl'), ?_⟩
                  exact ⟨M.sw hoX hG ⟨by omega, by omega⟩ ⟨by omega, by omega⟩ (by omega), hI.but (by omega)⟩
              · rintro m g w7 ⟨M, hB⟩
                have hml : m.length = n := by rw [M.p.len, hl]
                -- until
                refine J.cut (X := List Int) [9, 58, 59, 60, 61, 62, 63, 64, 65, 66, 67, 68, 69, 70, 71, 72, 73, 74, 75, 76, 77, 78, 79, 80, 81, 82, 83, 84, 85, 86, 87, 88, 89, 90, 91, 92, 93, 94] (fun m => [(7, .int .i64 ((i + 1 : Nat) : Int))]) (fun m w' => SwI w w' A n c N a b l m ∧ In m a (i + 1)) ?_ ?_
                · refine J.seq ?_
                  refine J.region ?_
                  refine L.va rfl (X.move (by conv => lhs; whnf)) ?_
                  refine L.va rfl (X.move (by conv => lhs; whnf)) ?_
                  refine L.va rfl (X.sub rfl rfl (by omega)) ?_
                  refine L.va rfl (X.geq rfl rfl) ?_
                  refine L.nil ?_
                  -- cond
                  refine J.dec rfl (fun hi2 => ?_) (fun hi2 => ?_)
                  · refine J.seq ?_
                    refine J.region ?_
                    refine L.va rfl (X.move (by conv => lhs; whnf)) ?_
                    refine L.va rfl (X.sub rfl rfl (by omega)) ?_
                    refine L.va rfl (X.assign (by conv => lhs; whnf)) ?_
                    refine L.nil ?_
                    refine J.block ?_
                    -- loop
                    rw [show ((i + 1 : Nat) : Int) - 1 = (i : Int) by omega]
                    -- loop
                    refine J.loop (X := Nat × List Int) [9, 64, 65, 66, 67, 68, 69, 70, 71, 72, 73, 74, 75, 76, 77, 78, 79, 80, 81, 82, 83, 84, 85, 86, 87, 88, 89, 90, 91, 92, 93, 94] (fun (j, m) => [(9, .int .i64 (j : Int))]) (fun (j, m) w' => a ≤ j ∧ j ≤ i ∧ SwI w w' A n c N a b l m ∧ InBut m a i j) (fun (j, _) => j) ((i, m)) (At1 (by first | rfl | exact at_int rfl (by omega) | exact at_slice rfl (by omega) | exact at_int rfl (by simp))) ?_ ?_
                    · exact ⟨by omega, Nat.le_refl _, M, hB⟩
                    · rintro ⟨j, m⟩ g w8 ⟨j1, j2, M, hB⟩
                      have hml : m.length = n := by rw [M.p.len, hl]
                      have hr := Reads.of_own M.o
                      have hlo := hLo.keep M.p
                      refine J.seq ?_
                      refine J.seq ?_
                      refine J.region ?_
                      refine L.va rfl (X.move (by conv => lhs; whnf)) ?_
                      refine L.va rfl (X.geq rfl rfl) ?_
                      refine L.nil ?_
                      -- cond
                      refine J.dec rfl (fun hj1 => ?_) (fun hj1 => ?_)
                      · skip
                        -- t75
                        refine J.skip ?_
                        refine J.seq ?_
                        refine J.block ?_
                        refine J.seq ?_
                        refine J.seq ?_
                        -- draw
                        refine J.quiet mixed (by kernel_rfl) ?_
                        refine Qt.va rfl (fun w' hw => X.move (by conv => lhs; whnf)) ?_
                        refine Qt.va rfl (fun w' hw => X.move (by conv => lhs; whnf)) ?_
                        refine Qt.va rfl (fun w' hw => (by first | exact X.index1n rfl rfl Try.underlying23 sz_3 (by first | exact Option.some_ne_none _ | exact hr.some_ (by omega) | exact hA) (by omega) | exact X.index1 rfl rfl Try.underlying23 sz_3 (by first | exact Option.some_ne_none _ | exact hr.some_ (by omega) | exact hA) (by omega))) ?_
                        refine Qt.va rfl (fun w' hw => X.load rfl sc_3 (by first | exact Ld.num (hr.ext hw) (by omega) | exact hA)) ?_
                        refine Qt.va rfl (fun w' hw => X.move (by conv => lhs; whnf)) ?_
                        refine Qt.va rfl (fun w' hw => X.move (by conv => lhs; whnf)) ?_
                        refine Qt.va rfl (fun w' hw => X.sub rfl rfl (by omega)) ?_
                        refine Qt.va rfl (fun w' hw => X.index1eI (j := j - 1) rfl rfl (by omega) Try.underlying23 sz_3 hA (by omega)) ?_
                        refine Qt.va rfl (fun w' hw => X.load rfl sc_3 (by first | exact Ld.num (hr.ext hw) (by omega) | exact hA)) ?_
                        -- callfn cmp.Less[int]
                        refine Qt.call rfl en_293 rfl (fun w' hw => calls_same hw (clessI (m.getD j 0) (m.getD (j - 1) 0) w')) ?_
                        refine Qt.va rfl (fun w' hw => X.not rfl) ?_
                        refine Qt.nil (fun w9 hq => ?_)
                        -- cond
                        have M9 := M.up hq
                        have HO := M9.o
                        by_cases hd : m.getD j 0 < m.getD (j - 1) 0
                        · rw [decide_eq_true hd]
                          have hja : a < j := by
                            rcases Nat.lt_or_ge a j with h | h
                            · exact h
                            · obtain rfl : j = a := by omega
                              have := hlo (by omega) j (Nat.le_refl _) (by omega)
                              omega
                          obtain ⟨j, rfl⟩ : ∃ j', j = j' + 1 := ⟨j - 1, by omega⟩
                          rw [Nat.add_sub_cancel] at hd
                          refine J.iteF rfl ?_
                          -- t87
                          -- t94
                          refine J.skip ?_
                          -- draw
                          refine J.draw (ℓ := 1000000) (S := (fun _ => True)) mixed (fun w10d hSE hS_h => ?_)
                          have hS : ((fun _ => True)) w10d := trivial
                          have hrw10 := (Reads.of_own HO).ext hSE
                          have hoX := HO.ext hSE
                          have hG : w9.grownBy w10d (Value.ownBlock (.slice A n c)) := grown_ext hSE
                          refine D.va 0 rfl (by kernel_rfl) (fun _ _ _ h => h) rfl (fun w' hw => X.move (by conv => lhs; whnf)) hS ?_
                          refine D.va 1 rfl (by kernel_rfl) (fun _ _ _ h => h) rfl (fun w' hw => X.move (by conv => lhs; whnf)) hS ?_
                          refine D.va 2 rfl (by kernel_rfl) (fun _ _ _ h => h) rfl (fun w' hw => X.move (by conv => lhs; whnf)) hS ?_
                          refine D.va 3 rfl (by kernel_rfl) (fun _ _ _ h => h) rfl (fun w' hw => X.move (by conv => lhs; whnf)) hS ?_
                          refine D.va 4 rfl (by kernel_rfl) (fun _ _ _ h => h) rfl (fun w' hw => X.sub rfl rfl (by omega)) hS ?_
                          refine D.va 5 rfl (by kernel_rfl) (fun _ _ _ h => h) rfl (fun w' hw => X.move (by conv => lhs; whnf)) hS ?_
                          refine D.va 6 rfl (by kernel_rfl) (fun _ _ _ h => h) rfl (fun w' hw => X.move (by conv => lhs; whnf)) hS ?_
                          refine D.va 7 rfl (by kernel_rfl) (fun _ _ _ h => h) rfl (fun w' hw => X.sub rfl rfl (by omega)) hS ?_
                          refine D.va 8 rfl (by kernel_rfl) (fun _ _ _ h => h) rfl (fun w' hw => X.index1eI (j := j) rfl rfl (by omega) Try.underlying23 sz_3 hA (by omega)) hS ?_
                          refine D.va 10 rfl (by kernel_rfl) (fun _ _ _ h => h) rfl (fun w' hw => X.move (by conv => lhs; whnf)) hS ?_
                          refine D.va 11 rfl (by kernel_rfl) (fun _ _ _ h => h) rfl (fun w' hw => X.move (by conv => lhs; whnf)) hS ?_
                          refine D.va 12 rfl (by kernel_rfl) (fun _ _ _ h => h) rfl (fun w' hw => (by first | exact X.index1n rfl rfl Try.underlying23 sz_3 (by first | exact Option.some_ne_none _ | exact hA) (by omega) | exact X.index1 rfl rfl Try.underlying23 sz_3 (by first | exact Option.some_ne_none _ | exact hA) (by omega))) hS ?_
                          refine D.two 9 13 (by kernel_rfl) rfl rfl ?_ ?_
                          · refine L.va rfl (X.load rfl sc_3 (Ld.num hrw10 (j := j) (by omega))) ?_
                            refine L.nil ?_
                            refine ⟨fun _ => hS, ?_⟩
                            refine D.one 13 (by kernel_rfl) rfl ?_
                            refine L.va rfl (X.load rfl sc_3 (Ld.num hrw10 (j := j + 1) (by omega))) ?_
                            refine L.nil ?_
                            refine ⟨fun _ => hS, ?_⟩
                            refine D.va 14 rfl (by kernel_rfl) (fun _ _ _ h => h) rfl (fun w' hw => (by first | exact X.index1n rfl rfl Try.underlying23 sz_3 (by first | exact Option.some_ne_none _ | exact hA) (by omega) | exact X.index1 rfl rfl Try.underlying23 sz_3 (by first | exact Option.some_ne_none _ | exact hA) (by omega))) hS ?_
                            refine D.one 15 (by kernel_rfl) rfl ?_
                            refine L.storeON rfl rfl (by conv => lhs; whnf) sz_3 (hoX) (by omega) ?_
                            intro w10 hoX hg2 hb2 hs2
                            have hS1 := trivial
                            refine L.nil ?_
                            refine ⟨fun _ => hS1, ?_⟩
                            replace hG := grb_trans hG hg2
                            refine D.va 16 rfl (by kernel_rfl) (fun _ _ _ h => h) rfl (fun w' hw => X.index1eI (j := j) rfl rfl (by omega) Try.underlying23 sz_3 hA (by omega)) hS1 ?_
                            refine D.one 17 (by kernel_rfl) rfl ?_
                            refine L.storeON rfl rfl (by conv => lhs; whnf) sz_3 (hoX) (by omega) ?_
                            intro w10 hoX hg2 hb2 hs2
                            have hS2 := trivial
                            refine L.nil ?_
                            refine ⟨fun _ => hS2, ?_⟩
                            replace hG := grb_trans hG hg2
                            refine D.done (by kernel_rfl) ?_
                            refine J.region ?_
                            refine L.va rfl (X.move (by conv => lhs; whnf)) ?_
                            refine L.va rfl (X.sub rfl rfl (by omega)) ?_
                            refine L.va rfl (X.assign (by conv => lhs; whnf)) ?_
                            refine L.nil ?_
                            -- loopend
                            refine ⟨(j, swp m (j + 1) j), At1 (by first | rfl | exact at_int rfl (by omega) | exact at_slice rfl (by omega) | exact at_int rfl (by simp)), (by (iterate 32 refine Agr.lk rfl ?_); exact Agr.lk rfl (Agr.hav rfl Agr.rfl')), ?_⟩
                            exact ⟨⟨by omega, by omega, M9.sw hoX hG ⟨by omega, by omega⟩ ⟨by omega, by omega⟩ (by omega), hB.step (by omega) j2 (by omega) hd⟩, by show j < j + 1; omega⟩
                          · refine L.va rfl (X.load rfl sc_3 (Ld.num hrw10 (j := j + 1) (by omega))) ?_
                            refine L.nil ?_
                            refine ⟨fun _ => hS, ?_⟩
                            refine D.one 9 (by kernel_rfl) rfl ?_
                            refine L.va rfl (X.load rfl sc_3 (Ld.num hrw10 (j := j) (by omega))) ?_
                            refine L.nil ?_
                            refine ⟨fun _ => hS, ?_⟩
                            refine D.va 14 rfl (by kernel_rfl) (fun _ _ _ h => h) rfl (fun w' hw => (by first | exact X.index1n rfl rfl Try.underlying23 sz_3 (by first | exact Option.some_ne_none _ | exact hA) (by omega) | exact X.index1 rfl rfl Try.underlying23 sz_3 (by first | exact Option.some_ne_none _ | exact hA) (by omega))) hS ?_
                            refine D.one 15 (by kernel_rfl) rfl ?_
                            refine L.storeON rfl rfl (by conv => lhs; whnf) sz_3 (hoX) (by omega) ?_
                            intro w10 hoX hg2 hb2 hs2
                            have hS1 := trivial
                            refine L.nil ?_
                            refine ⟨fun _ => hS1, ?_⟩
                            replace hG := grb_trans hG hg2
                            refine D.va 16 rfl (by kernel_rfl) (fun _ _ _ h => h) rfl (fun w' hw => X.index1eI (j := j) rfl rfl (by omega) Try.underlying23 sz_3 hA (by omega)) hS1 ?_
                            refine D.one 17 (by kernel_rfl) rfl ?_
                            refine L.storeON rfl rfl (by conv => lhs; whnf) sz_3 (hoX) (by omega) ?_
                            intro w10 hoX hg2 hb2 hs2
                            have hS2 := trivial
                            refine L.nil ?_
                            refine ⟨fun _ => hS2, ?_⟩
                            replace hG := grb_trans hG hg2
                            refine D.done (by kernel_rfl) ?_
                            refine J.region ?_
                            refine L.va rfl (X.move (by conv => lhs; whnf)) ?_
                            refine L.va rfl (X.sub rfl rfl (by omega)) ?_
                            refine L.va rfl (X.assign (by conv => lhs; whnf)) ?_
                            refine L.nil ?_
                            -- loopend
                            refine ⟨(j, swp m (j + 1) j), At1 (by first | rfl | exact at_int rfl (by omega) | exact at_slice rfl (by omega) | exact at_int rfl (by simp)), (by (iterate 32 refine Agr.lk rfl ?_); exact Agr.lk rfl (Agr.hav rfl Agr.rfl')), ?_⟩
                            exact ⟨⟨by omega, by omega, M9.sw hoX hG ⟨by omega, by omega⟩ ⟨by omega, by omega⟩ (by omega), hB.step (by omega) j2 (by omega) hd⟩, by show j < j + 1; omega⟩
                        · rw [decide_eq_false hd]
                          refine J.iteT rfl ?_
                          refine J.exit ?_
                          -- cutend
                          refine ⟨m, At1 (by first | rfl | exact at_int rfl (by omega) | exact at_slice rfl (by omega) | exact at_int rfl (by simp)), (by (iterate 13 refine Agr.lk rfl ?_); refine Agr.lk rfl ?_; refine Agr.hav rfl ?_; (iterate 7 refine Agr.lk rfl ?_); exact Agr.rfl'), ?_⟩
                          exact ⟨M9, hB.stop j2 (.inr (by omega))⟩
                      · refine J.exit ?_
                        -- cutend
                        refine ⟨m, At1 (by first | rfl | exact at_int rfl (by omega) | exact at_slice rfl (by omega) | exact at_int rfl (by simp)), (by (iterate 2 refine Agr.lk rfl ?_); refine Agr.lk rfl ?_; refine Agr.hav rfl ?_; (iterate 7 refine Agr.lk rfl ?_); exact Agr.rfl'), ?_⟩
                        exact ⟨M, hB.stop j2 (.inl (by omega))⟩
                  · refine J.skip ?_
                    -- cutend
                    refine ⟨m, At1 (by first | rfl | exact at_int rfl (by omega) | exact at_slice rfl (by omega) | exact at_int rfl (by simp)), (by (iterate 4 refine Agr.lk rfl ?_); exact Agr.rfl'), ?_⟩
                    exact ⟨M, In.tiny (by omega)⟩
                · rintro m g w11 ⟨M, hI⟩
                  have hml : m.length = n := by rw [M.p.len, hl]
                  refine J.seq ?_
                  refine J.region ?_
                  refine L.va rfl (X.move (by conv => lhs; whnf)) ?_
                  refine L.va rfl (X.move (by conv => lhs; whnf)) ?_
                  refine L.va rfl (X.sub rfl rfl (by omega)) ?_
                  refine L.va rfl (X.geq rfl rfl) ?_
                  refine L.nil ?_
                  -- cond
                  refine J.dec rfl (fun hb2 => ?_) (fun hb2 => ?_)
                  · refine J.seq ?_
                    refine J.region ?_
                    refine L.va rfl (X.move (by conv => lhs; whnf)) ?_
                    refine L.va rfl (X.add rfl rfl (by omega)) ?_
                    refine L.va rfl (X.assign (by conv => lhs; whnf)) ?_
                    refine L.nil ?_
                    refine J.block ?_
                    -- loop
                    refine J.loop (X := Nat × List Int) [10, 101, 102, 103, 104, 105, 106, 107, 108, 109, 110, 111, 112, 113, 114, 115, 116, 117, 118, 119, 120, 121, 122, 123, 124, 125, 126, 127, 128, 129, 130, 131, 132] (fun (j, m) => [(10, .int .i64 (j : Int))]) (fun (j, m) w' => i + 2 ≤ j ∧ j ≤ b ∧ SwI w w' A n c N a b l m ∧ In m a (i + 1)) (fun (j, _) => b - j) ((i + 2, m)) (At1 (by first | rfl | exact at_int rfl (by omega) | exact at_slice rfl (by omega) | exact at_int rfl (by simp))) ?_ ?_
                    · exact ⟨Nat.le_refl _, by omega, M, hI⟩
                    · rintro ⟨j, m⟩ g w12 ⟨j1, j2, M, hI⟩
                      have hml : m.length = n := by rw [M.p.len, hl]
                      have hr := Reads.of_own M.o
                      refine J.seq ?_
                      refine J.seq ?_
                      refine J.region ?_
                      refine L.va rfl (X.move (by conv => lhs; whnf)) ?_
                      refine L.va rfl (X.move (by conv => lhs; whnf)) ?_
                      refine L.va rfl (X.lss rfl rfl) ?_
                      refine L.nil ?_
                      -- cond
                      refine J.dec rfl (fun hjb => ?_) (fun hjb => ?_)
                      · skip
                        -- t113
                        refine J.skip ?_
                        refine J.seq ?_
                        refine J.block ?_
                        refine J.seq ?_
                        refine J.seq ?_
                        -- draw
                        refine J.quiet mixed (by kernel_rfl) ?_
                        refine Qt.va rfl (fun w' hw => X.move (by conv => lhs; whnf)) ?_
                        refine Qt.va rfl (fun w' hw => X.move (by conv => lhs; whnf)) ?_
                        refine Qt.va rfl (fun w' hw => (by first | exact X.index1n rfl rfl Try.underlying23 sz_3 (by first | exact Option.some_ne_none _ | exact hr.some_ (by omega) | exact hA) (by omega) | exact X.index1 rfl rfl Try.underlying23 sz_3 (by first | exact Option.some_ne_none _ | exact hr.some_ (by omega) | exact hA) (by omega))) ?_
                        refine Qt.va rfl (fun w' hw => X.load rfl sc_3 (by first | exact Ld.num (hr.ext hw) (by omega) | exact hA)) ?_
                        refine Qt.va rfl (fun w' hw => X.move (by conv => lhs; whnf)) ?_
                        refine Qt.va rfl (fun w' hw => X.move (by conv => lhs; whnf)) ?_
                        refine Qt.va rfl (fun w' hw => X.sub rfl rfl (by omega)) ?_
                        refine Qt.va rfl (fun w' hw => X.index1eI (j := j - 1) rfl rfl (by omega) Try.underlying23 sz_3 hA (by omega)) ?_
                        refine Qt.va rfl (fun w' hw => X.load rfl sc_3 (by first | exact Ld.num (hr.ext hw) (by omega) | exact hA)) ?_
                        -- callfn cmp.Less[int]
                        refine Qt.call rfl en_293 rfl (fun w' hw => calls_same hw (clessI (m.getD j 0) (m.getD (j - 1) 0) w')) ?_
                        refine Qt.va rfl (fun w' hw => X.not rfl) ?_
                        refine Qt.nil (fun w13 hq => ?_)
                        -- cond
                        have M13 := M.up hq
                        have HO := M13.o
                        by_cases hd : m.getD j 0 < m.getD (j - 1) 0
                        · rw [decide_eq_true hd]
                          obtain ⟨j, rfl⟩ : ∃ j', j = j' + 1 := ⟨j - 1, by omega⟩
                          refine J.iteF rfl ?_
                          -- t125
                          -- t132
                          refine J.skip ?_
                          -- draw
                          refine J.draw (ℓ := 1000000) (S := (fun _ => True)) mixed (fun w14d hSE hS_h => ?_)
                          have hS : ((fun _ => True)) w14d := trivial
                          have hrw14 := (Reads.of_own HO).ext hSE
                          have hoX := HO.ext hSE
                          have hG : w13.grownBy w14d (Value.ownBlock (.slice A n c)) := grown_ext hSE
                          refine D.va 0 rfl (by kernel_rfl) (fun _ _ _ h => h) rfl (fun w' hw => X.move (by conv => lhs; whnf)) hS ?_
                          refine D.va 1 rfl (by kernel_rfl) (fun _ _ _ h => h) rfl (fun w' hw => X.move (by conv => lhs; whnf)) hS ?_
                          refine D.va 2 rfl (by kernel_rfl) (fun _ _ _ h => h) rfl (fun w' hw => X.move (by conv => lhs; whnf)) hS ?_
                          refine D.va 3 rfl (by kernel_rfl) (fun _ _ _ h => h) rfl (fun w' hw => X.move (by conv => lhs; whnf)) hS ?_
                          refine D.va 4 rfl (by kernel_rfl) (fun _ _ _ h => h) rfl (fun w' hw => X.sub rfl rfl (by omega)) hS ?_
                          refine D.va 5 rfl (by kernel_rfl) (fun _ _ _ h => h) rfl (fun w' hw => X.move (by conv => lhs; whnf)) hS ?_
                          refine D.va 6 rfl (by kernel_rfl) (fun _ _ _ h => h) rfl (fun w' hw => X.move (by conv => lhs; whnf)) hS ?_
                          refine D.va 7 rfl (by kernel_rfl) (fun _ _ _ h => h) rfl (fun w' hw => X.sub rfl rfl (by omega)) hS ?_
                          refine D.va 8 rfl (by kernel_rfl) (fun _ _ _ h => h) rfl (fun w' hw => X.index1eI (j := j) rfl rfl (by omega) Try.underlying23 sz_3 hA (by omega)) hS ?_
                          refine D.va 10 rfl (by kernel_rfl) (fun _ _ _ h => h) rfl (fun w' hw => X.move (by conv => lhs; whnf)) hS ?_
                          refine D.va 11 rfl (by kernel_rfl) (fun _ _ _ h => h) rfl (fun w' hw => X.move (by conv => lhs; whnf)) hS ?_
                          refine D.va 12 rfl (by kernel_rfl) (fun _ _ _ h => h) rfl (fun w' hw => (by first | exact X.index1n rfl rfl Try.underlying23 sz_3 (by first | exact Option.some_ne_none _ | exact hA) (by omega) | exact X.index1 rfl rfl Try.underlying23 sz_3 (by first | exact Option.some_ne_none _ | exact hA) (by omega))) hS ?_
                          refine D.two 9 13 (by kernel_rfl) rfl rfl ?_ ?_
                          · refine L.va rfl (X.load rfl sc_3 (Ld.num hrw14 (j := j) (by omega))) ?_
                            refine L.nil ?_
                            refine ⟨fun _ => hS, ?_⟩
                            refine D.one 13 (by kernel_rfl) rfl ?_
                            refine L.va rfl (X.load rfl sc_3 (Ld.num hrw14 (j := j + 1) (by omega))) ?_
                            refine L.nil ?_
                            refine ⟨fun _ => hS, ?_⟩
                            refine D.va 14 rfl (by kernel_rfl) (fun _ _ _ h => h) rfl (fun w' hw => (by first | exact X.index1n rfl rfl Try.underlying23 sz_3 (by first | exact Option.some_ne_none _ | exact hA) (by omega) | exact X.index1 rfl rfl Try.underlying23 sz_3 (by first | exact Option.some_ne_none _ | exact hA) (by omega))) hS ?_
                            refine D.one 15 (by kernel_rfl) rfl ?_
                            refine L.storeON rfl rfl (by conv => lhs; whnf) sz_3 (hoX) (by omega) ?_
                            intro w14 hoX hg2 hb2 hs2
                            have hS1 := trivial
                            refine L.nil ?_
                            refine ⟨fun _ => hS1, ?_⟩
                            replace hG := grb_trans hG hg2
                            refine D.va 16 rfl (by kernel_rfl) (fun _ _ _ h => h) rfl (fun w' hw => X.index1eI (j := j) rfl rfl (by omega) Try.underlying23 sz_3 hA (by omega)) hS1 ?_
                            refine D.one 17 (by kernel_rfl) rfl ?_
                            refine L.storeON rfl rfl (by conv => lhs; whnf) sz_3 (hoX) (by omega) ?_
                            intro w14 hoX hg2 hb2 hs2
                            have hS2 := trivial
                            refine L.nil ?_
                            refine ⟨fun _ => hS2, ?_⟩
                            replace hG := grb_trans hG hg2
                            refine D.done (by kernel_rfl) ?_
                            refine J.region ?_
                            refine L.va rfl (X.move (by conv => lhs; whnf)) ?_
                            refine L.va rfl (X.add rfl rfl (by omega)) ?_
                            refine L.va rfl (X.assign (by conv => lhs; whnf)) ?_
                            refine L.nil ?_
                            -- loopend
                            refine ⟨(j + 2, swp m (j + 1) j), At1 (by first | rfl | exact at_int rfl (by omega) | exact at_slice rfl (by omega) | exact at_int rfl (by simp)), (by (iterate 33 refine Agr.lk rfl ?_); exact Agr.lk rfl (Agr.hav rfl Agr.rfl')), ?_⟩
                            exact ⟨⟨by omega, by omega, M13.sw hoX hG ⟨by omega, by omega⟩ ⟨by omega, by omega⟩ (by omega), hI.same fun k hk => by rw [swp_at m (by omega) (by omega), if_neg (by omega), if_neg (by omega)]⟩, by show b - (j + 2) < b - (j + 1); omega⟩
                          · refine L.va rfl (X.load rfl sc_3 (Ld.num hrw14 (j := j + 1) (by omega))) ?_
                            refine L.nil ?_
                            refine ⟨fun _ => hS, ?_⟩
                            refine D.one 9 (by kernel_rfl) rfl ?_
                            refine L.va rfl (X.load rfl sc_3 (Ld.num hrw14 (j := j) (by omega))) ?_
                            refine L.nil ?_
                            refine ⟨fun _ => hS, ?_⟩
                            refine D.va 14 rfl (by kernel_rfl) (fun _ _ _ h => h) rfl (fun w' hw => (by first | exact X.index1n rfl rfl Try.underlying23 sz_3 (by first | exact Option.some_ne_none _ | exact hA) (by omega) | exact X.index1 rfl rfl Try.underlying23 sz_3 (by first | exact Option.some_ne_none _ | exact hA) (by omega))) hS ?_
                            refine D.one 15 (by kernel_rfl) rfl ?_
                            refine L.storeON rfl rfl (by conv => lhs; whnf) sz_3 (hoX) (by omega) ?_
                            intro w14 hoX hg2 hb2 hs2
                            have hS1 := trivial
                            refine L.nil ?_
                            refine ⟨fun _ => hS1, ?_⟩
                            replace hG := grb_trans hG hg2
                            refine D.va 16 rfl (by kernel_rfl) (fun _ _ _ h => h) rfl (fun w' hw => X.index1eI (j := j) rfl rfl (by omega) Try.underlying23 sz_3 hA (by omega)) hS1 ?_
                            refine D.one 17 (by kernel_rfl) rfl ?_
                            refine L.storeON rfl rfl (by conv => lhs; whnf) sz_3 (hoX) (by omega) ?_
                            intro w14 hoX hg2 hb2 hs2
                            have hS2 := trivial
                            refine L.nil ?_
                            refine ⟨fun _ => hS2, ?_⟩
                            replace hG := grb_trans hG hg2
                            refine D.done (by kernel_rfl) ?_
                            refine J.region ?_
                            refine L.va rfl (X.move (by conv => lhs; whnf)) ?_
                            refine L.va rfl (X.add rfl rfl (by omega)) ?_
                            refine L.va rfl (X.assign (by conv => lhs; whnf)) ?_
                            refine L.nil ?_
                            -- loopend
                            refine ⟨(j + 2, swp m (j + 1) j), At1 (by first | rfl | exact at_int rfl (by omega) | exact at_slice rfl (by omega) | exact at_int rfl (by simp)), (by (iterate 33 refine Agr.lk rfl ?_); exact Agr.lk rfl (Agr.hav rfl Agr.rfl')), ?_⟩
                            exact ⟨⟨by omega, by omega, M13.sw hoX hG ⟨by omega, by omega⟩ ⟨by omega, by omega⟩ (by omega), hI.same fun k hk => by rw [swp_at m (by omega) (by omega), if_neg (by omega), if_neg (by omega)]⟩, by show b - (j + 2) < b - (j + 1); omega⟩
                        · rw [decide_eq_false hd]
                          refine J.iteT rfl ?_
                          refine J.exit ?_
                          -- cutend
                          refine ⟨(i + 1, m), At1 (by first | rfl | exact at_int rfl (by omega) | exact at_slice rfl (by omega) | exact at_int rfl (by simp)), (by (iterate 14 refine Agr.lk rfl ?_); refine Agr.lk rfl ?_; refine Agr.hav rfl ?_; (iterate 7 refine Agr.lk rfl ?_); refine Agr.lk rfl ?_; refine Agr.hav rfl ?_; refine Agr.lk rfl ?_; refine Agr.hav rfl ?_; (iterate 7 refine Agr.lk rfl ?_); refine Agr.lk rfl ?_; refine Agr.hav rfl ?_; exact Agr.rfl'), ?_⟩
                          exact ⟨by omega, by omega, M13, hI⟩
                      · refine J.exit ?_
                        -- cutend
                        refine ⟨(i + 1, m), At1 (by first | rfl | exact at_int rfl (by omega) | exact at_slice rfl (by omega) | exact at_int rfl (by simp)), (by (iterate 3 refine Agr.lk rfl ?_); refine Agr.lk rfl ?_; refine Agr.hav rfl ?_; (iterate 7 refine Agr.lk rfl ?_); refine Agr.lk rfl ?_; refine Agr.hav rfl ?_; refine Agr.lk rfl ?_; refine Agr.hav rfl ?_; (iterate 7 refine Agr.lk rfl ?_); refine Agr.lk rfl ?_; refine Agr.hav rfl ?_; exact Agr.rfl'), ?_⟩
                        exact ⟨by omega, by omega, M, hI⟩
                  · refine J.skip ?_
                    -- cutend
                    refine ⟨(i + 1, m), At1 (by first | rfl | exact at_int rfl (by omega) | exact at_slice rfl (by omega) | exact at_int rfl (by simp)), (by (iterate 4 refine Agr.lk rfl ?_); refine Agr.lk rfl ?_; refine Agr.hav rfl ?_; refine Agr.lk rfl ?_; refine Agr.hav rfl ?_; (iterate 7 refine Agr.lk rfl ?_); refine Agr.lk rfl ?_; refine Agr.hav rfl ?_; exact Agr.rfl'), ?_⟩
                    exact ⟨by omega, by omega, M, hI⟩
      · rintro ⟨i, m⟩ g w15 ⟨i1, i2, M, hI⟩
        refine J.region ?_
        refine L.va rfl (X.move (by conv => lhs; whnf)) ?_
        refine L.va rfl (X.add rfl rfl (by omega)) ?_
        refine L.va rfl (X.assign (by conv => lhs; whnf)) ?_
        refine L.nil ?_
        -- loopend
        refine ⟨(i, q + 1, m), At2 (by first | rfl | exact at_int rfl (by omega) | exact at_slice rfl (by omega) | exact at_int rfl (by simp)) (by first | rfl | exact at_int rfl (by omega) | exact at_slice rfl (by omega) | exact at_int rfl (by simp)), (by (iterate 3 refine Agr.lk rfl ?_); refine Agr.lk rfl ?_; refine Agr.hav rfl ?_; (iterate 2 refine Agr.lk rfl ?_); exact Agr.lk rfl (Agr.hav rfl Agr.rfl')), ?_⟩
        exact ⟨⟨i1, i2, by omega, M, hI⟩, by show 5 - (q + 1) < 5 - q; omega⟩
    · refine J.exit ?_
      refine J.seq ?_
      refine J.region ?_
      refine L.va rfl (X.assign (by conv => lhs; whnf)) ?_
      refine L.nil ?_
      -- ret
      refine J.ret ?_
      refine fin1 ?_
      exact ⟨m, false, rfl, M, fun h => by cases h⟩
end Go.Proofs.Ytlipeplfjkgamaa
