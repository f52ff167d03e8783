/-
  Go's slices.Sort at []int, walked: small ones.
-/
import Derived.Test.YtlipeplfjkgamaaSrtPlain
import Derived.Test.YtlipeplfjkgamaaLogic
import Derived.Test.YtlipeplfjkgamaaTyps
namespace Go.Proofs.Ytlipeplfjkgamaa
set_option maxRecDepth 100000
open Go.RowKit H
open Srt
set_option linter.unusedVariables false
theorem X.index1eI {P : Program} {w : World} {f : Fr} {x y : Operand} {d : Option Tmp} {t ty e : TypeId} {pos : String} {aft : Array Edge} {g : Option (Nat × Bool)} {A : Option Addr} {q c j : Nat} {k : IntKind} {m : Int} (hx : ev f x = .slice A q c) (hy : ev f y = .int k m) (hm : m = (j : Int)) (ht : P.underlying t = some (.slice e)) (hs : Siz P e 1) (hA : A ≠ none) (hj : j < q) : (execOp (ev f) ⟨d, .indexAddr t x y, ty, pos, aft, g⟩).run P w = .ok (.value (pA A j)) w :=
  X.index1n hx (by rw [hy, hm]) ht hs hA hj
theorem isnanI (x : Int) (w : World) : Calls Try.prog 306 #[.int .i64 x] w fun e w' => e = .returned (.bool false) ∧ w = w' := by
  refine enter Try.func306 rfl (by kernel_rfl) ?_
  refine J.seq ?_
  refine J.region ?_
  refine L.va rfl (X.assign (by conv => lhs; whnf)) ?_
  refine L.nil ?_
  refine J.seq ?_
  refine J.region ?_
  refine L.va rfl (X.move (by conv => lhs; whnf)) ?_
  refine L.va rfl (X.move (by conv => lhs; whnf)) ?_
  refine L.va rfl (X.neq rfl rfl) ?_
  refine L.va rfl (X.assign (by conv => lhs; whnf)) ?_
  refine L.nil ?_
  -- ret
  refine J.ret ?_
  refine fin1 ?_
  exact ⟨(show Ending.returned (.bool (!decide (x = x))) = _ from by simp), rfl⟩
theorem clessI (x y : Int) (w : World) : Calls Try.prog 293 #[.int .i64 x, .int .i64 y] w fun e w' => e = .returned (.bool (decide (x < y))) ∧ w = w' := by
  refine enter Try.func293 rfl (by kernel_rfl) ?_
  refine J.seq ?_
  refine J.region ?_
  refine L.va rfl (X.assign (by conv => lhs; whnf)) ?_
  refine L.nil ?_
  refine J.seq ?_
  refine J.region ?_
  refine L.va rfl (X.move (by conv => lhs; whnf)) ?_
  -- callfn cmp.isNaN[int]
  refine L.call rfl en_306 rfl (isnanI x w) ?_
  rintro e _ ⟨rfl, rfl⟩
  refine ⟨_, rfl, ?_⟩
  refine L.va rfl (X.move (by conv => lhs; whnf)) ?_
  -- case t7
  refine L.caseBF (k := 7) rfl (by rfl) ?_
  refine L.no rfl ?_
  refine L.no rfl ?_
  refine L.no rfl ?_
  refine L.va rfl (X.pickF rfl (by conv => lhs; whnf)) ?_
  refine L.va rfl (X.move (by conv => lhs; whnf)) ?_
  refine L.va rfl (X.move (by conv => lhs; whnf)) ?_
  refine L.va rfl (X.move (by conv => lhs; whnf)) ?_
  refine L.va rfl (X.lss rfl rfl) ?_
  refine L.va rfl (X.pickF rfl (by conv => lhs; whnf)) ?_
  refine L.va rfl (X.assign (by conv => lhs; whnf)) ?_
  refine L.nil ?_
  -- ret
  refine J.ret ?_
  refine fin1 ?_
  exact ⟨rfl, rfl⟩
/-- what a walk within a range of a row of one's own leaves -/
structure SwI (w w' : World) (A : Option Addr) (n c N a b : Nat) (l l' : List Int) : Prop where
  o : w'.ownsRow N 3 1 (.slice A n c) n (nums .i64 l')
  g : w.grownBy w' (Value.ownBlock (.slice A n c))
  p : Pr a b l l'
theorem isortI (A : Option Addr) (n c N a b : Nat) (l : List Int) (w : World) (ho : w.ownsRow N 3 1 (.slice A n c) n (nums .i64 l)) (hab : a ≤ b) (hb : b ≤ n) (hn : n ≤ 1000000) :
    Calls Try.prog 287 #[.slice A n c, .int .i64 (a : Int), .int .i64 (b : Int)] w fun e w' => e = .returned (.tuple #[]) ∧ ∃ l', SwI w w' A n c N a b l l' ∧ In l' a b := by
  have hl : l.length = n := by have := ho.1; simpa [nums] using this
  refine enter Try.func287 rfl (by kernel_rfl) ?_
  refine J.seq ?_
  refine J.region ?_
  refine L.va rfl (X.move (by conv => lhs; whnf)) ?_
  refine L.va rfl (X.add rfl rfl (by omega)) ?_
  refine L.va rfl (X.assign (by conv => lhs; whnf)) ?_
  refine L.nil ?_
  refine J.block ?_
  -- loop
  refine J.loop (X := Nat × List Int) [6, 7, 10, 11, 12, 13, 14, 15, 16, 17, 18, 19, 20, 21, 22, 23, 24, 25, 26, 27, 28, 29, 30, 31, 32, 33, 34, 35, 36, 37, 38, 39, 40, 41, 42, 43, 44, 45, 46, 47, 48] (fun (i, m) => [(6, .int .i64 (i : Int))]) (fun (i, m) w' => a + 1 ≤ i ∧ (i ≤ b ∨ i = a + 1) ∧ SwI w w' A n c N a b l m ∧ In m a i) (fun (i, _) => n + 1 - i) ((a + 1, l)) (At1 (by first | rfl | exact at_int rfl (by omega) | exact at_slice rfl (by omega) | exact at_int rfl (by simp))) ?_ ?_
  · exact ⟨Nat.le_refl _, .inr rfl, ⟨ho, grown_ext (Ext.refl _), .refl _⟩, In.tiny (Nat.le_refl _)⟩
  · rintro ⟨i, m⟩ g w2 ⟨h1, h2, M, hI⟩
    have hml : m.length = n := by rw [M.p.len, hl]
    refine J.seq ?_
    refine J.seq ?_
    refine J.region ?_
    refine L.va rfl (X.move (by conv => lhs; whnf)) ?_
    refine L.va rfl (X.move (by conv => lhs; whnf)) ?_
    refine L.va rfl (X.lss rfl rfl) ?_
    refine L.nil ?_
    -- cond
    refine J.dec rfl (fun hlt => ?_) (fun hlt => ?_)
    · refine J.skip ?_
      refine J.seq ?_
      refine J.block ?_
      refine J.seq ?_
      refine J.region ?_
      refine L.va rfl (X.move (by conv => lhs; whnf)) ?_
      refine L.va rfl (X.assign (by conv => lhs; whnf)) ?_
      refine L.nil ?_
      refine J.block ?_
      -- loop
      refine J.loop (X := Nat × List Int) [7, 16, 17, 18, 19, 20, 21, 22, 23, 24, 25, 26, 27, 28, 29, 30, 31, 32, 33, 34, 35, 36, 37, 38, 39, 40, 41, 42, 43, 44, 45, 46, 47, 48] (fun (j, m) => [(7, .int .i64 (j : Int))]) (fun (j, m) w' => a ≤ j ∧ j ≤ i ∧ SwI w w' A n c N a b l m ∧ InBut m a i j) (fun (j, _) => j) ((i, m)) (At1 (by first | rfl | exact at_int rfl (by omega) | exact at_slice rfl (by omega) | exact at_int rfl (by simp))) ?_ ?_
      · exact ⟨by omega, Nat.le_refl _, M, InBut.start hI⟩
      · rintro ⟨j, m⟩ g w3 ⟨h3, h4, M, hJ⟩
        have hml : m.length = n := by rw [M.p.len, hl]
        have hr := Reads.of_own M.o
        have hA := hr.some_ (by omega)
        refine J.seq ?_
        refine J.seq ?_
        -- draw
        -- t27
        refine J.quiet mixed (by kernel_rfl) ?_
        refine Qt.va rfl (fun w' hw => X.move (by conv => lhs; whnf)) ?_
        refine Qt.va rfl (fun w' hw => X.move (by conv => lhs; whnf)) ?_
        refine Qt.va rfl (fun w' hw => X.gtr rfl rfl) ?_
        refine Qt.va rfl (fun w' hw => X.move (by conv => lhs; whnf)) ?_
        -- case t19
        refine Qt.caseDec (k := 19) rfl (fun hja => ?_) (fun hja => ?_)
        · refine Qt.va rfl (fun w' hw => X.move (by conv => lhs; whnf)) ?_
          refine Qt.va rfl (fun w' hw => X.move (by conv => lhs; whnf)) ?_
          refine Qt.va rfl (fun w' hw => (by first | exact X.index1n rfl rfl Try.underlying23 sz_3 (by first | exact Option.some_ne_none _ | exact hr.some_ (by omega) | exact hA) (by omega) | exact X.index1 rfl rfl Try.underlying23 sz_3 (by first | exact Option.some_ne_none _ | exact hr.some_ (by omega) | exact hA) (by omega))) ?_
          refine Qt.va rfl (fun w' hw => X.load rfl sc_3 (by first | exact Ld.num (hr.ext hw) (by omega) | exact hA)) ?_
          refine Qt.va rfl (fun w' hw => X.move (by conv => lhs; whnf)) ?_
          refine Qt.va rfl (fun w' hw => X.move (by conv => lhs; whnf)) ?_
          refine Qt.va rfl (fun w' hw => X.sub rfl rfl (by omega)) ?_
          refine Qt.va rfl (fun w' hw => X.index1eI (j := j - 1) rfl rfl (by omega) Try.underlying23 sz_3 hA (by omega)) ?_
          refine Qt.va rfl (fun w' hw => X.load rfl sc_3 (by first | exact Ld.num (hr.ext hw) (by omega) | exact hA)) ?_
          -- callfn cmp.Less[int]
          refine Qt.call rfl en_293 rfl (fun w' hw => calls_same hw (clessI (m.getD j 0) (m.getD (j - 1) 0) w')) ?_
          refine Qt.va rfl (fun w' hw => X.pickT rfl (by conv => lhs; whnf)) ?_
          refine Qt.nil (fun w4 hq => ?_)
          replace hr := hr.ext hq
          -- cond
          by_cases hd : m.getD j 0 < m.getD (j - 1) 0
          · obtain ⟨j', rfl⟩ : ∃ j', j = j' + 1 := ⟨j - 1, by omega⟩
            rw [Nat.add_sub_cancel] at hd
            rw [Nat.add_sub_cancel]
            have ho4 := M.o.ext hq
            rw [decide_eq_true hd]
            refine J.iteT rfl ?_
            -- t41
            -- t48
            refine J.skip ?_
            refine J.seq ?_
            refine J.block ?_
            -- draw
            refine J.draw (ℓ := 1000000) (S := (fun _ => True)) mixed (fun w5d hSE hS_h => ?_)
            have hS : ((fun _ => True)) w5d := trivial
            have hrw5 := (Reads.of_own ho4).ext hSE
            have hoX := ho4.ext hSE
            have hG : w4.grownBy w5d (Value.ownBlock (.slice A n c)) := grown_ext hSE
            refine D.va 0 rfl (by kernel_rfl) (fun _ _ _ h => h) rfl (fun w' hw => X.move (by conv => lhs; whnf)) hS ?_
            refine D.va 1 rfl (by kernel_rfl) (fun _ _ _ h => h) rfl (fun w' hw => X.move (by conv => lhs; whnf)) hS ?_
            refine D.va 2 rfl (by kernel_rfl) (fun _ _ _ h => h) rfl (fun w' hw => X.move (by conv => lhs; whnf)) hS ?_
            refine D.va 3 rfl (by kernel_rfl) (fun _ _ _ h => h) rfl (fun w' hw => X.move (by conv => lhs; whnf)) hS ?_
            refine D.va 4 rfl (by kernel_rfl) (fun _ _ _ h => h) rfl (fun w' hw => X.sub rfl rfl (by omega)) hS ?_
            refine D.va 5 rfl (by kernel_rfl) (fun _ _ _ h => h) rfl (fun w' hw => X.move (by conv => lhs; whnf)) hS ?_
            refine D.va 6 rfl (by kernel_rfl) (fun _ _ _ h => h) rfl (fun w' hw => X.move (by conv => lhs; whnf)) hS ?_
            refine D.va 7 rfl (by kernel_rfl) (fun _ _ _ h => h) rfl (fun w' hw => X.sub rfl rfl (by omega)) hS ?_
            refine D.va 8 rfl (by kernel_rfl) (fun _ _ _ h => h) rfl (fun w' hw => X.index1eI (j := j') rfl rfl (by omega) Try.underlying23 sz_3 hA (by omega)) hS ?_
            refine D.va 10 rfl (by kernel_rfl) (fun _ _ _ h => h) rfl (fun w' hw => X.move (by conv => lhs; whnf)) hS ?_
            refine D.va 11 rfl (by kernel_rfl) (fun _ _ _ h => h) rfl (fun w' hw => X.move (by conv => lhs; whnf)) hS ?_
            refine D.va 12 rfl (by kernel_rfl) (fun _ _ _ h => h) rfl (fun w' hw => (by first | exact X.index1n rfl rfl Try.underlying23 sz_3 (by first | exact Option.some_ne_none _ | exact hA) (by omega) | exact X.index1 rfl rfl Try.underlying23 sz_3 (by first | exact Option.some_ne_none _ | exact hA) (by omega))) hS ?_
            refine D.two 9 13 (by kernel_rfl) rfl rfl ?_ ?_
            · refine L.va rfl (X.load rfl sc_3 (Ld.num hrw5 (j := j') (by omega))) ?_
              refine L.nil ?_
              refine ⟨fun _ => hS, ?_⟩
              refine D.one 13 (by kernel_rfl) rfl ?_
              refine L.va rfl (X.load rfl sc_3 (Ld.num hrw5 (j := j' + 1) (by omega))) ?_
              refine L.nil ?_
              refine ⟨fun _ => hS, ?_⟩
              refine D.va 14 rfl (by kernel_rfl) (fun _ _ _ h => h) rfl (fun w' hw => (by first | exact X.index1n rfl rfl Try.underlying23 sz_3 (by first | exact Option.some_ne_none _ | exact hA) (by omega) | exact X.index1 rfl rfl Try.underlying23 sz_3 (by first | exact Option.some_ne_none _ | exact hA) (by omega))) hS ?_
              refine D.one 15 (by kernel_rfl) rfl ?_
              refine L.storeON rfl rfl (by conv => lhs; whnf) sz_3 (hoX) (by omega) ?_
              intro w5 hoX hg2 hb2 hs2
              have hS1 := trivial
              refine L.nil ?_
              refine ⟨fun _ => hS1, ?_⟩
              replace hG := grb_trans hG hg2
              refine D.va 16 rfl (by kernel_rfl) (fun _ _ _ h => h) rfl (fun w' hw => X.index1eI (j := j') rfl rfl (by omega) Try.underlying23 sz_3 hA (by omega)) hS1 ?_
              refine D.one 17 (by kernel_rfl) rfl ?_
              refine L.storeON rfl rfl (by conv => lhs; whnf) sz_3 (hoX) (by omega) ?_
              intro w5 hoX hg2 hb2 hs2
              have hS2 := trivial
              refine L.nil ?_
              refine ⟨fun _ => hS2, ?_⟩
              replace hG := grb_trans hG hg2
              refine D.done (by kernel_rfl) ?_
              refine J.region ?_
              refine L.va rfl (X.move (by conv => lhs; whnf)) ?_
              refine L.va rfl (X.sub rfl rfl (by omega)) ?_
              refine L.va rfl (X.assign (by conv => lhs; whnf)) ?_
              refine L.nil ?_
              refine ⟨(j', swp m (j' + 1) j'), At1 (by first | rfl | exact at_int rfl (by omega) | exact at_slice rfl (by omega) | exact at_int rfl (by simp)), (by (iterate 35 refine Agr.lk rfl ?_); exact Agr.lk rfl (Agr.hav rfl Agr.rfl')), ?_⟩
              exact ⟨⟨by omega, by omega, ⟨hoX, grb_trans M.g (grb_trans (grown_ext hq) hG), .step M.p ⟨by omega, by omega⟩ ⟨by omega, by omega⟩ (by omega)⟩, hJ.step (by omega) h4 (by omega) hd⟩, by show j' < j' + 1; omega⟩
            · refine L.va rfl (X.load rfl sc_3 (Ld.num hrw5 (j := j' + 1) (by omega))) ?_
              refine L.nil ?_
              refine ⟨fun _ => hS, ?_⟩
              refine D.one 9 (by kernel_rfl) rfl ?_
              refine L.va rfl (X.load rfl sc_3 (Ld.num hrw5 (j := j') (by omega))) ?_
              refine L.nil ?_
              refine ⟨fun _ => hS, ?_⟩
              refine D.va 14 rfl (by kernel_rfl) (fun _ _ _ h => h) rfl (fun w' hw => (by first | exact X.index1n rfl rfl Try.underlying23 sz_3 (by first | exact Option.some_ne_none _ | exact hA) (by omega) | exact X.index1 rfl rfl Try.underlying23 sz_3 (by first | exact Option.some_ne_none _ | exact hA) (by omega))) hS ?_
              refine D.one 15 (by kernel_rfl) rfl ?_
              refine L.storeON rfl rfl (by conv => lhs; whnf) sz_3 (hoX) (by omega) ?_
              intro w5 hoX hg2 hb2 hs2
              have hS1 := trivial
              refine L.nil ?_
              refine ⟨fun _ => hS1, ?_⟩
              replace hG := grb_trans hG hg2
              refine D.va 16 rfl (by kernel_rfl) (fun _ _ _ h => h) rfl (fun w' hw => X.index1eI (j := j') rfl rfl (by omega) Try.underlying23 sz_3 hA (by omega)) hS1 ?_
              refine D.one 17 (by kernel_rfl) rfl ?_
              refine L.storeON rfl rfl (by conv => lhs; whnf) sz_3 (hoX) (by omega) ?_
              intro w5 hoX hg2 hb2 hs2
              have hS2 := trivial
              refine L.nil ?_
              refine ⟨fun _ => hS2, ?_⟩
              replace hG := grb_trans hG hg2
              refine D.done (by kernel_rfl) ?_
              refine J.region ?_
              refine L.va rfl (X.move (by conv => lhs; whnf)) ?_
              refine L.va rfl (X.sub rfl rfl (by omega)) ?_
              refine L.va rfl (X.assign (by conv => lhs; whnf)) ?_
              refine L.nil ?_
              refine ⟨(j', swp m (j' + 1) j'), At1 (by first | rfl | exact at_int rfl (by omega) | exact at_slice rfl (by omega) | exact at_int rfl (by simp)), (by (iterate 35 refine Agr.lk rfl ?_); exact Agr.lk rfl (Agr.hav rfl Agr.rfl')), ?_⟩
              exact ⟨⟨by omega, by omega, ⟨hoX, grb_trans M.g (grb_trans (grown_ext hq) hG), .step M.p ⟨by omega, by omega⟩ ⟨by omega, by omega⟩ (by omega)⟩, hJ.step (by omega) h4 (by omega) hd⟩, by show j' < j' + 1; omega⟩
          · rw [decide_eq_false hd]
            refine J.iteF rfl ?_
            refine J.exit ?_
            refine J.region ?_
            refine L.va rfl (X.move (by conv => lhs; whnf)) ?_
            refine L.va rfl (X.add rfl rfl (by omega)) ?_
            refine L.va rfl (X.assign (by conv => lhs; whnf)) ?_
            refine L.nil ?_
            -- loopend
            refine ⟨(i + 1, m), At1 (by first | rfl | exact at_int rfl (by omega) | exact at_slice rfl (by omega) | exact at_int rfl (by simp)), (by (iterate 19 refine Agr.lk rfl ?_); refine Agr.lk rfl ?_; refine Agr.hav rfl ?_; (iterate 5 refine Agr.lk rfl ?_); exact Agr.lk rfl (Agr.hav rfl Agr.rfl')), ?_⟩
            exact ⟨⟨by omega, by omega, ⟨M.o.ext hq, grb_trans M.g (grown_ext hq), M.p⟩, hJ.stop h4 (.inr (by omega))⟩, by show n + 1 - (i + 1) < n + 1 - i; omega⟩
        · refine Qt.no rfl ?_
          refine Qt.no rfl ?_
          refine Qt.no rfl ?_
          refine Qt.no rfl ?_
          refine Qt.no rfl ?_
          refine Qt.no rfl ?_
          refine Qt.no rfl ?_
          refine Qt.no rfl ?_
          refine Qt.no rfl ?_
          refine Qt.no rfl ?_
          refine Qt.va rfl (fun w' hw => X.pickF rfl (by conv => lhs; whnf)) ?_
          refine Qt.nil (fun w4 hq => ?_)
          replace hr := hr.ext hq
          -- cond
          refine J.iteF rfl ?_
          refine J.exit ?_
          refine J.region ?_
          refine L.va rfl (X.move (by conv => lhs; whnf)) ?_
          refine L.va rfl (X.add rfl rfl (by omega)) ?_
          refine L.va rfl (X.assign (by conv => lhs; whnf)) ?_
          refine L.nil ?_
          -- loopend
          refine ⟨(i + 1, m), At1 (by first | rfl | exact at_int rfl (by omega) | exact at_slice rfl (by omega) | exact at_int rfl (by simp)), (by (iterate 19 refine Agr.lk rfl ?_); refine Agr.lk rfl ?_; refine Agr.hav rfl ?_; (iterate 5 refine Agr.lk rfl ?_); exact Agr.lk rfl (Agr.hav rfl Agr.rfl')), ?_⟩
          exact ⟨⟨by omega, by omega, ⟨M.o.ext hq, grb_trans M.g (grown_ext hq), M.p⟩, hJ.stop h4 (.inl (by omega))⟩, by show n + 1 - (i + 1) < n + 1 - i; omega⟩
    · refine J.exit ?_
      refine thn_exit <| thn_exit <| inB_eq ?_
      -- end
      refine fin0 (.inr rfl) ?_
      refine ⟨rfl, m, M, ?_⟩
      intro p q k1 k2 k3
      exact hI p q k1 k2 (by omega)
end Go.Proofs.Ytlipeplfjkgamaa
