/-
  Codes in plain form: slices.Compact at []int, filter.plain, filter.common.
-/
import Derived.Test.YtlipeplfjkgamaaWNrmA
namespace Go.Proofs.Ytlipeplfjkgamaa
set_option maxRecDepth 100000
open Go.RowKit H
open Srt
open Nrm (Up Dd Cmn)
set_option linter.unusedVariables false
theorem drop_getD (m : List Int) (i j : Nat) : (m.drop i).getD j 0 = m.getD (i + j) 0 := by rw [List.getD, List.getD, List.getElem?_drop]
theorem compactI (A : Option Addr) (n c N : Nat) (l : List Int) (w : World) (ho : w.ownsRow N 3 1 (.slice A n c) n (nums .i64 l)) (hs : In l 0 n) (hn : n ≤ 900000) :
    Calls Try.prog 231 #[.slice A n c] w fun e w' => ∃ k y, e = .returned (.slice A k c) ∧ w'.ownsRow N 3 1 (.slice A k c) k (nums .i64 y) ∧ w.grownBy w' (Value.ownBlock (.slice A n c)) ∧ Up y ∧ (∀ x, x ∈ y ↔ x ∈ l) := by
  have hl : l.length = n := by have := ho.1; simpa [nums] using this
  have hnc := (own_bd ho).1
  have hcm := (own_bd ho).2
  unfold maxLen at hcm
  refine enter Try.func231 rfl (by kernel_rfl) ?_
  refine J.seq ?_
  refine J.region ?_
  refine L.va rfl (X.assign (by conv => lhs; whnf)) ?_
  refine L.nil ?_
  refine J.seq ?_
  refine J.seq ?_
  refine J.region ?_
  refine L.va rfl (X.move (by conv => lhs; whnf)) ?_
  refine L.va rfl (X.len rfl Try.underlying23) ?_
  refine L.va rfl (X.lss rfl rfl) ?_
  refine L.nil ?_
  -- cond
  refine J.dec rfl (fun h2 => ?_) (fun h2 => ?_)
  · refine J.seq ?_
    refine J.region ?_
    refine L.va rfl (X.move (by conv => lhs; whnf)) ?_
    refine L.va rfl (X.assign (by conv => lhs; whnf)) ?_
    refine L.nil ?_
    -- ret
    refine J.ret ?_
    refine thn_ret <| ?_
    refine fin1 ?_
    refine ⟨n, l, rfl, ho, grown_ext (Ext.refl _), ?_, fun x => Iff.rfl⟩
    match l, hl with
    | [], _ => exact List.Pairwise.nil
    | [a], _ => exact List.pairwise_singleton _ _
    | a :: b :: t, hl => simp only [List.length_cons] at hl; omega
  · refine J.skip ?_
    refine J.seq ?_
    refine J.seq ?_
    refine J.region ?_
    refine L.va rfl (X.assign (by conv => lhs; whnf)) ?_
    refine L.nil ?_
    refine J.block ?_
    -- loop
    refine J.loop (X := Nat) [2, 3, 4, 5, 10, 11, 12, 13, 14, 15, 16, 17, 18, 19, 20, 21, 22, 23, 24, 25, 26, 27, 28, 29, 30, 31, 32, 33, 34, 35, 36, 37, 38, 39, 40, 41, 42, 43, 44, 45, 46, 47, 48, 49, 50, 51, 52, 53, 54, 55, 56, 57, 58, 59] (fun i => [(3, .int .i64 (i : Int))]) (fun i w' => 1 ≤ i ∧ i ≤ n ∧ Dd l i (l.take i) ∧ Ext w w') (fun i => n - i) (1) (At1 (by first | rfl | exact at_int rfl (by omega) | exact at_slice rfl (by omega) | exact at_int rfl (by simp))) ?_ ?_
    · exact ⟨Nat.le_refl _, by omega, Dd.one (by omega), Ext.refl _⟩
    · rintro i g w2 ⟨h1, hi, hD, he⟩
      have ho2 := ho.ext he
      have hr := Reads.of_own ho2
      have hA := hr.some_ (by omega)
      refine J.seq ?_
      refine J.seq ?_
      refine J.region ?_
      refine L.va rfl (X.move (by conv => lhs; whnf)) ?_
      refine L.va rfl (X.move (by conv => lhs; whnf)) ?_
      refine L.va rfl (X.len rfl Try.underlying23) ?_
      refine L.va rfl (X.lss rfl rfl) ?_
      refine L.nil ?_
      -- cond
      refine J.dec rfl (fun hlt => ?_) (fun hlt => ?_)
      · refine J.skip ?_
        refine J.seq ?_
        refine J.block ?_
        refine J.seq ?_
        -- draw
        -- t23
        refine J.quiet mixed (by kernel_rfl) ?_
        refine Qt.va rfl (fun w' hw => X.move (by conv => lhs; whnf)) ?_
        refine Qt.va rfl (fun w' hw => X.move (by conv => lhs; whnf)) ?_
        refine Qt.va rfl (fun w' hw => (by first | exact X.index1n rfl rfl Try.underlying23 sz_3 (by first | exact Option.some_ne_none _ | exact hr.some_ (by omega) | exact hA) (by omega) | exact X.index1 rfl rfl Try.underlying23 sz_3 (by first | exact Option.some_ne_none _ | exact hr.some_ (by omega) | exact hA) (by omega))) ?_
        refine Qt.va rfl (fun w' hw => X.load rfl sc_3 (by first | exact Ld.num (hr.ext hw) (by omega) | exact hA)) ?_
        refine Qt.va rfl (fun w' hw => X.move (by conv => lhs; whnf)) ?_
        refine Qt.va rfl (fun w' hw => X.move (by conv => lhs; whnf)) ?_
        refine Qt.va rfl (fun w' hw => X.sub rfl rfl (by omega)) ?_
        refine Qt.va rfl (fun w' hw => X.index1eI (j := i - 1) rfl rfl (by omega) Try.underlying23 sz_3 hA (by omega)) ?_
        refine Qt.va rfl (fun w' hw => X.load rfl sc_3 (by first | exact Ld.num (hr.ext hw) (by omega) | exact hA)) ?_
        refine Qt.va rfl (fun w' hw => X.eql rfl rfl) ?_
        refine Qt.nil (fun w3 hq => ?_)
        replace hr := hr.ext hq
        -- cond
        refine J.dec rfl (fun hd => ?_) (fun hd => ?_)
        · have hD1 := hD.same h1 (by omega) hd
          have ho3 := ho2.ext hq
          refine J.seq ?_
          refine J.region ?_
          refine L.va rfl (X.move (by conv => lhs; whnf)) ?_
          refine L.va rfl (X.move (by conv => lhs; whnf)) ?_
          refine L.va rfl ((by first | exact X.sliceFromn rfl rfl Try.underlying23 sz_3 (by omega) | exact X.sliceFrom rfl rfl Try.underlying23 sz_3 (by omega))) ?_
          refine L.va rfl (X.assign (by conv => lhs; whnf)) ?_
          refine L.nil ?_
          refine J.seq ?_
          refine J.seq ?_
          refine J.region ?_
          refine L.va rfl (X.assign (by conv => lhs; whnf)) ?_
          refine L.nil ?_
          refine J.block ?_
          -- loop
          refine J.loop (X := Nat × Nat × List Int) [3, 5, 29, 30, 31, 32, 33, 34, 35, 36, 37, 38, 39, 40, 41, 42, 43, 44, 45, 46, 47, 48, 49, 50, 51, 52, 53] (fun (k, q, m) => [(3, .int .i64 (k : Int)), (5, .int .i64 (q : Int))]) (fun (k, q, m) w' => 1 ≤ k ∧ k < i + q ∧ 1 ≤ q ∧ i + q ≤ n ∧ w'.ownsRow N 3 1 (.slice A n c) n (nums .i64 m) ∧ w.grownBy w' (Value.ownBlock (.slice A n c)) ∧ m.length = n ∧ Dd l (i + q) (m.take k) ∧ (∀ j, i + q - 1 ≤ j → m.getD j 0 = l.getD j 0)) (fun (_, q, _) => n - (i + q)) ((i, 1, l)) (At2 (by first | rfl | exact at_int rfl (by omega) | exact at_slice rfl (by omega) | exact at_int rfl (by simp)) (by first | rfl | exact at_int rfl (by omega) | exact at_slice rfl (by omega) | exact at_int rfl (by simp))) ?_ ?_
          · exact ⟨h1, Nat.lt_succ_self _, Nat.le_refl _, by omega, ho3, grown_ext (he.trans hq), hl, hD1, fun j _ => rfl⟩
          · rintro ⟨k, q, m⟩ g w4 ⟨k1, k2, k3, k4, ho4, hg4, hml, hDp, hsame⟩
            have hr4 := Reads.of_own ho4
            have hr5 := part_nums hr4 (i := i) (j := n) (by omega) (Nat.le_refl _) hnc
            rw [List.take_of_length_le (by rw [List.length_drop]; omega)] at hr5
            have hA5 : (if c = i then A else A.map (·.add (i * 1))) ≠ none := by
              rw [if_neg (by omega)]
              cases A with
              | none => exact absurd rfl hA
              | some a => exact fun h => by cases h
            refine J.seq ?_
            refine J.seq ?_
            refine J.region ?_
            refine L.va rfl (X.move (by conv => lhs; whnf)) ?_
            refine L.va rfl (X.move (by conv => lhs; whnf)) ?_
            refine L.va rfl (X.len rfl Try.underlying23) ?_
            refine L.va rfl (X.lss rfl rfl) ?_
            refine L.nil ?_
            -- cond
            refine J.dec rfl (fun hlt2 => ?_) (fun hlt2 => ?_)
            · have hlt2 : i + q < n := by omega
              refine J.skip ?_
              refine J.seq ?_
              refine J.block ?_
              refine J.seq ?_
              -- draw
              -- t42
              refine J.quiet mixed (by kernel_rfl) ?_
              refine Qt.va rfl (fun w' hw => X.move (by conv => lhs; whnf)) ?_
              refine Qt.va rfl (fun w' hw => X.move (by conv => lhs; whnf)) ?_
              refine Qt.va rfl (fun w' hw => (by first | exact X.index1n rfl rfl Try.underlying23 sz_3 (by first | exact Option.some_ne_none _ | exact hr5.some_ (by omega) | exact hA5) (by omega) | exact X.index1 rfl rfl Try.underlying23 sz_3 (by first | exact Option.some_ne_none _ | exact hr5.some_ (by omega) | exact hA5) (by omega))) ?_
              refine Qt.va rfl (fun w' hw => X.load rfl sc_3 (by first | exact Ld.num (hr5.ext hw) (by omega) | exact hA5)) ?_
              refine Qt.va rfl (fun w' hw => X.move (by conv => lhs; whnf)) ?_
              refine Qt.va rfl (fun w' hw => X.move (by conv => lhs; whnf)) ?_
              refine Qt.va rfl (fun w' hw => X.sub rfl rfl (by omega)) ?_
              refine Qt.va rfl (fun w' hw => X.index1eI (j := q - 1) rfl rfl (by omega) Try.underlying23 sz_3 hA5 (by omega)) ?_
              refine Qt.va rfl (fun w' hw => X.load rfl sc_3 (by first | exact Ld.num (hr5.ext hw) (by omega) | exact hA5)) ?_
              refine Qt.va rfl (fun w' hw => X.neq rfl rfl) ?_
              refine Qt.nil (fun w5 hq5 => ?_)
              replace hr5 := hr5.ext hq5
              -- cond
              rw [drop_getD, drop_getD, show i + (q - 1) = i + q - 1 by omega, hsame _ (by omega), hsame _ (Nat.le_refl _)]
              have hs5 := hs (i + q - 1) (i + q) (by omega) (by omega) hlt2
              have ho5 := ho4.ext hq5
              refine J.ndec rfl (fun hne => ?_) (fun hne => ?_)
              · skip
                -- t51
                refine J.seq ?_
                refine J.region ?_
                refine L.va rfl (X.move (by conv => lhs; whnf)) ?_
                refine L.va rfl (X.move (by conv => lhs; whnf)) ?_
                refine L.va rfl (X.move (by conv => lhs; whnf)) ?_
                refine L.va rfl (X.move (by conv => lhs; whnf)) ?_
                refine L.va rfl ((by first | exact X.index1n rfl rfl Try.underlying23 sz_3 (by first | exact Option.some_ne_none _ | exact hr5.some_ (by omega) | exact hA5) (by omega) | exact X.index1 rfl rfl Try.underlying23 sz_3 (by first | exact Option.some_ne_none _ | exact hr5.some_ (by omega) | exact hA5) (by omega))) ?_
                refine L.va rfl (X.load rfl sc_3 (by first | exact Ld.num hr5 (by omega) | exact hA5)) ?_
                refine L.va rfl (X.index1n rfl rfl Try.underlying23 sz_3 hA (by omega)) ?_
                -- store
                refine L.storeON rfl rfl (by conv => lhs; whnf) sz_3 (ho5) (by omega) ?_
                intro w6 ho6 hg6 hb6 hs6
                rw [drop_getD, hsame _ (by omega)] at ho6
                refine L.nil ?_
                refine J.region ?_
                refine L.va rfl (X.move (by conv => lhs; whnf)) ?_
                refine L.va rfl (X.add rfl rfl (by omega)) ?_
                refine L.va rfl (X.assign (by conv => lhs; whnf)) ?_
                refine L.nil ?_
                refine J.region ?_
                refine L.va rfl (X.move (by conv => lhs; whnf)) ?_
                refine L.va rfl (X.add rfl rfl (by omega)) ?_
                refine L.va rfl (X.assign (by conv => lhs; whnf)) ?_
                refine L.nil ?_
                -- loopend
                refine ⟨(k + 1, q + 1, m.set k (l.getD (i + q) 0)), At2 (by first | rfl | exact at_int rfl (by omega) | exact at_slice rfl (by omega) | exact at_int rfl (by simp)) (by first | rfl | exact at_int rfl (by omega) | exact at_slice rfl (by omega) | exact at_int rfl (by simp)), (by (iterate 27 refine Agr.lk rfl ?_); exact Agr.lk rfl (Agr.hav rfl Agr.rfl')), ?_⟩
                refine ⟨⟨by omega, by omega, by omega, by omega, ho6, grb_trans hg4 (grb_trans (grown_ext hq5) hg6), by rw [List.length_set]; exact hml, ?_, fun j hj => ?_⟩, by show n - (i + (q + 1)) < n - (i + q); omega⟩
                · have e : (m.set k (l.getD (i + q) 0)).take (k + 1) = m.take k ++ [l.getD (i + q) 0] := by
                    rw [Nrm.take_next _ 0 (by rw [List.length_set]; omega), List.take_set_of_le (Nat.le_refl _)]
                    congr 2
                    rw [List.getD, List.getElem?_set_self (by omega)]
                    rfl
                  rw [e]
                  exact hDp.new (by omega) (by omega)
                · have : k ≠ j := by omega
                  rw [List.getD, List.getElem?_set_ne this]
                  exact hsame j (by omega)
              · skip
                refine J.skip ?_
                refine J.region ?_
                refine L.va rfl (X.move (by conv => lhs; whnf)) ?_
                refine L.va rfl (X.add rfl rfl (by omega)) ?_
                refine L.va rfl (X.assign (by conv => lhs; whnf)) ?_
                refine L.nil ?_
                -- loopend
                refine ⟨(k, q + 1, m), At2 (by first | rfl | exact at_int rfl (by omega) | exact at_slice rfl (by omega) | exact at_int rfl (by simp)) (by first | rfl | exact at_int rfl (by omega) | exact at_slice rfl (by omega) | exact at_int rfl (by simp)), (by (iterate 17 refine Agr.lk rfl ?_); exact Agr.lk rfl (Agr.hav rfl Agr.rfl')), ?_⟩
                refine ⟨⟨by omega, by omega, by omega, by omega, ho5, grb_trans hg4 (grown_ext hq5), hml, hDp.same (by omega) (by omega) (by omega), fun j hj => hsame j (by omega)⟩, by show n - (i + (q + 1)) < n - (i + q); omega⟩
            · refine J.exit ?_
              refine J.seq ?_
              refine J.region ?_
              refine L.va rfl (X.move (by conv => lhs; whnf)) ?_
              refine L.va rfl (X.move (by conv => lhs; whnf)) ?_
              refine L.va rfl ((by first | exact X.sliceFromn rfl rfl Try.underlying23 sz_3 (by omega) | exact X.sliceFrom rfl rfl Try.underlying23 sz_3 (by omega))) ?_
              -- clear
              refine L.clear (z := .int .i64 0) rfl rfl Try.underlying23 (by kernel_rfl) rfl rfl ho4 (show k < n by omega) ?_
              intro w5 ho5 hg5
              refine L.nil ?_
              refine J.seq ?_
              refine J.region ?_
              refine L.va rfl (X.move (by conv => lhs; whnf)) ?_
              refine L.va rfl (X.move (by conv => lhs; whnf)) ?_
              refine L.va rfl ((by first | exact X.sliceTon rfl rfl Try.underlying23 sz_3 (by omega) | exact X.sliceTo rfl rfl Try.underlying23 sz_3 (by omega))) ?_
              refine L.va rfl (X.assign (by conv => lhs; whnf)) ?_
              refine L.nil ?_
              -- ret
              refine J.ret ?_
              refine inB_ret <|  thn_ret <|  thn_ret <|  inB_ret <|  thn_ret <| ?_
              refine fin1 ?_
              refine ⟨k, m.take k, rfl, ho5, grb_trans hg4 hg5, hDp.up, fun x => hDp.mems (by omega) x⟩
        · skip
          refine J.skip ?_
          refine J.region ?_
          refine L.va rfl (X.move (by conv => lhs; whnf)) ?_
          refine L.va rfl (X.add rfl rfl (by omega)) ?_
          refine L.va rfl (X.assign (by conv => lhs; whnf)) ?_
          refine L.nil ?_
          -- loopend
          refine ⟨i + 1, At1 (by first | rfl | exact at_int rfl (by omega) | exact at_slice rfl (by omega) | exact at_int rfl (by simp)), (by (iterate 17 refine Agr.lk rfl ?_); exact Agr.lk rfl (Agr.hav rfl Agr.rfl')), ?_⟩
          refine ⟨⟨by omega, by omega, ?_, he.trans hq⟩, by omega⟩
          rw [Nrm.take_next l 0 (by omega)]
          have := hs (i - 1) i (by omega) (by omega) (by omega)
          exact hD.new (by omega) (by omega)
      · refine J.exit ?_
        refine J.seq ?_
        refine J.region ?_
        refine L.va rfl (X.move (by conv => lhs; whnf)) ?_
        refine L.va rfl (X.assign (by conv => lhs; whnf)) ?_
        refine L.nil ?_
        -- ret
        refine J.ret ?_
        refine fin1 ?_
        obtain rfl : i = n := by omega
        rw [← hl, List.take_length, hl] at hD
        exact ⟨i, l, rfl, ho2, grown_ext he, hD.up, fun x => Iff.rfl⟩
end Go.Proofs.Ytlipeplfjkgamaa
