import Derived.Test.YtnndkepnabddgaaZTourneyMerges2
/-
  What the law leans on, part 3: WCelD, WCelF, WDiffA, WRisR, WCelB, WCelK, WAggB, WAggC, WAggD, WCelM, WTouD, TextP, OrdPlain, WRowB, WRowC, WOrdA, WOrdC, WOrdG, HeapPlain, HeapK, TouPlain, TouPlainB.
-/
namespace Go.Proofs.Ytnndkepnabddgaa
set_option maxRecDepth 100000
open Go.RowKit H
open Flo
set_option linter.unusedVariables false
theorem rsame02 (A1 : Option Addr) (n1 c1 : Nat) (A2 : Option Addr) (n2 c2 : Nat) (l1 l2 : List (Int)) (w : World) {N : Nat} (h1 : Reads w N 1 A1 n1 (nums .u32 l1)) (h2 : Reads w N 1 A2 n2 (nums .u32 l2)) (g1 : l1.length = n1) (g2 : l2.length = n2) (hn1 : n1 ≤ maxLen) (hn2 : n2 ≤ maxLen) (hN : N ≤ w.heap.size) :
    Calls Try.prog 44 #[.slice A1 n1 c1, .slice A2 n2 c2] w fun e w' => e = .returned (.bool (decide (l1 = l2))) ∧ Ext w w' := by
  unfold maxLen at hn1 hn2
  refine enter Try.func44 rfl (by kernel_rfl) ?_
  refine J.seq ?_
  refine J.region ?_
  refine L.va rfl (X.assign (by conv => lhs; whnf)) ?_
  refine L.nil ?_
  refine J.seq ?_
  refine J.seq ?_
  refine J.region ?_
  refine L.va rfl (X.move (by conv => lhs; whnf)) ?_
  refine L.va rfl (X.len rfl Try.underlying67) ?_
  refine L.va rfl (X.move (by conv => lhs; whnf)) ?_
  refine L.va rfl (X.len rfl Try.underlying67) ?_
  refine L.va rfl (X.neq rfl rfl) ?_
  refine L.nil ?_
  refine J.ndec rfl (fun hne => ?_) (fun hne => ?_)
  · rw [show decide (l1 = l2) = false from decide_eq_false (fun e => by rw [e] at g1; omega)]
    refine J.seq ?_
    refine J.region ?_
    refine L.va rfl (X.assign (by conv => lhs; whnf)) ?_
    refine L.nil ?_
    refine J.ret ?_
    refine thn_ret <| ?_
    refine fin1 ?_
    exact ⟨rfl, Ext.refl _⟩
  · obtain rfl : n1 = n2 := by omega
    refine J.skip ?_
    refine J.seq ?_
    refine J.seq ?_
    refine J.region ?_
    refine L.va rfl (X.assign (by conv => lhs; whnf)) ?_
    refine L.nil ?_
    refine J.block ?_
    refine J.loop (X := Nat) [4, 5, 11, 12, 13, 14, 15, 16, 17, 18, 19, 20, 21, 22, 23, 24, 25] (fun i => [(5, .int .i64 (i : Int))]) (fun i w' => i ≤ n1 ∧ (∀ j, j < i → l1.getD j 0 = l2.getD j 0) ∧ Ext w w') (fun i => n1 - i) (0) (At1 (by first | rfl | exact at_int rfl (by omega) | exact at_slice rfl (by omega) | exact at_int rfl (by simp))) ?_ ?_
    · exact ⟨by omega, fun j hj => absurd hj (by omega), Ext.refl _⟩
    · rintro i g w2 ⟨hi, hP, he⟩
      have k1 := h1.ext he
      have k2 := h2.ext he
      refine J.seq ?_
      refine J.seq ?_
      refine J.region ?_
      refine L.va rfl (X.move (by conv => lhs; whnf)) ?_
      refine L.va rfl (X.move (by conv => lhs; whnf)) ?_
      refine L.va rfl (X.len rfl Try.underlying67) ?_
      refine L.va rfl (X.lss rfl rfl) ?_
      refine L.nil ?_
      refine J.dec rfl (fun hlt => ?_) (fun hlt => ?_)
      · have hi1 : i < l1.length := by omega
        have hi2 : i < l2.length := by omega
        refine J.skip ?_
        refine J.seq ?_
        refine J.block ?_
        refine J.seq ?_
        refine J.quiet mixed (by kernel_rfl) ?_
        refine Qt.va rfl (fun w' hw => X.move (by conv => lhs; whnf)) ?_
        refine Qt.va rfl (fun w' hw => X.move (by conv => lhs; whnf)) ?_
        refine Qt.va rfl (fun w' hw => (by first | exact X.index1n rfl rfl Try.underlying67 sz_96 (by first | exact Option.some_ne_none _ | exact k1.some_ (by omega) | exact k2.some_ (by omega)) (by omega) | exact X.index1 rfl rfl Try.underlying67 sz_96 (by first | exact Option.some_ne_none _ | exact k1.some_ (by omega) | exact k2.some_ (by omega)) (by omega))) ?_
        refine Qt.va rfl (fun w' hw => X.load rfl sc_96 (by first | exact Ld.num (k1.ext hw) (by omega) | exact Ld.num (k2.ext hw) (by omega))) ?_
        refine Qt.va rfl (fun w' hw => X.move (by conv => lhs; whnf)) ?_
        refine Qt.va rfl (fun w' hw => X.move (by conv => lhs; whnf)) ?_
        refine Qt.va rfl (fun w' hw => (by first | exact X.index1n rfl rfl Try.underlying67 sz_96 (by first | exact Option.some_ne_none _ | exact k1.some_ (by omega) | exact k2.some_ (by omega)) (by omega) | exact X.index1 rfl rfl Try.underlying67 sz_96 (by first | exact Option.some_ne_none _ | exact k1.some_ (by omega) | exact k2.some_ (by omega)) (by omega))) ?_
        refine Qt.va rfl (fun w' hw => X.load rfl sc_96 (by first | exact Ld.num (k1.ext hw) (by omega) | exact Ld.num (k2.ext hw) (by omega))) ?_
        refine Qt.va rfl (fun w' hw => X.neq rfl rfl) ?_
        refine Qt.nil (fun w3 hq => ?_)
        replace k1 := k1.ext hq
        replace k2 := k2.ext hq
        by_cases hd : l1.getD i 0 = l2.getD i 0
        · refine J.ndecF rfl (by simpa using hd) ?_
          refine J.skip ?_
          refine J.region ?_
          refine L.va rfl (X.move (by conv => lhs; whnf)) ?_
          refine L.va rfl (X.add rfl rfl (by omega)) ?_
          refine L.va rfl (X.assign (by conv => lhs; whnf)) ?_
          refine L.nil ?_
          refine ⟨i + 1, At1 (by first | rfl | exact at_int rfl (by omega) | exact at_slice rfl (by omega) | exact at_int rfl (by simp)), (by (iterate 16 refine Agr.lk rfl ?_); exact Agr.lk rfl (Agr.hav rfl Agr.rfl')), ?_⟩
          refine ⟨⟨by omega, fun j hj => ?_, he.trans hq⟩, by omega⟩
          rcases Nat.lt_or_ge j i with h | h
          · exact hP j h
          · obtain rfl : j = i := by omega
            exact hd
        · rw [show decide (l1 = l2) = false from decide_eq_false (lst_ne 0 hd)]
          refine J.ndecT rfl (by simpa using hd) ?_
          refine J.seq ?_
          refine J.region ?_
          refine L.va rfl (X.assign (by conv => lhs; whnf)) ?_
          refine L.nil ?_
          refine J.ret ?_
          refine inB_ret <|  thn_ret <|  thn_ret <|  inB_ret <|  thn_ret <| ?_
          refine fin1 ?_
          exact ⟨rfl, he.trans hq⟩
      · rw [show decide (l1 = l2) = true from decide_eq_true (lst_eq 0 (by omega) (fun j hj => hP j (by omega)))]
        refine J.exit ?_
        refine J.seq ?_
        refine J.region ?_
        refine L.va rfl (X.assign (by conv => lhs; whnf)) ?_
        refine L.nil ?_
        refine J.ret ?_
        refine fin1 ?_
        exact ⟨rfl, he⟩
theorem rsame14 {x y : Ce} {w : World} {N : Nat} (hx : x.At N w) (hy : y.At N w) (hN : N ≤ w.heap.size) (hb : x.ni ≤ 1000000 ∧ x.nr ≤ 1000000) : Calls Try.prog 22 #[x.val, y.val] w fun e w' => e = .returned (.bool (sameC x.con y.con)) ∧ Ext w w' := by
  have z0 : (x.k : Int) = (y.k : Int) ↔ x.k = y.k := by omega
  have lxi := hx.li
  have lyi := hy.li
  have lxr := hx.lr
  have lyr := hy.lr
  refine enter Try.func22 rfl (by kernel_rfl) ?_
  refine J.seq ?_
  refine J.region ?_
  refine L.boxA (l := [_, _, _, _]) rfl rfl ?_
  intro b1 w1 hb1 hs1 hk1 he1
  refine L.boxA (l := [_, _, _, _]) rfl rfl ?_
  intro b2 w2 hb2 hs2 hk2 he2
  have hk12 := hk1.ext he2
  have he := he1.trans he2
  refine L.va rfl (X.assign (by conv => lhs; whnf)) ?_
  refine L.nil ?_
  refine J.seq ?_
  refine J.seq ?_
  refine J.region ?_
  refine L.va rfl (X.fieldAddr rfl Try.underlying48 rfl sz_44 (by decide)) ?_
  refine L.va rfl (X.load rfl sc_44 (by first | exact Ld.blk hk12 rfl | exact Ld.blk hk2 rfl)) ?_
  refine L.va rfl (X.fieldAddr rfl Try.underlying48 rfl sz_44 (by decide)) ?_
  refine L.va rfl (X.load rfl sc_44 (by first | exact Ld.blk hk12 rfl | exact Ld.blk hk2 rfl)) ?_
  refine L.va rfl (X.neq rfl rfl) ?_
  refine L.va rfl (X.move (by conv => lhs; whnf)) ?_
  refine L.caseNdec (k := 16) rfl (fun h1 => ?_) (fun h1 => ?_)
  · have e : sameC x.con y.con = false := by
      unfold sameC
      rw [show decide (x.con.k = y.con.k) = false from decide_eq_false (fun e => h1 (z0.2 e))]
      rfl
    rw [e]
    refine L.no rfl ?_
    refine L.no rfl ?_
    refine L.no rfl ?_
    refine L.no rfl ?_
    refine L.no rfl ?_
    refine L.va rfl (X.pickT rfl (by conv => lhs; whnf)) ?_
    refine L.va rfl (X.move (by conv => lhs; whnf)) ?_
    refine L.no rfl ?_
    refine L.no rfl ?_
    refine L.no rfl ?_
    refine L.no rfl ?_
    refine L.no rfl ?_
    refine L.no rfl ?_
    refine L.no rfl ?_
    refine L.va rfl (X.pickT rfl (by conv => lhs; whnf)) ?_
    refine L.va rfl (X.move (by conv => lhs; whnf)) ?_
    refine L.no rfl ?_
    refine L.no rfl ?_
    refine L.no rfl ?_
    refine L.no rfl ?_
    refine L.no rfl ?_
    refine L.no rfl ?_
    refine L.no rfl ?_
    refine L.va rfl (X.pickT rfl (by conv => lhs; whnf)) ?_
    refine L.nil ?_
    refine J.iteT rfl ?_
    refine J.seq ?_
    refine J.region ?_
    refine L.va rfl (X.assign (by conv => lhs; whnf)) ?_
    refine L.nil ?_
    refine J.ret ?_
    refine thn_ret <| ?_
    refine fin1 ?_
    exact ⟨rfl, he⟩
  · refine L.va rfl (X.fieldAddr rfl Try.underlying48 rfl sz_2 (by decide)) ?_
    refine L.va rfl (X.load rfl sc_2 (by first | exact Ld.blk hk12 rfl | exact Ld.blk hk2 rfl)) ?_
    refine L.va rfl (X.fieldAddr rfl Try.underlying48 rfl sz_2 (by decide)) ?_
    refine L.va rfl (X.load rfl sc_2 (by first | exact Ld.blk hk12 rfl | exact Ld.blk hk2 rfl)) ?_
    refine L.va rfl (X.neq rfl rfl) ?_
    refine L.va rfl (X.pickF rfl (by conv => lhs; whnf)) ?_
    refine L.va rfl (X.move (by conv => lhs; whnf)) ?_
    refine L.caseNdec (k := 23) rfl (fun h2 => ?_) (fun h2 => ?_)
    · have e : sameC x.con y.con = false := by
        unfold sameC
        rw [show decide (x.con.t = y.con.t) = false from decide_eq_false h2, Bool.false_and, Bool.and_false]
      rw [e]
      refine L.no rfl ?_
      refine L.no rfl ?_
      refine L.no rfl ?_
      refine L.no rfl ?_
      refine L.no rfl ?_
      refine L.no rfl ?_
      refine L.no rfl ?_
      refine L.va rfl (X.pickT rfl (by conv => lhs; whnf)) ?_
      refine L.va rfl (X.move (by conv => lhs; whnf)) ?_
      refine L.no rfl ?_
      refine L.no rfl ?_
      refine L.no rfl ?_
      refine L.no rfl ?_
      refine L.no rfl ?_
      refine L.no rfl ?_
      refine L.no rfl ?_
      refine L.va rfl (X.pickT rfl (by conv => lhs; whnf)) ?_
      refine L.nil ?_
      refine J.iteT rfl ?_
      refine J.seq ?_
      refine J.region ?_
      refine L.va rfl (X.assign (by conv => lhs; whnf)) ?_
      refine L.nil ?_
      refine J.ret ?_
      refine thn_ret <| ?_
      refine fin1 ?_
      exact ⟨rfl, he⟩
    · have h1 : (x.k : Int) = (y.k : Int) := h1
      have h2 : x.t = y.t := h2
      have e1 : sameC x.con y.con = (eqL sameW wc0 x.con.is y.con.is && eqL sameR rc0 x.con.rs y.con.rs) := by
        unfold sameC
        rw [decide_eq_true (show x.con.k = y.con.k from z0.1 h1), decide_eq_true (show x.con.t = y.con.t from h2)]
        rfl
      rw [e1]
      refine L.va rfl (X.fieldAddr rfl Try.underlying48 rfl sz_45 (by decide)) ?_
      refine L.va rfl (X.load rfl sc_45 (by first | exact Ld.blk hk12 rfl | exact Ld.blk hk2 rfl)) ?_
      refine L.va rfl (X.len rfl Try.underlying45) ?_
      refine L.va rfl (X.fieldAddr rfl Try.underlying48 rfl sz_45 (by decide)) ?_
      refine L.va rfl (X.load rfl sc_45 (by first | exact Ld.blk hk12 rfl | exact Ld.blk hk2 rfl)) ?_
      refine L.va rfl (X.len rfl Try.underlying45) ?_
      refine L.va rfl (X.neq rfl rfl) ?_
      refine L.va rfl (X.pickF rfl (by conv => lhs; whnf)) ?_
      refine L.va rfl (X.move (by conv => lhs; whnf)) ?_
      refine L.caseNdec (k := 32) rfl (fun h3 => ?_) (fun h3 => ?_)
      · rw [eqL_len (R := sameW) (d := wc0) (by show (x.is.map Wh.con).length ≠ (y.is.map Wh.con).length; rw [List.length_map, List.length_map]; omega)]
        refine L.no rfl ?_
        refine L.no rfl ?_
        refine L.no rfl ?_
        refine L.no rfl ?_
        refine L.no rfl ?_
        refine L.no rfl ?_
        refine L.no rfl ?_
        refine L.va rfl (X.pickT rfl (by conv => lhs; whnf)) ?_
        refine L.nil ?_
        refine J.iteT rfl ?_
        refine J.seq ?_
        refine J.region ?_
        refine L.va rfl (X.assign (by conv => lhs; whnf)) ?_
        refine L.nil ?_
        refine J.ret ?_
        refine thn_ret <| ?_
        refine fin1 ?_
        exact ⟨rfl, he⟩
      · refine L.va rfl (X.fieldAddr rfl Try.underlying48 rfl sz_46 (by decide)) ?_
        refine L.va rfl (X.load rfl sc_46 (by first | exact Ld.blk hk12 rfl | exact Ld.blk hk2 rfl)) ?_
        refine L.va rfl (X.len rfl Try.underlying46) ?_
        refine L.va rfl (X.fieldAddr rfl Try.underlying48 rfl sz_46 (by decide)) ?_
        refine L.va rfl (X.load rfl sc_46 (by first | exact Ld.blk hk12 rfl | exact Ld.blk hk2 rfl)) ?_
        refine L.va rfl (X.len rfl Try.underlying46) ?_
        refine L.va rfl (X.neq rfl rfl) ?_
        refine L.va rfl (X.pickF rfl (by conv => lhs; whnf)) ?_
        refine L.nil ?_
        refine J.ndec rfl (fun h4 => ?_) (fun h4 => ?_)
        · rw [eqL_len (R := sameR) (d := rc0) (by show (x.rs.map Re.con).length ≠ (y.rs.map Re.con).length; rw [List.length_map, List.length_map]; omega), Bool.and_false]
          refine J.seq ?_
          refine J.region ?_
          refine L.va rfl (X.assign (by conv => lhs; whnf)) ?_
          refine L.nil ?_
          refine J.ret ?_
          refine thn_ret <| ?_
          refine fin1 ?_
          exact ⟨rfl, he⟩
        · have hni : x.ni = y.ni := by omega
          refine J.skip ?_
          refine J.cut (X := Unit) [4, 5, 6, 7, 41, 42, 43, 44, 45, 46, 47, 48, 49, 50, 51, 52, 53, 54, 55, 56, 57, 58, 59, 60, 61, 62, 63, 64, 65, 66, 67, 68, 69, 70, 71, 72, 73, 74, 75, 76, 77, 78, 79, 80, 81, 82, 83, 84, 85, 86, 87, 88, 89, 90, 91] (fun _ => []) (fun _ w' => eqL sameW wc0 x.con.is y.con.is = true ∧ Ext w2 w') ?_ ?_
          · refine J.seq ?_
            refine J.region ?_
            refine L.va rfl (X.assign (by conv => lhs; whnf)) ?_
            refine L.nil ?_
            refine J.block ?_
            refine J.loop (X := Nat) [4, 5, 6, 7, 41, 42, 43, 44, 45, 46, 47, 48, 49, 50, 51, 52, 53, 54, 55, 56, 57, 58, 59, 60, 61, 62, 63, 64, 65, 66, 67, 68, 69, 70, 71, 72, 73, 74, 75, 76, 77, 78, 79, 80, 81, 82, 83, 84, 85, 86, 87, 88, 89, 90, 91] (fun i => [(5, .int .i64 (i : Int))]) (fun i w' => i ≤ x.ni ∧ (∀ j, j < i → sameW (x.is.getD j wh0).con (y.is.getD j wh0).con = true) ∧ Ext w2 w') (fun i => x.ni - i) (0) (At1 (by first | rfl | exact at_int rfl (by omega) | exact at_slice rfl (by omega) | exact at_int rfl (by simp))) ?_ ?_
            · exact ⟨Nat.zero_le _, fun j hj => absurd hj (by omega), Ext.refl _⟩
            · rintro i g w3 ⟨hi, hP, he3⟩
              have hk13 := hk12.ext he3
              have hk3 := hk2.ext he3
              have he03 := he.trans he3
              have z3 := he03.le
              refine J.seq ?_
              refine J.seq ?_
              refine J.region ?_
              refine L.va rfl (X.move (by conv => lhs; whnf)) ?_
              refine L.va rfl (X.fieldAddr rfl Try.underlying48 rfl sz_45 (by decide)) ?_
              refine L.va rfl (X.load rfl sc_45 (by first | exact Ld.blk hk13 rfl | exact Ld.blk hk3 rfl)) ?_
              refine L.va rfl (X.len rfl Try.underlying45) ?_
              refine L.va rfl (X.lss rfl rfl) ?_
              refine L.nil ?_
              refine J.dec rfl (fun hlt => ?_) (fun hlt => ?_)
              · have hin : i < x.ni := by omega
                have hra := hx.i.ext he03
                have hrb := hy.i.ext he03
                have hA := hra.some_ (by omega)
                have hB := hrb.some_ (by omega)
                have gx := gtW (l := x.is) (i := i) (by omega)
                have gy := gtW (l := y.is) (i := i) (by omega)
                have hX := (hx.wh (i := i) hin).ext he03
                have hY := (hy.wh (i := i) (by omega)).ext he03
                generalize ex : x.is.getD i wh0 = p at gx hX
                generalize ey : y.is.getD i wh0 = q at gy hY
                refine J.skip ?_
                refine J.seq ?_
                refine J.block ?_
                refine J.cut (X := Nat × Nat) [6, 7, 48, 49, 50, 51, 52, 53, 54, 55, 56, 57] (fun (b6, b7) => [(6, .pointer (some ⟨b6, 0, none⟩)), (7, .pointer (some ⟨b7, 0, none⟩))]) (fun (b6, b7) w' => Blk w' b6 69 p.vs.toArray ∧ Blk w' b7 69 q.vs.toArray ∧ Ext w3 w') ?_ ?_
                · skip
                  refine J.draw (ℓ := 1000000) (S := Ext w3) mixed (fun w4 hS hS_h => ?_)
                  refine D.va 0 rfl (by kernel_rfl) (fun _ _ _ h => h) rfl (fun w' hw => X.fieldAddr rfl Try.underlying48 rfl sz_45 (by decide)) hS ?_
                  refine D.va 1 rfl (by kernel_rfl) (fun _ _ _ h => h) rfl (fun w' hw => X.load rfl sc_45 (by first | exact Ld.blk (hk13.ext hw) rfl | exact Ld.blk (hk3.ext hw) rfl | exact hA | exact hB)) hS ?_
                  refine D.va 2 rfl (by kernel_rfl) (fun _ _ _ h => h) rfl (fun w' hw => X.move (by conv => lhs; whnf)) hS ?_
                  refine D.va 3 rfl (by kernel_rfl) (fun _ _ _ h => h) rfl (fun w' hw => (by first | exact X.indexAddrn rfl rfl Try.underlying45 sz_69 (by first | exact Option.some_ne_none _ | exact hA | exact hB) (by omega) | exact X.indexAddr rfl rfl Try.underlying45 sz_69 (by first | exact Option.some_ne_none _ | exact hA | exact hB) (by omega))) hS ?_
                  refine D.va 4 rfl (by kernel_rfl) (fun _ _ _ h => h) rfl (fun w' hw => X.loadRow (cs := p.vs) rfl (hra.ext hw) (fun r u hu => flat_row wh_len gx r u hu) (Nat.zero_lt_succ _) Try.underlying69 rfl (by kernel_rfl)) hS ?_
                  refine D.va 5 rfl (by kernel_rfl) (fun _ _ _ h => h) rfl (fun w' hw => X.fieldAddr rfl Try.underlying48 rfl sz_45 (by decide)) hS ?_
                  refine D.va 6 rfl (by kernel_rfl) (fun _ _ _ h => h) rfl (fun w' hw => X.load rfl sc_45 (by first | exact Ld.blk (hk13.ext hw) rfl | exact Ld.blk (hk3.ext hw) rfl | exact hA | exact hB)) hS ?_
                  refine D.va 7 rfl (by kernel_rfl) (fun _ _ _ h => h) rfl (fun w' hw => X.move (by conv => lhs; whnf)) hS ?_
                  refine D.va 8 rfl (by kernel_rfl) (fun _ _ _ h => h) rfl (fun w' hw => (by first | exact X.indexAddrn rfl rfl Try.underlying45 sz_69 (by first | exact Option.some_ne_none _ | exact hA | exact hB) (by omega) | exact X.indexAddr rfl rfl Try.underlying45 sz_69 (by first | exact Option.some_ne_none _ | exact hA | exact hB) (by omega))) hS ?_
                  refine D.va 9 rfl (by kernel_rfl) (fun _ _ _ h => h) rfl (fun w' hw => X.loadRow (cs := q.vs) rfl (hrb.ext hw) (fun r u hu => flat_row wh_len gy r u hu) (Nat.zero_lt_succ _) Try.underlying69 rfl (by kernel_rfl)) hS ?_
                  refine D.two 10 11 (by kernel_rfl) rfl rfl ?_ ?_
                  · refine L.alloc rfl zr_69 ?_
                    intro b6 w6 hb6 hs6 hk6 he6
                    have hS1 := hS.trans he6
                    refine L.nil ?_
                    refine ⟨fun _ => hS1, ?_⟩
                    refine D.one 11 (by kernel_rfl) rfl ?_
                    refine L.alloc rfl zr_69 ?_
                    intro b7 w7 hb7 hs7 hk7 he7
                    have hS2 := hS1.trans he7
                    refine L.nil ?_
                    refine ⟨fun _ => hS2, ?_⟩
                    have hk67 := hk6.ext he7
                    have zS := hS.le
                    refine D.one 12 (by kernel_rfl) rfl ?_
                    refine L.storeAgg (vs := [_, _, _, _, _]) rfl rfl rfl rfl sz_69 (hk67) rfl ?_
                    intro w8 hk8 hg8 hs8
                    have hS3 := hS2.grw hg8 (by intro g hg; injection hg with hg; omega)
                    refine L.nil ?_
                    refine ⟨fun _ => hS3, ?_⟩
                    have hk78 := hk7.grown hg8 (by intro e; injection e with e; omega)
                    refine D.one 13 (by kernel_rfl) rfl ?_
                    refine L.storeAgg (vs := [_, _, _, _, _]) rfl rfl rfl rfl sz_69 (hk78) rfl ?_
                    intro w9 hk9 hg9 hs9
                    have hS4 := hS3.grw hg9 (by intro g hg; injection hg with hg; omega)
                    refine L.nil ?_
                    refine ⟨fun _ => hS4, ?_⟩
                    have hk89 := hk8.grown hg9 (by intro e; injection e with e; omega)
                    refine D.done (by kernel_rfl) ?_
                    replace hk13 := hk13.ext hS4
                    replace hk3 := hk3.ext hS4
                    refine ⟨(b6, b7), At2 (by first | rfl | exact at_int rfl (by omega) | exact at_slice rfl (by omega) | exact at_int rfl (by simp)) (by first | rfl | exact at_int rfl (by omega) | exact at_slice rfl (by omega) | exact at_int rfl (by simp)), (by (iterate 12 refine Agr.lk rfl ?_); exact Agr.rfl'), ?_⟩
                    exact ⟨hk89, hk9, hS4⟩
                  · refine L.alloc rfl zr_69 ?_
                    intro b7 w7 hb7 hs7 hk7 he7
                    have hS1 := hS.trans he7
                    refine L.nil ?_
                    refine ⟨fun _ => hS1, ?_⟩
                    refine D.one 10 (by kernel_rfl) rfl ?_
                    refine L.alloc rfl zr_69 ?_
                    intro b6 w6 hb6 hs6 hk6 he6
                    have hS2 := hS1.trans he6
                    refine L.nil ?_
                    refine ⟨fun _ => hS2, ?_⟩
                    have hk76 := hk7.ext he6
                    have zS := hS.le
                    refine D.one 12 (by kernel_rfl) rfl ?_
                    refine L.storeAgg (vs := [_, _, _, _, _]) rfl rfl rfl rfl sz_69 (hk6) rfl ?_
                    intro w8 hk8 hg8 hs8
                    have hS3 := hS2.grw hg8 (by intro g hg; injection hg with hg; omega)
                    refine L.nil ?_
                    refine ⟨fun _ => hS3, ?_⟩
                    have hk78 := hk76.grown hg8 (by intro e; injection e with e; omega)
                    refine D.one 13 (by kernel_rfl) rfl ?_
                    refine L.storeAgg (vs := [_, _, _, _, _]) rfl rfl rfl rfl sz_69 (hk78) rfl ?_
                    intro w9 hk9 hg9 hs9
                    have hS4 := hS3.grw hg9 (by intro g hg; injection hg with hg; omega)
                    refine L.nil ?_
                    refine ⟨fun _ => hS4, ?_⟩
                    have hk89 := hk8.grown hg9 (by intro e; injection e with e; omega)
                    refine D.done (by kernel_rfl) ?_
                    replace hk13 := hk13.ext hS4
                    replace hk3 := hk3.ext hS4
                    refine ⟨(b6, b7), At2 (by first | rfl | exact at_int rfl (by omega) | exact at_slice rfl (by omega) | exact at_int rfl (by simp)) (by first | rfl | exact at_int rfl (by omega) | exact at_slice rfl (by omega) | exact at_int rfl (by simp)), (by (iterate 12 refine Agr.lk rfl ?_); exact Agr.rfl'), ?_⟩
                    exact ⟨hk89, hk9, hS4⟩
                · rintro ⟨b6, b7⟩ g w4 ⟨kp, kq, he4⟩
                  have z4 := he4.le
                  have hk14 := hk13.ext he4
                  have hk4 := hk3.ext he4
                  have hP4 := hX.ext he4
                  have hQ4 := hY.ext he4
                  have he04 := he03.trans he4
                  have eNo : sameW p.con q.con = false → eqL sameW wc0 x.con.is y.con.is = false := fun h => eqL_no (i := i) (by show i < (x.is.map Wh.con).length; rw [List.length_map]; omega) (by
                    show sameW ((x.is.map Wh.con).getD i wc0) ((y.is.map Wh.con).getD i wc0) = false
                    rw [con_atWh, con_atWh, ex, ey]
                    exact h)
                  refine J.seq ?_
                  refine J.region ?_
                  refine L.va rfl (X.fieldAddr rfl Try.underlying69 rfl sz_2 (by decide)) ?_
                  refine L.va rfl (X.load rfl sc_2 (by first | exact Ld.blk kp rfl | exact Ld.blk kq rfl)) ?_
                  refine L.va rfl (X.fieldAddr rfl Try.underlying69 rfl sz_2 (by decide)) ?_
                  refine L.va rfl (X.load rfl sc_2 (by first | exact Ld.blk kp rfl | exact Ld.blk kq rfl)) ?_
                  refine L.va rfl (X.neq rfl rfl) ?_
                  refine L.va rfl (X.move (by conv => lhs; whnf)) ?_
                  refine L.caseNdec (k := 63) rfl (fun g1 => ?_) (fun g1 => ?_)
                  · rw [eNo (by unfold sameW; exact decide_eq_false (fun h => g1 (congrArg (fun z : WC => z.1) h))), Bool.false_and]
                    refine L.no rfl ?_
                    refine L.no rfl ?_
                    refine L.no rfl ?_
                    refine L.no rfl ?_
                    refine L.no rfl ?_
                    refine L.va rfl (X.pickT rfl (by conv => lhs; whnf)) ?_
                    refine L.va rfl (X.move (by conv => lhs; whnf)) ?_
                    refine L.no rfl ?_
                    refine L.no rfl ?_
                    refine L.no rfl ?_
                    refine L.no rfl ?_
                    refine L.no rfl ?_
                    refine L.va rfl (X.pickT rfl (by conv => lhs; whnf)) ?_
                    refine L.va rfl (X.move (by conv => lhs; whnf)) ?_
                    refine L.no rfl ?_
                    refine L.no rfl ?_
                    refine L.no rfl ?_
                    refine L.no rfl ?_
                    refine L.no rfl ?_
                    refine L.va rfl (X.pickT rfl (by conv => lhs; whnf)) ?_
                    refine L.va rfl (X.move (by conv => lhs; whnf)) ?_
                    refine L.no rfl ?_
                    refine L.no rfl ?_
                    refine L.no rfl ?_
                    refine L.no rfl ?_
                    refine L.no rfl ?_
                    refine L.no rfl ?_
                    refine L.va rfl (X.pickT rfl (by conv => lhs; whnf)) ?_
                    refine L.nil ?_
                    refine J.iteT rfl ?_
                    refine J.seq ?_
                    refine J.region ?_
                    refine L.va rfl (X.assign (by conv => lhs; whnf)) ?_
                    refine L.nil ?_
                    refine J.ret ?_
                    refine inB_ret <|  thn_ret <|  thn_ret <|  inB_ret <|  thn_ret <| ?_
                    refine fin1 ?_
                    exact ⟨rfl, he04⟩
                  · refine L.va rfl (X.fieldAddr rfl Try.underlying69 rfl sz_2 (by decide)) ?_
                    refine L.va rfl (X.load rfl sc_2 (by first | exact Ld.blk kp rfl | exact Ld.blk kq rfl)) ?_
                    refine L.va rfl (X.fieldAddr rfl Try.underlying69 rfl sz_2 (by decide)) ?_
                    refine L.va rfl (X.load rfl sc_2 (by first | exact Ld.blk kp rfl | exact Ld.blk kq rfl)) ?_
                    refine L.va rfl (X.neq rfl rfl) ?_
                    refine L.va rfl (X.pickF rfl (by conv => lhs; whnf)) ?_
                    refine L.va rfl (X.move (by conv => lhs; whnf)) ?_
                    refine L.caseNdec (k := 70) rfl (fun g2 => ?_) (fun g2 => ?_)
                    · rw [eNo (by unfold sameW; exact decide_eq_false (fun h => g2 (congrArg (fun z : WC => z.2.1) h))), Bool.false_and]
                      refine L.no rfl ?_
                      refine L.no rfl ?_
                      refine L.no rfl ?_
                      refine L.no rfl ?_
                      refine L.no rfl ?_
                      refine L.va rfl (X.pickT rfl (by conv => lhs; whnf)) ?_
                      refine L.va rfl (X.move (by conv => lhs; whnf)) ?_
                      refine L.no rfl ?_
                      refine L.no rfl ?_
                      refine L.no rfl ?_
                      refine L.no rfl ?_
                      refine L.no rfl ?_
                      refine L.va rfl (X.pickT rfl (by conv => lhs; whnf)) ?_
                      refine L.va rfl (X.move (by conv => lhs; whnf)) ?_
                      refine L.no rfl ?_
                      refine L.no rfl ?_
                      refine L.no rfl ?_
                      refine L.no rfl ?_
                      refine L.no rfl ?_
                      refine L.no rfl ?_
                      refine L.va rfl (X.pickT rfl (by conv => lhs; whnf)) ?_
                      refine L.nil ?_
                      refine J.iteT rfl ?_
                      refine J.seq ?_
                      refine J.region ?_
                      refine L.va rfl (X.assign (by conv => lhs; whnf)) ?_
                      refine L.nil ?_
                      refine J.ret ?_
                      refine inB_ret <|  thn_ret <|  thn_ret <|  inB_ret <|  thn_ret <| ?_
                      refine fin1 ?_
                      exact ⟨rfl, he04⟩
                    · refine L.va rfl (X.fieldAddr rfl Try.underlying69 rfl sz_2 (by decide)) ?_
                      refine L.va rfl (X.load rfl sc_2 (by first | exact Ld.blk kp rfl | exact Ld.blk kq rfl)) ?_
                      refine L.va rfl (X.fieldAddr rfl Try.underlying69 rfl sz_2 (by decide)) ?_
                      refine L.va rfl (X.load rfl sc_2 (by first | exact Ld.blk kp rfl | exact Ld.blk kq rfl)) ?_
                      refine L.va rfl (X.neq rfl rfl) ?_
                      refine L.va rfl (X.pickF rfl (by conv => lhs; whnf)) ?_
                      refine L.va rfl (X.move (by conv => lhs; whnf)) ?_
                      refine L.caseNdec (k := 77) rfl (fun g3 => ?_) (fun g3 => ?_)
                      · rw [eNo (by unfold sameW; exact decide_eq_false (fun h => g3 (congrArg (fun z : WC => z.2.2.2.1) h))), Bool.false_and]
                        refine L.no rfl ?_
                        refine L.no rfl ?_
                        refine L.no rfl ?_
                        refine L.no rfl ?_
                        refine L.no rfl ?_
                        refine L.va rfl (X.pickT rfl (by conv => lhs; whnf)) ?_
                        refine L.va rfl (X.move (by conv => lhs; whnf)) ?_
                        refine L.no rfl ?_
                        refine L.no rfl ?_
                        refine L.no rfl ?_
                        refine L.no rfl ?_
                        refine L.no rfl ?_
                        refine L.no rfl ?_
                        refine L.va rfl (X.pickT rfl (by conv => lhs; whnf)) ?_
                        refine L.nil ?_
                        refine J.iteT rfl ?_
                        refine J.seq ?_
                        refine J.region ?_
                        refine L.va rfl (X.assign (by conv => lhs; whnf)) ?_
                        refine L.nil ?_
                        refine J.ret ?_
                        refine inB_ret <|  thn_ret <|  thn_ret <|  inB_ret <|  thn_ret <| ?_
                        refine fin1 ?_
                        exact ⟨rfl, he04⟩
                      · refine L.va rfl (X.fieldAddr rfl Try.underlying69 rfl sz_2 (by decide)) ?_
                        refine L.va rfl (X.load rfl sc_2 (by first | exact Ld.blk kp rfl | exact Ld.blk kq rfl)) ?_
                        refine L.va rfl (X.fieldAddr rfl Try.underlying69 rfl sz_2 (by decide)) ?_
                        refine L.va rfl (X.load rfl sc_2 (by first | exact Ld.blk kp rfl | exact Ld.blk kq rfl)) ?_
                        refine L.va rfl (X.neq rfl rfl) ?_
                        refine L.va rfl (X.pickF rfl (by conv => lhs; whnf)) ?_
                        refine L.va rfl (X.move (by conv => lhs; whnf)) ?_
                        refine L.caseNdec (k := 84) rfl (fun g4 => ?_) (fun g4 => ?_)
                        · rw [eNo (by unfold sameW; exact decide_eq_false (fun h => g4 (congrArg (fun z : WC => z.2.2.2.2) h))), Bool.false_and]
                          refine L.no rfl ?_
                          refine L.no rfl ?_
                          refine L.no rfl ?_
                          refine L.no rfl ?_
                          refine L.no rfl ?_
                          refine L.no rfl ?_
                          refine L.va rfl (X.pickT rfl (by conv => lhs; whnf)) ?_
                          refine L.nil ?_
                          refine J.iteT rfl ?_
                          refine J.seq ?_
                          refine J.region ?_
                          refine L.va rfl (X.assign (by conv => lhs; whnf)) ?_
                          refine L.nil ?_
                          refine J.ret ?_
                          refine inB_ret <|  thn_ret <|  thn_ret <|  inB_ret <|  thn_ret <| ?_
                          refine fin1 ?_
                          exact ⟨rfl, he04⟩
                        · refine L.va rfl (X.fieldAddr rfl Try.underlying69 rfl sz_67 (by decide)) ?_
                          refine L.va rfl (X.load rfl sc_67 (by first | exact Ld.blk kp rfl | exact Ld.blk kq rfl)) ?_
                          refine L.va rfl (X.fieldAddr rfl Try.underlying69 rfl sz_67 (by decide)) ?_
                          refine L.va rfl (X.load rfl sc_67 (by first | exact Ld.blk kp rfl | exact Ld.blk kq rfl)) ?_
                          have cS := rsame02 p.A p.n p.c q.A q.n q.c p.q q.q w4 hP4.r hQ4.r hP4.len hQ4.len hP4.m hQ4.m (by omega)
                          by_cases g5 : p.q = q.q
                          · rw [decide_eq_true g5] at cS
                            refine L.call rfl en_44 rfl (cS) ?_
                            rintro e w5 ⟨rfl, he5⟩
                            refine ⟨_, rfl, ?_⟩
                            have hk15 := hk14.ext he5
                            have hk5 := hk4.ext he5
                            refine L.va rfl (X.not rfl) ?_
                            refine L.va rfl (X.pickF rfl (by conv => lhs; whnf)) ?_
                            refine L.nil ?_
                            refine J.iteF rfl ?_
                            refine J.skip ?_
                            refine J.region ?_
                            refine L.va rfl (X.move (by conv => lhs; whnf)) ?_
                            refine L.va rfl (X.add rfl rfl (by omega)) ?_
                            refine L.va rfl (X.assign (by conv => lhs; whnf)) ?_
                            refine L.nil ?_
                            refine ⟨i + 1, At1 (by first | rfl | exact at_int rfl (by omega) | exact at_slice rfl (by omega) | exact at_int rfl (by simp)), (by (iterate 41 refine Agr.lk rfl ?_); refine Agr.lk rfl ?_; refine Agr.hav rfl ?_; (iterate 5 refine Agr.lk rfl ?_); exact Agr.lk rfl (Agr.hav rfl Agr.rfl')), ?_⟩
                            have e : p.con = q.con := by
                              show (p.s, p.a, p.q, p.lo, p.hi) = (q.s, q.a, q.q, q.lo, q.hi)
                              rw [show p.s = q.s from g1, show p.a = q.a from g2, show p.lo = q.lo from g3, show p.hi = q.hi from g4, g5]
                            refine ⟨⟨by omega, fun j hj => ?_, (he3.trans he4).trans he5⟩, by omega⟩
                            rcases Nat.lt_or_ge j i with h | h
                            · exact hP j h
                            · obtain rfl : j = i := by omega
                              rw [ex, ey, e]
                              exact decide_eq_true rfl
                          · rw [decide_eq_false g5] at cS
                            rw [eNo (by unfold sameW; exact decide_eq_false (fun h => g5 (congrArg (fun z : WC => z.2.2.1) h))), Bool.false_and]
                            refine L.call rfl en_44 rfl (cS) ?_
                            rintro e w5 ⟨rfl, he5⟩
                            refine ⟨_, rfl, ?_⟩
                            refine L.va rfl (X.not rfl) ?_
                            refine L.va rfl (X.pickF rfl (by conv => lhs; whnf)) ?_
                            refine L.nil ?_
                            refine J.iteT rfl ?_
                            refine J.seq ?_
                            refine J.region ?_
                            refine L.va rfl (X.assign (by conv => lhs; whnf)) ?_
                            refine L.nil ?_
                            refine J.ret ?_
                            refine inB_ret <|  thn_ret <|  thn_ret <|  inB_ret <|  thn_ret <| ?_
                            refine fin1 ?_
                            exact ⟨rfl, he04.trans he5⟩
              · refine J.exit ?_
                refine ⟨(), At0 , (by (iterate 5 refine Agr.lk rfl ?_); refine Agr.lk rfl ?_; refine Agr.hav rfl ?_; (iterate 1 refine Agr.lk rfl ?_); exact Agr.rfl'), ?_⟩
                obtain rfl : i = x.ni := by omega
                refine ⟨eqL_yes (by show (x.is.map Wh.con).length = (y.is.map Wh.con).length; rw [List.length_map, List.length_map]; omega) (fun j hj => ?_), he3⟩
                show sameW ((x.is.map Wh.con).getD j wc0) ((y.is.map Wh.con).getD j wc0) = true
                rw [con_atWh, con_atWh]
                exact hP j (by have : j < (x.is.map Wh.con).length := hj; rw [List.length_map] at this; omega)
          · rintro _ g w3 ⟨hE1, he3⟩
            rw [hE1, Bool.true_and]
            have hnr : x.nr = y.nr := by omega
            have hk13 := hk12.ext he3
            have hk3 := hk2.ext he3
            have he03 := he.trans he3
            have z3 := he03.le
            refine J.seq ?_
            refine J.seq ?_
            refine J.region ?_
            refine L.va rfl (X.assign (by conv => lhs; whnf)) ?_
            refine L.nil ?_
            refine J.block ?_
            refine J.loop (X := Nat) [4, 8, 9, 10, 92, 93, 94, 95, 96, 97, 98, 99, 100, 101, 102, 103, 104, 105, 106, 107, 108, 109, 110, 111, 112, 113, 114, 115, 116, 117, 118, 119, 120, 121, 122, 123, 124, 125, 126, 127, 128, 129, 130, 131] (fun i => [(8, .int .i64 (i : Int))]) (fun i w' => i ≤ x.nr ∧ (∀ j, j < i → sameR (x.rs.getD j re0).con (y.rs.getD j re0).con = true) ∧ Ext w3 w') (fun i => x.nr - i) (0) (At1 (by first | rfl | exact at_int rfl (by omega) | exact at_slice rfl (by omega) | exact at_int rfl (by simp))) ?_ ?_
            · exact ⟨Nat.zero_le _, fun j hj => absurd hj (by omega), Ext.refl _⟩
            · rintro i g w4 ⟨hi, hP, he4⟩
              have hk14 := hk13.ext he4
              have hk4 := hk3.ext he4
              have he04 := he03.trans he4
              have z4 := he04.le
              refine J.seq ?_
              refine J.seq ?_
              refine J.region ?_
              refine L.va rfl (X.move (by conv => lhs; whnf)) ?_
              refine L.va rfl (X.fieldAddr rfl Try.underlying48 rfl sz_46 (by decide)) ?_
              refine L.va rfl (X.load rfl sc_46 (by first | exact Ld.blk hk14 rfl | exact Ld.blk hk4 rfl)) ?_
              refine L.va rfl (X.len rfl Try.underlying46) ?_
              refine L.va rfl (X.lss rfl rfl) ?_
              refine L.nil ?_
              refine J.dec rfl (fun hlt => ?_) (fun hlt => ?_)
              · have hin : i < x.nr := by omega
                have hra := hx.r.ext he04
                have hrb := hy.r.ext he04
                have hA := hra.some_ (by omega)
                have hB := hrb.some_ (by omega)
                have gx := gtR (l := x.rs) (i := i) (by omega)
                have gy := gtR (l := y.rs) (i := i) (by omega)
                have hX := (hx.re (i := i) hin).ext he04
                have hY := (hy.re (i := i) (by omega)).ext he04
                generalize ex : x.rs.getD i re0 = p at gx hX
                generalize ey : y.rs.getD i re0 = q at gy hY
                refine J.skip ?_
                refine J.seq ?_
                refine J.block ?_
                refine J.cut (X := Nat × Nat) [9, 10, 99, 100, 101, 102, 103, 104, 105, 106, 107, 108] (fun (b6, b7) => [(9, .pointer (some ⟨b6, 0, none⟩)), (10, .pointer (some ⟨b7, 0, none⟩))]) (fun (b6, b7) w' => Blk w' b6 72 p.vs.toArray ∧ Blk w' b7 72 q.vs.toArray ∧ Ext w4 w') ?_ ?_
                · skip
                  refine J.draw (ℓ := 1000000) (S := Ext w4) mixed (fun w5 hS hS_h => ?_)
                  refine D.va 0 rfl (by kernel_rfl) (fun _ _ _ h => h) rfl (fun w' hw => X.fieldAddr rfl Try.underlying48 rfl sz_46 (by decide)) hS ?_
                  refine D.va 1 rfl (by kernel_rfl) (fun _ _ _ h => h) rfl (fun w' hw => X.load rfl sc_46 (by first | exact Ld.blk (hk14.ext hw) rfl | exact Ld.blk (hk4.ext hw) rfl | exact hA | exact hB)) hS ?_
                  refine D.va 2 rfl (by kernel_rfl) (fun _ _ _ h => h) rfl (fun w' hw => X.move (by conv => lhs; whnf)) hS ?_
                  refine D.va 3 rfl (by kernel_rfl) (fun _ _ _ h => h) rfl (fun w' hw => (by first | exact X.indexAddrn rfl rfl Try.underlying46 sz_72 (by first | exact Option.some_ne_none _ | exact hA | exact hB) (by omega) | exact X.indexAddr rfl rfl Try.underlying46 sz_72 (by first | exact Option.some_ne_none _ | exact hA | exact hB) (by omega))) hS ?_
                  refine D.va 4 rfl (by kernel_rfl) (fun _ _ _ h => h) rfl (fun w' hw => X.loadRow (cs := p.vs) rfl (hra.ext hw) (fun r u hu => flat_row re_len gx r u hu) (Nat.zero_lt_succ _) Try.underlying72 rfl (by kernel_rfl)) hS ?_
                  refine D.va 5 rfl (by kernel_rfl) (fun _ _ _ h => h) rfl (fun w' hw => X.fieldAddr rfl Try.underlying48 rfl sz_46 (by decide)) hS ?_
                  refine D.va 6 rfl (by kernel_rfl) (fun _ _ _ h => h) rfl (fun w' hw => X.load rfl sc_46 (by first | exact Ld.blk (hk14.ext hw) rfl | exact Ld.blk (hk4.ext hw) rfl | exact hA | exact hB)) hS ?_
                  refine D.va 7 rfl (by kernel_rfl) (fun _ _ _ h => h) rfl (fun w' hw => X.move (by conv => lhs; whnf)) hS ?_
                  refine D.va 8 rfl (by kernel_rfl) (fun _ _ _ h => h) rfl (fun w' hw => (by first | exact X.indexAddrn rfl rfl Try.underlying46 sz_72 (by first | exact Option.some_ne_none _ | exact hA | exact hB) (by omega) | exact X.indexAddr rfl rfl Try.underlying46 sz_72 (by first | exact Option.some_ne_none _ | exact hA | exact hB) (by omega))) hS ?_
                  refine D.va 9 rfl (by kernel_rfl) (fun _ _ _ h => h) rfl (fun w' hw => X.loadRow (cs := q.vs) rfl (hrb.ext hw) (fun r u hu => flat_row re_len gy r u hu) (Nat.zero_lt_succ _) Try.underlying72 rfl (by kernel_rfl)) hS ?_
                  refine D.two 10 11 (by kernel_rfl) rfl rfl ?_ ?_
                  · refine L.alloc rfl zr_72 ?_
                    intro b6 w6 hb6 hs6 hk6 he6
                    have hS1 := hS.trans he6
                    refine L.nil ?_
                    refine ⟨fun _ => hS1, ?_⟩
                    refine D.one 11 (by kernel_rfl) rfl ?_
                    refine L.alloc rfl zr_72 ?_
                    intro b7 w7 hb7 hs7 hk7 he7
                    have hS2 := hS1.trans he7
                    refine L.nil ?_
                    refine ⟨fun _ => hS2, ?_⟩
                    have hk67 := hk6.ext he7
                    have zS := hS.le
                    refine D.one 12 (by kernel_rfl) rfl ?_
                    refine L.storeAgg (vs := [_, _, _]) rfl rfl rfl rfl sz_72 (hk67) rfl ?_
                    intro w8 hk8 hg8 hs8
                    have hS3 := hS2.grw hg8 (by intro g hg; injection hg with hg; omega)
                    refine L.nil ?_
                    refine ⟨fun _ => hS3, ?_⟩
                    have hk78 := hk7.grown hg8 (by intro e; injection e with e; omega)
                    refine D.one 13 (by kernel_rfl) rfl ?_
                    refine L.storeAgg (vs := [_, _, _]) rfl rfl rfl rfl sz_72 (hk78) rfl ?_
                    intro w9 hk9 hg9 hs9
                    have hS4 := hS3.grw hg9 (by intro g hg; injection hg with hg; omega)
                    refine L.nil ?_
                    refine ⟨fun _ => hS4, ?_⟩
                    have hk89 := hk8.grown hg9 (by intro e; injection e with e; omega)
                    refine D.done (by kernel_rfl) ?_
                    replace hk14 := hk14.ext hS4
                    replace hk4 := hk4.ext hS4
                    refine ⟨(b6, b7), At2 (by first | rfl | exact at_int rfl (by omega) | exact at_slice rfl (by omega) | exact at_int rfl (by simp)) (by first | rfl | exact at_int rfl (by omega) | exact at_slice rfl (by omega) | exact at_int rfl (by simp)), (by (iterate 12 refine Agr.lk rfl ?_); exact Agr.rfl'), ?_⟩
                    exact ⟨hk89, hk9, hS4⟩
                  · refine L.alloc rfl zr_72 ?_
                    intro b7 w7 hb7 hs7 hk7 he7
                    have hS1 := hS.trans he7
                    refine L.nil ?_
                    refine ⟨fun _ => hS1, ?_⟩
                    refine D.one 10 (by kernel_rfl) rfl ?_
                    refine L.alloc rfl zr_72 ?_
                    intro b6 w6 hb6 hs6 hk6 he6
                    have hS2 := hS1.trans he6
                    refine L.nil ?_
                    refine ⟨fun _ => hS2, ?_⟩
                    have hk76 := hk7.ext he6
                    have zS := hS.le
                    refine D.one 12 (by kernel_rfl) rfl ?_
                    refine L.storeAgg (vs := [_, _, _]) rfl rfl rfl rfl sz_72 (hk6) rfl ?_
                    intro w8 hk8 hg8 hs8
                    have hS3 := hS2.grw hg8 (by intro g hg; injection hg with hg; omega)
                    refine L.nil ?_
                    refine ⟨fun _ => hS3, ?_⟩
                    have hk78 := hk76.grown hg8 (by intro e; injection e with e; omega)
                    refine D.one 13 (by kernel_rfl) rfl ?_
                    refine L.storeAgg (vs := [_, _, _]) rfl rfl rfl rfl sz_72 (hk78) rfl ?_
                    intro w9 hk9 hg9 hs9
                    have hS4 := hS3.grw hg9 (by intro g hg; injection hg with hg; omega)
                    refine L.nil ?_
                    refine ⟨fun _ => hS4, ?_⟩
                    have hk89 := hk8.grown hg9 (by intro e; injection e with e; omega)
                    refine D.done (by kernel_rfl) ?_
                    replace hk14 := hk14.ext hS4
                    replace hk4 := hk4.ext hS4
                    refine ⟨(b6, b7), At2 (by first | rfl | exact at_int rfl (by omega) | exact at_slice rfl (by omega) | exact at_int rfl (by simp)) (by first | rfl | exact at_int rfl (by omega) | exact at_slice rfl (by omega) | exact at_int rfl (by simp)), (by (iterate 12 refine Agr.lk rfl ?_); exact Agr.rfl'), ?_⟩
                    exact ⟨hk89, hk9, hS4⟩
                · rintro ⟨b6, b7⟩ g w5 ⟨kp, kq, he5⟩
                  have z5 := he5.le
                  have hk15 := hk14.ext he5
                  have hk5 := hk4.ext he5
                  have hP5 := hX.ext he5
                  have hQ5 := hY.ext he5
                  have he05 := he04.trans he5
                  have eNo : sameR p.con q.con = false → eqL sameR rc0 x.con.rs y.con.rs = false := fun h => eqL_no (i := i) (by show i < (x.rs.map Re.con).length; rw [List.length_map]; omega) (by
                    show sameR ((x.rs.map Re.con).getD i rc0) ((y.rs.map Re.con).getD i rc0) = false
                    rw [con_atRe, con_atRe, ex, ey]
                    exact h)
                  have r1 : sameR p.con q.con = (decide (p.b = q.b) && (sameF p.lo q.lo && sameF p.hi q.hi)) := rfl
                  refine J.seq ?_
                  refine J.region ?_
                  refine L.va rfl (X.fieldAddr rfl Try.underlying72 rfl sz_37 (by decide)) ?_
                  refine L.va rfl (X.load rfl sc_37 (by first | exact Ld.blk kp rfl | exact Ld.blk kq rfl)) ?_
                  refine L.va rfl (X.conv rfl (hP5.r.conv Try.underlying37 Try.underlying5 Try.underlying9)) ?_
                  refine L.va rfl (X.fieldAddr rfl Try.underlying72 rfl sz_37 (by decide)) ?_
                  refine L.va rfl (X.load rfl sc_37 (by first | exact Ld.blk kp rfl | exact Ld.blk kq rfl)) ?_
                  refine L.va rfl (X.conv rfl (hQ5.r.conv Try.underlying37 Try.underlying5 Try.underlying9)) ?_
                  refine L.va rfl (X.neqS rfl rfl) ?_
                  refine L.va rfl (X.move (by conv => lhs; whnf)) ?_
                  refine L.caseNdec (k := 116) rfl (fun g1 => ?_) (fun g1 => ?_)
                  · rw [eNo (by rw [r1, decide_eq_false (fun h => g1 (by rw [h]))]; rfl)]
                    refine L.no rfl ?_
                    refine L.no rfl ?_
                    refine L.no rfl ?_
                    refine L.no rfl ?_
                    refine L.no rfl ?_
                    refine L.no rfl ?_
                    refine L.va rfl (X.pickT rfl (by conv => lhs; whnf)) ?_
                    refine L.va rfl (X.move (by conv => lhs; whnf)) ?_
                    refine L.no rfl ?_
                    refine L.no rfl ?_
                    refine L.no rfl ?_
                    refine L.no rfl ?_
                    refine L.no rfl ?_
                    refine L.no rfl ?_
                    refine L.va rfl (X.pickT rfl (by conv => lhs; whnf)) ?_
                    refine L.nil ?_
                    refine J.iteT rfl ?_
                    refine J.seq ?_
                    refine J.region ?_
                    refine L.va rfl (X.assign (by conv => lhs; whnf)) ?_
                    refine L.nil ?_
                    refine J.ret ?_
                    refine inB_ret <|  thn_ret <|  thn_ret <|  inB_ret <|  thn_ret <| ?_
                    refine fin1 ?_
                    exact ⟨rfl, he05⟩
                  · have eb : p.b = q.b := strOfNums_inj hP5.o.b hQ5.o.b (by rw [g1])
                    have cL := same03 p.lo q.lo w5 hP5.o.lo hQ5.o.lo
                    refine L.va rfl (X.fieldAddr rfl Try.underlying72 rfl sz_70 (by decide)) ?_
                    refine L.va rfl (X.load rfl sc_70 (by first | exact Ld.blk kp rfl | exact Ld.blk kq rfl)) ?_
                    refine L.va rfl (X.fieldAddr rfl Try.underlying72 rfl sz_70 (by decide)) ?_
                    refine L.va rfl (X.load rfl sc_70 (by first | exact Ld.blk kp rfl | exact Ld.blk kq rfl)) ?_
                    cases hlo : sameF p.lo q.lo
                    · rw [hlo] at cL
                      rw [eNo (by rw [r1, hlo, Bool.false_and, Bool.and_false])]
                      refine L.call rfl en_45 rfl (cL) ?_
                      rintro e w6 ⟨rfl, he6⟩
                      refine ⟨_, rfl, ?_⟩
                      refine L.va rfl (X.not rfl) ?_
                      refine L.va rfl (X.pickF rfl (by conv => lhs; whnf)) ?_
                      refine L.va rfl (X.move (by conv => lhs; whnf)) ?_
                      refine L.caseBT (k := 124) rfl (by rfl) ?_
                      refine L.no rfl ?_
                      refine L.no rfl ?_
                      refine L.no rfl ?_
                      refine L.no rfl ?_
                      refine L.no rfl ?_
                      refine L.no rfl ?_
                      refine L.va rfl (X.pickT rfl (by conv => lhs; whnf)) ?_
                      refine L.nil ?_
                      refine J.iteT rfl ?_
                      refine J.seq ?_
                      refine J.region ?_
                      refine L.va rfl (X.assign (by conv => lhs; whnf)) ?_
                      refine L.nil ?_
                      refine J.ret ?_
                      refine inB_ret <|  thn_ret <|  thn_ret <|  inB_ret <|  thn_ret <| ?_
                      refine fin1 ?_
                      exact ⟨rfl, he05.trans he6⟩
                    · rw [hlo] at cL
                      refine L.call rfl en_45 rfl (cL) ?_
                      rintro e w6 ⟨rfl, he6⟩
                      refine ⟨_, rfl, ?_⟩
                      have he6 : Ext w5 w6 := he6
                      have he06 := he05.trans he6
                      have hk16 := hk15.ext he6
                      have hk6 := hk5.ext he6
                      replace kp := kp.ext he6
                      replace kq := kq.ext he6
                      have cH := same03 p.hi q.hi w6 hP5.o.hi hQ5.o.hi
                      refine L.va rfl (X.not rfl) ?_
                      refine L.va rfl (X.pickF rfl (by conv => lhs; whnf)) ?_
                      refine L.va rfl (X.move (by conv => lhs; whnf)) ?_
                      refine L.caseBF (k := 124) rfl (by rfl) ?_
                      refine L.va rfl (X.fieldAddr rfl Try.underlying72 rfl sz_70 (by decide)) ?_
                      refine L.va rfl (X.load rfl sc_70 (by first | exact Ld.blk kp rfl | exact Ld.blk kq rfl)) ?_
                      refine L.va rfl (X.fieldAddr rfl Try.underlying72 rfl sz_70 (by decide)) ?_
                      refine L.va rfl (X.load rfl sc_70 (by first | exact Ld.blk kp rfl | exact Ld.blk kq rfl)) ?_
                      cases hhi : sameF p.hi q.hi
                      · rw [hhi] at cH
                        rw [eNo (by rw [r1, hhi, Bool.and_false, Bool.and_false])]
                        refine L.call rfl en_45 rfl (cH) ?_
                        rintro e w7 ⟨rfl, he7⟩
                        refine ⟨_, rfl, ?_⟩
                        refine L.va rfl (X.not rfl) ?_
                        refine L.va rfl (X.pickF rfl (by conv => lhs; whnf)) ?_
                        refine L.nil ?_
                        refine J.iteT rfl ?_
                        refine J.seq ?_
                        refine J.region ?_
                        refine L.va rfl (X.assign (by conv => lhs; whnf)) ?_
                        refine L.nil ?_
                        refine J.ret ?_
                        refine inB_ret <|  thn_ret <|  thn_ret <|  inB_ret <|  thn_ret <| ?_
                        refine fin1 ?_
                        exact ⟨rfl, he06.trans he7⟩
                      · rw [hhi] at cH
                        refine L.call rfl en_45 rfl (cH) ?_
                        rintro e w7 ⟨rfl, he7⟩
                        refine ⟨_, rfl, ?_⟩
                        have he7 : Ext w6 w7 := he7
                        have hk17 := hk16.ext he7
                        have hk7 := hk6.ext he7
                        refine L.va rfl (X.not rfl) ?_
                        refine L.va rfl (X.pickF rfl (by conv => lhs; whnf)) ?_
                        refine L.nil ?_
                        refine J.iteF rfl ?_
                        refine J.skip ?_
                        refine J.region ?_
                        refine L.va rfl (X.move (by conv => lhs; whnf)) ?_
                        refine L.va rfl (X.add rfl rfl (by omega)) ?_
                        refine L.va rfl (X.assign (by conv => lhs; whnf)) ?_
                        refine L.nil ?_
                        refine ⟨i + 1, At1 (by first | rfl | exact at_int rfl (by omega) | exact at_slice rfl (by omega) | exact at_int rfl (by simp)), (by (iterate 28 refine Agr.lk rfl ?_); refine Agr.lk rfl ?_; refine Agr.hav rfl ?_; (iterate 5 refine Agr.lk rfl ?_); exact Agr.lk rfl (Agr.hav rfl Agr.rfl')), ?_⟩
                        refine ⟨⟨by omega, fun j hj => ?_, ((he4.trans he5).trans he6).trans he7⟩, by omega⟩
                        rcases Nat.lt_or_ge j i with h | h
                        · exact hP j h
                        · obtain rfl : j = i := by omega
                          rw [ex, ey, r1, decide_eq_true eb, hlo, hhi]
                          rfl
              · refine J.exit ?_
                refine J.seq ?_
                refine J.region ?_
                refine L.va rfl (X.assign (by conv => lhs; whnf)) ?_
                refine L.nil ?_
                refine J.ret ?_
                refine fin1 ?_
                obtain rfl : i = x.nr := by omega
                have e2 : eqL sameR rc0 x.con.rs y.con.rs = true := eqL_yes (by show (x.rs.map Re.con).length = (y.rs.map Re.con).length; rw [List.length_map, List.length_map]; omega) (fun j hj => by
                  show sameR ((x.rs.map Re.con).getD j rc0) ((y.rs.map Re.con).getD j rc0) = true
                  rw [con_atRe, con_atRe]
                  exact hP j (by have : j < (x.rs.map Re.con).length := hj; rw [List.length_map] at this; omega))
                rw [e2]
                exact ⟨rfl, he04⟩
end Go.Proofs.Ytnndkepnabddgaa
namespace Go.Proofs.Ytnndkepnabddgaa
set_option maxRecDepth 100000
open Go.RowKit H
set_option linter.unusedVariables false
structure Ce.Lt (x : Ce) : Prop where
  i : x.ni ≤ 10
  r : x.nr ≤ 10
  li : ∀ y ∈ x.is, y.n ≤ 20
  lr : ∀ y ∈ x.rs, y.n ≤ 300
theorem rlight14 {x : Ce} {w : World} {N : Nat} (hx : x.At N w) (hN : N ≤ w.heap.size) : Calls Try.prog 25 #[x.val] w fun e w' => Ext w w' ∧ ∃ z : Bool, e = .returned (.bool z) ∧ (z = true → x.Lt) := by
  have lxi := hx.li
  have lxr := hx.lr
  have mi := hx.mi
  have mr := hx.mr
  unfold maxLen at mi mr
  refine enter Try.func25 rfl (by kernel_rfl) ?_
  refine J.seq ?_
  refine J.region ?_
  refine L.boxA (l := [_, _, _, _]) rfl rfl ?_
  intro b1 w1 hb1 hs1 hk1 he1
  have hra := hx.i.ext he1
  have hrb := hx.r.ext he1
  refine L.va rfl (X.assign (by conv => lhs; whnf)) ?_
  refine L.nil ?_
  refine J.seq ?_
  refine J.seq ?_
  refine J.region ?_
  refine L.va rfl (X.fieldAddr rfl Try.underlying48 rfl sz_45 (by decide)) ?_
  refine L.va rfl (X.load rfl sc_45 (by first | exact Ld.blk hk1 rfl)) ?_
  refine L.va rfl (X.len rfl Try.underlying45) ?_
  refine L.va rfl (X.gtr rfl rfl) ?_
  refine L.va rfl (X.move (by conv => lhs; whnf)) ?_
  refine L.caseDec (k := 9) rfl (fun h1 => ?_) (fun h1 => ?_)
  · refine L.no rfl ?_
    refine L.no rfl ?_
    refine L.no rfl ?_
    refine L.no rfl ?_
    refine L.va rfl (X.pickT rfl (by conv => lhs; whnf)) ?_
    refine L.nil ?_
    refine J.iteT rfl ?_
    refine J.seq ?_
    refine J.region ?_
    refine L.va rfl (X.assign (by conv => lhs; whnf)) ?_
    refine L.nil ?_
    refine J.ret ?_
    refine thn_ret <| ?_
    refine fin1 ?_
    exact ⟨he1, _, rfl, fun h => by cases h⟩
  · refine L.va rfl (X.fieldAddr rfl Try.underlying48 rfl sz_46 (by decide)) ?_
    refine L.va rfl (X.load rfl sc_46 (by first | exact Ld.blk hk1 rfl)) ?_
    refine L.va rfl (X.len rfl Try.underlying46) ?_
    refine L.va rfl (X.gtr rfl rfl) ?_
    refine L.va rfl (X.pickF rfl (by conv => lhs; whnf)) ?_
    refine L.nil ?_
    refine J.dec rfl (fun h2 => ?_) (fun h2 => ?_)
    · refine J.seq ?_
      refine J.region ?_
      refine L.va rfl (X.assign (by conv => lhs; whnf)) ?_
      refine L.nil ?_
      refine J.ret ?_
      refine thn_ret <| ?_
      refine fin1 ?_
      exact ⟨he1, _, rfl, fun h => by cases h⟩
    · refine J.skip ?_
      refine J.cut (X := Unit) [2, 3, 15, 16, 17, 18, 19, 20, 21, 22, 23, 24, 25, 26, 27, 28, 29] (fun _ => []) (fun _ w' => (∀ y ∈ x.is, y.n ≤ 20) ∧ w1 = w') ?_ ?_
      · refine J.seq ?_
        refine J.region ?_
        refine L.va rfl (X.assign (by conv => lhs; whnf)) ?_
        refine L.nil ?_
        refine J.block ?_
        refine J.loop (X := Nat) [2, 3, 15, 16, 17, 18, 19, 20, 21, 22, 23, 24, 25, 26, 27, 28, 29] (fun i => [(3, .int .i64 (i : Int))]) (fun i w' => i ≤ x.ni ∧ (∀ j, j < i → (x.is.getD j wh0).n ≤ 20) ∧ w1 = w') (fun i => x.ni - i) (0) (At1 (by first | rfl | exact at_int rfl (by omega) | exact at_slice rfl (by omega) | exact at_int rfl (by simp))) ?_ ?_
        · exact ⟨Nat.zero_le _, fun j hj => absurd hj (by omega), rfl⟩
        · rintro i g w2 ⟨hi, hP, rfl⟩
          refine J.seq ?_
          refine J.seq ?_
          refine J.region ?_
          refine L.va rfl (X.move (by conv => lhs; whnf)) ?_
          refine L.va rfl (X.fieldAddr rfl Try.underlying48 rfl sz_45 (by decide)) ?_
          refine L.va rfl (X.load rfl sc_45 (by first | exact Ld.blk hk1 rfl)) ?_
          refine L.va rfl (X.len rfl Try.underlying45) ?_
          refine L.va rfl (X.lss rfl rfl) ?_
          refine L.nil ?_
          refine J.dec rfl (fun hlt => ?_) (fun hlt => ?_)
          · have hA := hra.some_ (by omega)
            have gx := gtW (l := x.is) (i := i) (by omega)
            refine J.skip ?_
            refine J.seq ?_
            refine J.block ?_
            refine J.seq ?_
            refine J.region ?_
            refine L.va rfl (X.fieldAddr rfl Try.underlying48 rfl sz_45 (by decide)) ?_
            refine L.va rfl (X.load rfl sc_45 (by first | exact Ld.blk hk1 rfl | exact hA | exact Ld.flat2 wh_len hra gx (r := 2) rfl)) ?_
            refine L.va rfl (X.move (by conv => lhs; whnf)) ?_
            refine L.va rfl ((by first | exact X.indexAddrn rfl rfl Try.underlying45 sz_69 (by first | exact Option.some_ne_none _ | exact hA) (by omega) | exact X.indexAddr rfl rfl Try.underlying45 sz_69 (by first | exact Option.some_ne_none _ | exact hA) (by omega))) ?_
            refine L.va rfl (X.fieldP rfl Try.underlying69 rfl sz_67 (by decide) (by first | exact Option.some_ne_none _ | exact hA)) ?_
            refine L.va rfl (X.load rfl sc_67 (by first | exact Ld.blk hk1 rfl | exact hA | exact Ld.flat2 wh_len hra gx (r := 2) rfl)) ?_
            refine L.va rfl (X.len rfl Try.underlying67) ?_
            refine L.va rfl (X.gtr rfl rfl) ?_
            refine L.nil ?_
            refine J.dec rfl (fun h3 => ?_) (fun h3 => ?_)
            · refine J.seq ?_
              refine J.region ?_
              refine L.va rfl (X.assign (by conv => lhs; whnf)) ?_
              refine L.nil ?_
              refine J.ret ?_
              refine inB_ret <|  thn_ret <|  thn_ret <|  inB_ret <|  thn_ret <| ?_
              refine fin1 ?_
              exact ⟨he1, _, rfl, fun h => by cases h⟩
            · refine J.skip ?_
              refine J.region ?_
              refine L.va rfl (X.move (by conv => lhs; whnf)) ?_
              refine L.va rfl (X.add rfl rfl (by omega)) ?_
              refine L.va rfl (X.assign (by conv => lhs; whnf)) ?_
              refine L.nil ?_
              refine ⟨i + 1, At1 (by first | rfl | exact at_int rfl (by omega) | exact at_slice rfl (by omega) | exact at_int rfl (by simp)), (by (iterate 16 refine Agr.lk rfl ?_); exact Agr.lk rfl (Agr.hav rfl Agr.rfl')), ?_⟩
              refine ⟨⟨by omega, fun j hj => ?_, rfl⟩, by omega⟩
              rcases Nat.lt_or_ge j i with h | h
              · exact hP j h
              · obtain rfl : j = i := by omega
                omega
          · refine J.exit ?_
            refine ⟨(), At0 , (by (iterate 5 refine Agr.lk rfl ?_); refine Agr.lk rfl ?_; refine Agr.hav rfl ?_; (iterate 1 refine Agr.lk rfl ?_); exact Agr.rfl'), ?_⟩
            refine ⟨fun y hy => ?_, rfl⟩
            obtain ⟨j, hj, rfl⟩ := List.getElem_of_mem hy
            have := hP j (by omega)
            rwa [List.getD, List.getElem?_eq_getElem hj] at this
      · rintro _ g w2 ⟨hI, rfl⟩
        refine J.seq ?_
        refine J.seq ?_
        refine J.region ?_
        refine L.va rfl (X.assign (by conv => lhs; whnf)) ?_
        refine L.nil ?_
        refine J.block ?_
        refine J.loop (X := Nat) [2, 4, 30, 31, 32, 33, 34, 35, 36, 37, 38, 39, 40, 41, 42, 43, 44] (fun i => [(4, .int .i64 (i : Int))]) (fun i w' => i ≤ x.nr ∧ (∀ j, j < i → (x.rs.getD j re0).n ≤ 300) ∧ w1 = w') (fun i => x.nr - i) (0) (At1 (by first | rfl | exact at_int rfl (by omega) | exact at_slice rfl (by omega) | exact at_int rfl (by simp))) ?_ ?_
        · exact ⟨Nat.zero_le _, fun j hj => absurd hj (by omega), rfl⟩
        · rintro i g w2 ⟨hi, hP, rfl⟩
          refine J.seq ?_
          refine J.seq ?_
          refine J.region ?_
          refine L.va rfl (X.move (by conv => lhs; whnf)) ?_
          refine L.va rfl (X.fieldAddr rfl Try.underlying48 rfl sz_46 (by decide)) ?_
          refine L.va rfl (X.load rfl sc_46 (by first | exact Ld.blk hk1 rfl)) ?_
          refine L.va rfl (X.len rfl Try.underlying46) ?_
          refine L.va rfl (X.lss rfl rfl) ?_
          refine L.nil ?_
          refine J.dec rfl (fun hlt => ?_) (fun hlt => ?_)
          · have hA := hrb.some_ (by omega)
            have gx := gtR (l := x.rs) (i := i) (by omega)
            have h0 := Ld.flat2 re_len hrb gx (r := 0) rfl
            rw [Nat.add_zero] at h0
            refine J.skip ?_
            refine J.seq ?_
            refine J.block ?_
            refine J.seq ?_
            refine J.region ?_
            refine L.va rfl (X.fieldAddr rfl Try.underlying48 rfl sz_46 (by decide)) ?_
            refine L.va rfl (X.load rfl sc_46 (by first | exact Ld.blk hk1 rfl | exact hA | exact h0 | exact Ld.flat2 re_len hrb gx (r := 0) rfl)) ?_
            refine L.va rfl (X.move (by conv => lhs; whnf)) ?_
            refine L.va rfl ((by first | exact X.indexAddrn rfl rfl Try.underlying46 sz_72 (by first | exact Option.some_ne_none _ | exact hA | exact h0) (by omega) | exact X.indexAddr rfl rfl Try.underlying46 sz_72 (by first | exact Option.some_ne_none _ | exact hA | exact h0) (by omega))) ?_
            refine L.va rfl (X.fieldP rfl Try.underlying72 rfl sz_37 (by decide) (by first | exact Option.some_ne_none _ | exact hA | exact h0)) ?_
            refine L.va rfl (X.load rfl sc_37 (by first | exact Ld.blk hk1 rfl | exact hA | exact h0 | exact Ld.flat2 re_len hrb gx (r := 0) rfl)) ?_
            refine L.va rfl (X.len rfl Try.underlying37) ?_
            refine L.va rfl (X.gtr rfl rfl) ?_
            refine L.nil ?_
            refine J.dec rfl (fun h3 => ?_) (fun h3 => ?_)
            · refine J.seq ?_
              refine J.region ?_
              refine L.va rfl (X.assign (by conv => lhs; whnf)) ?_
              refine L.nil ?_
              refine J.ret ?_
              refine inB_ret <|  thn_ret <|  thn_ret <|  inB_ret <|  thn_ret <| ?_
              refine fin1 ?_
              exact ⟨he1, _, rfl, fun h => by cases h⟩
            · refine J.skip ?_
              refine J.region ?_
              refine L.va rfl (X.move (by conv => lhs; whnf)) ?_
              refine L.va rfl (X.add rfl rfl (by omega)) ?_
              refine L.va rfl (X.assign (by conv => lhs; whnf)) ?_
              refine L.nil ?_
              refine ⟨i + 1, At1 (by first | rfl | exact at_int rfl (by omega) | exact at_slice rfl (by omega) | exact at_int rfl (by simp)), (by (iterate 16 refine Agr.lk rfl ?_); exact Agr.lk rfl (Agr.hav rfl Agr.rfl')), ?_⟩
              refine ⟨⟨by omega, fun j hj => ?_, rfl⟩, by omega⟩
              rcases Nat.lt_or_ge j i with h | h
              · exact hP j h
              · obtain rfl : j = i := by omega
                omega
          · refine J.exit ?_
            refine J.seq ?_
            refine J.region ?_
            refine L.va rfl (X.assign (by conv => lhs; whnf)) ?_
            refine L.nil ?_
            refine J.ret ?_
            refine fin1 ?_
            refine ⟨he1, _, rfl, fun _ => ⟨by omega, by omega, hI, fun y hy => ?_⟩⟩
            obtain ⟨j, hj, rfl⟩ := List.getElem_of_mem hy
            have := hP j (by omega)
            rwa [List.getD, List.getElem?_eq_getElem hj] at this
theorem rlight15 {s : Ces} {w : World} {N : Nat} (hs : s.At N w) (hN : N ≤ w.heap.size) : Calls Try.prog 11 #[s.val] w fun e w' => Ext w w' ∧ ∃ z : Bool, e = .returned (.bool z) ∧ (z = true → s.n ≤ 60 ∧ ∀ x ∈ s.l, x.Lt) := by
  have ls := hs.l
  have ms := hs.m
  unfold maxLen at ms
  refine enter Try.func11 rfl (by kernel_rfl) ?_
  refine J.seq ?_
  refine J.region ?_
  refine L.va rfl (X.assign (by conv => lhs; whnf)) ?_
  refine L.nil ?_
  refine J.seq ?_
  refine J.seq ?_
  refine J.region ?_
  refine L.va rfl (X.move (by conv => lhs; whnf)) ?_
  refine L.va rfl (X.len rfl Try.underlying25) ?_
  refine L.va rfl (X.gtr rfl rfl) ?_
  refine L.nil ?_
  refine J.dec rfl (fun h1 => ?_) (fun h1 => ?_)
  · refine J.seq ?_
    refine J.region ?_
    refine L.va rfl (X.assign (by conv => lhs; whnf)) ?_
    refine L.nil ?_
    refine J.ret ?_
    refine thn_ret <| ?_
    refine fin1 ?_
    exact ⟨Ext.refl _, _, rfl, fun h => by cases h⟩
  · refine J.skip ?_
    refine J.seq ?_
    refine J.seq ?_
    refine J.region ?_
    refine L.va rfl (X.assign (by conv => lhs; whnf)) ?_
    refine L.nil ?_
    refine J.block ?_
    refine J.loop (X := Nat) [2, 3, 7, 8, 9, 10, 11, 12, 13, 14, 15, 16, 17, 18] (fun i => [(3, .int .i64 (i : Int))]) (fun i w' => i ≤ s.n ∧ (∀ j, j < i → (s.l.getD j ce0).Lt) ∧ Ext w w') (fun i => s.n - i) (0) (At1 (by first | rfl | exact at_int rfl (by omega) | exact at_slice rfl (by omega) | exact at_int rfl (by simp))) ?_ ?_
    · exact ⟨Nat.zero_le _, fun j hj => absurd hj (by omega), Ext.refl _⟩
    · rintro i g w2 ⟨hi, hP, he⟩
      have z := he.le
      have hr2 := hs.r.ext he
      refine J.seq ?_
      refine J.seq ?_
      refine J.region ?_
      refine L.va rfl (X.move (by conv => lhs; whnf)) ?_
      refine L.va rfl (X.move (by conv => lhs; whnf)) ?_
      refine L.va rfl (X.len rfl Try.underlying25) ?_
      refine L.va rfl (X.lss rfl rfl) ?_
      refine L.nil ?_
      refine J.dec rfl (fun hlt => ?_) (fun hlt => ?_)
      · have hA := hr2.some_ (by omega)
        have gi := gtX (l := s.l) (i := i) (by omega)
        have hX := (hs.one (i := i) (by omega)).ext he
        generalize ex : s.l.getD i ce0 = p at gi hX
        refine J.skip ?_
        refine J.seq ?_
        refine J.block ?_
        refine J.seq ?_
        refine J.region ?_
        refine L.va rfl (X.move (by conv => lhs; whnf)) ?_
        refine L.va rfl (X.move (by conv => lhs; whnf)) ?_
        refine L.va rfl ((by first | exact X.indexAddrn rfl rfl Try.underlying25 sz_48 (by first | exact Option.some_ne_none _ | exact hA) (by omega) | exact X.indexAddr rfl rfl Try.underlying25 sz_48 (by first | exact Option.some_ne_none _ | exact hA) (by omega))) ?_
        refine L.va rfl (X.loadRow (cs := p.vs) rfl hr2 (fun r u hu => flat_row ce_len gi r u hu) (Nat.zero_lt_succ _) Try.underlying48 rfl (by kernel_rfl)) ?_
        refine L.call rfl en_25 rfl (rlight14 hX (by omega)) ?_
        rintro e w3 ⟨he3, z, rfl, hz⟩
        refine ⟨_, rfl, ?_⟩
        have he03 := he.trans he3
        refine L.va rfl (X.not rfl) ?_
        refine L.nil ?_
        cases z
        · refine J.iteT rfl ?_
          refine J.seq ?_
          refine J.region ?_
          refine L.va rfl (X.assign (by conv => lhs; whnf)) ?_
          refine L.nil ?_
          refine J.ret ?_
          refine inB_ret <|  thn_ret <|  thn_ret <|  inB_ret <|  thn_ret <| ?_
          refine fin1 ?_
          exact ⟨he03, _, rfl, fun h => by cases h⟩
        · refine J.iteF rfl ?_
          refine J.skip ?_
          refine J.region ?_
          refine L.va rfl (X.move (by conv => lhs; whnf)) ?_
          refine L.va rfl (X.add rfl rfl (by omega)) ?_
          refine L.va rfl (X.assign (by conv => lhs; whnf)) ?_
          refine L.nil ?_
          refine ⟨i + 1, At1 (by first | rfl | exact at_int rfl (by omega) | exact at_slice rfl (by omega) | exact at_int rfl (by simp)), (by (iterate 13 refine Agr.lk rfl ?_); exact Agr.lk rfl (Agr.hav rfl Agr.rfl')), ?_⟩
          refine ⟨⟨by omega, fun j hj => ?_, he03⟩, by omega⟩
          rcases Nat.lt_or_ge j i with h | h
          · exact hP j h
          · obtain rfl : j = i := by omega
            rw [ex]
            exact hz rfl
      · refine J.exit ?_
        refine J.seq ?_
        refine J.region ?_
        refine L.va rfl (X.assign (by conv => lhs; whnf)) ?_
        refine L.nil ?_
        refine J.ret ?_
        refine fin1 ?_
        refine ⟨he, _, rfl, fun _ => ⟨by omega, fun x hx => ?_⟩⟩
        obtain ⟨j, hj, rfl⟩ := List.getElem_of_mem hx
        have := hP j (by omega)
        rwa [List.getD, List.getElem?_eq_getElem hj] at this
end Go.Proofs.Ytnndkepnabddgaa
namespace Go.Proofs.Ytnndkepnabddgaa
set_option maxRecDepth 100000
open Go.RowKit H
set_option linter.unusedVariables false
abbrev Ce.key (x : Ce) : Int := (x.k : Int)
abbrev Ce.vals (x : Ce) : List Value := x.vs
abbrev Ce.v (x : Ce) : Value := x.val
def rise (l : List Ce) : Bool := (List.range (l.length - 1)).all fun i => decide ((l.getD i ce0).key < (l.getD (i + 1) ce0).key)
theorem rise_at {l : List Ce} : rise l = true ↔ ∀ i, i + 1 < l.length → (l.getD i ce0).key < (l.getD (i + 1) ce0).key := by
  unfold rise
  rw [List.all_eq_true]
  constructor
  · intro h i hi
    exact of_decide_eq_true (h i (List.mem_range.2 (by omega)))
  · intro h i hi
    have := List.mem_range.1 hi
    exact decide_eq_true (h i (by omega))
def mergeD (sm : Ce → Ce → Bool) : List Ce → List Ce → List (Int × Int)
  | [], [] => []
  | x :: a, [] => (x.key, 1) :: mergeD sm a []
  | [], y :: b => (y.key, 2) :: mergeD sm [] b
  | x :: a, y :: b => if x.key < y.key then (x.key, 1) :: mergeD sm a (y :: b) else if y.key < x.key then (y.key, 2) :: mergeD sm (x :: a) b else (if sm x y = true then [] else [(x.key, 3)]) ++ mergeD sm a b
  termination_by a b => a.length + b.length
end Go.Proofs.Ytnndkepnabddgaa
namespace Go.Proofs.Ytnndkepnabddgaa
set_option maxRecDepth 100000
open Go.RowKit H
set_option linter.unusedVariables false
theorem rrising15 {w : World} {N : Nat} (A : Option Addr) (c : Nat) (l : List Ce) (hr : Reads w N 4 A l.length (l.flatMap Ce.vals)) (hN : N ≤ w.heap.size) (hm : l.length ≤ 1000000) : Calls Try.prog 20 #[.slice A l.length c] w fun e w' => e = .returned (.bool (rise l)) ∧ Ext w w' := by
  refine enter Try.func20 rfl (by kernel_rfl) ?_
  refine J.seq ?_
  refine J.region ?_
  refine L.va rfl (X.assign (by conv => lhs; whnf)) ?_
  refine L.nil ?_
  refine J.seq ?_
  refine J.seq ?_
  refine J.region ?_
  refine L.va rfl (X.assign (by conv => lhs; whnf)) ?_
  refine L.nil ?_
  refine J.block ?_
  refine J.loop (X := Nat) [2, 3, 4, 5, 6, 7, 8, 9, 10, 11, 12, 13, 14, 15, 16, 17, 18, 19, 20, 21] (fun i => [(3, .int .i64 (i : Int))]) (fun i w' => 1 ≤ i ∧ (i ≤ l.length ∨ l.length = 0 ∧ i = 1) ∧ Ext w w' ∧ ∀ j, j + 1 < i → (l.getD j ce0).key < (l.getD (j + 1) ce0).key) (fun i => l.length + 1 - i) (1) (At1 (by first | rfl | exact at_int rfl (by omega) | exact at_slice rfl (by omega) | exact at_int rfl (by simp))) ?_ ?_
  · exact ⟨by omega, by omega, Ext.refl _, fun j hj => by omega⟩
  · rintro i g w2 ⟨h1, hi, he, hall⟩
    have hr2 := hr.low (Below.mono he hN) (Nat.le_refl _)
    have z := he.le
    refine J.seq ?_
    refine J.seq ?_
    refine J.region ?_
    refine L.va rfl (X.move (by conv => lhs; whnf)) ?_
    refine L.va rfl (X.move (by conv => lhs; whnf)) ?_
    refine L.va rfl (X.len rfl Try.underlying25) ?_
    refine L.va rfl (X.lss rfl rfl) ?_
    refine L.nil ?_
    refine J.dec rfl (fun hlt => ?_) (fun hlt => ?_)
    · have hil : i < l.length := by omega
      have hA := hr2.some_ (by omega)
      obtain ⟨j, rfl⟩ : ∃ j, i = j + 1 := ⟨i - 1, by omega⟩
      have gi := gtX hil
      have gj := gtX (show j < l.length by omega)
      have hrow1 := fun (w' : World) (hw : Ext w2 w') => hr2.low (Below.mono hw (by omega)) (Nat.le_refl _)
      generalize hx : l.getD (j + 1) ce0 = x at *
      generalize hy : l.getD j ce0 = y at *
      have kx : x.key = (x.k : Int) := rfl
      have ky : y.key = (y.k : Int) := rfl
      refine J.skip ?_
      refine J.seq ?_
      refine J.block ?_
      refine J.seq ?_
      refine J.quiet mixed (by kernel_rfl) ?_
      refine Qt.va rfl (fun w' hw => X.move (by conv => lhs; whnf)) ?_
      refine Qt.va rfl (fun w' hw => X.move (by conv => lhs; whnf)) ?_
      refine Qt.va rfl (fun w' hw => (by first | exact X.indexAddrn rfl rfl Try.underlying25 sz_48 (by first | exact Option.some_ne_none _ | exact hA) (by omega) | exact X.indexAddr rfl rfl Try.underlying25 sz_48 (by first | exact Option.some_ne_none _ | exact hA) (by omega))) ?_
      refine Qt.va rfl (fun w' hw => X.fieldP rfl Try.underlying48 rfl sz_44 (by decide) (by first | exact Option.some_ne_none _ | exact hA)) ?_
      refine Qt.va rfl (fun w' hw => X.load rfl sc_44 (Ld.flat2 ce_len (hrow1 w' hw) gi (r := 0) rfl)) ?_
      refine Qt.va rfl (fun w' hw => X.move (by conv => lhs; whnf)) ?_
      refine Qt.va rfl (fun w' hw => X.move (by conv => lhs; whnf)) ?_
      refine Qt.va rfl (fun w' hw => X.sub rfl rfl (by omega)) ?_
      refine Qt.va rfl (fun w' hw => X.indexAddrn (j := j) rfl (show Value.int .i64 (((j + 1 : Nat) : Int) - 1) = _ by rw [show (((j + 1 : Nat) : Int) - 1) = (j : Int) by omega]) Try.underlying25 sz_48 hA (by omega)) ?_
      refine Qt.va rfl (fun w' hw => X.fieldP rfl Try.underlying48 rfl sz_44 (by decide) hA) ?_
      refine Qt.va rfl (fun w' hw => X.load rfl sc_44 (Ld.flat2 ce_len (hrow1 w' hw) gj (r := 0) rfl)) ?_
      refine Qt.va rfl (fun w' hw => X.leq rfl rfl) ?_
      refine Qt.nil (fun w3 hq => ?_)
      have he3 := he.trans hq
      refine J.dec rfl (fun hle => ?_) (fun hle => ?_)
      · have e : rise l = false := by
          rw [← Bool.not_eq_true, rise_at]
          intro h
          have := h j hil
          rw [hx, hy] at this
          omega
        rw [e]
        refine J.seq ?_
        refine J.region ?_
        refine L.va rfl (X.assign (by conv => lhs; whnf)) ?_
        refine L.nil ?_
        refine J.ret ?_
        refine inB_ret <|  thn_ret <|  thn_ret <|  inB_ret <|  thn_ret <| ?_
        refine fin1 ?_
        exact ⟨rfl, he3⟩
      · refine J.skip ?_
        refine J.region ?_
        refine L.va rfl (X.move (by conv => lhs; whnf)) ?_
        refine L.va rfl (X.add rfl rfl (by omega)) ?_
        refine L.va rfl (X.assign (by conv => lhs; whnf)) ?_
        refine L.nil ?_
        refine ⟨(j + 1) + 1, At1 (by first | rfl | exact at_int rfl (by omega) | exact at_slice rfl (by omega) | exact at_int rfl (by simp)), (by (iterate 19 refine Agr.lk rfl ?_); exact Agr.lk rfl (Agr.hav rfl Agr.rfl')), ?_⟩
        refine ⟨⟨by omega, by omega, he3, fun k hk => ?_⟩, by omega⟩
        rcases Nat.lt_or_ge k j with h2 | h2
        · exact hall k (by omega)
        · obtain rfl : k = j := by omega
          rw [hx, hy]
          omega
    · have e : rise l = true := by
        rw [rise_at]
        intro j hj
        exact hall j (by omega)
      rw [e]
      refine J.exit ?_
      refine J.seq ?_
      refine J.region ?_
      refine L.va rfl (X.assign (by conv => lhs; whnf)) ?_
      refine L.nil ?_
      refine J.ret ?_
      refine fin1 ?_
      exact ⟨rfl, he⟩
end Go.Proofs.Ytnndkepnabddgaa
namespace Go.Proofs.Ytnndkepnabddgaa
set_option maxRecDepth 100000
open Go.RowKit H
set_option linter.unusedVariables false
theorem own_lowB {w : World} {base base' e sz n : Nat} {v : Value} {xs : List Value} (h : w.ownsRow base e sz v n xs) (hb : base' ≤ base) : w.ownsRow base' e sz v n xs := by
  refine ⟨h.1, ?_⟩
  rcases h.2 with h1 | ⟨b, cap, cur, h1, h2, h3⟩
  · exact .inl h1
  · exact .inr ⟨b, cap, cur, h1, Nat.le_trans hb h2, h3⟩
end Go.Proofs.Ytnndkepnabddgaa
namespace Go.Proofs.Ytnndkepnabddgaa
set_option maxRecDepth 100000
open Go.RowKit H
set_option linter.unusedVariables false
structure Wh.Own (x : Wh) (N : Nat) (w : World) : Prop where
  r : Reads w N 1 x.A x.n (nums .u32 x.q) ∨ w.ownsRow N 96 1 (.slice x.A x.n x.c) x.n (nums .u32 x.q)
  m : x.n ≤ maxLen
  o : x.Ok
  cp : x.n ≤ x.c
structure Re.Own (x : Re) (N : Nat) (w : World) : Prop where
  r : Reads w N 1 x.A x.n (nums .u8 x.b) ∨ w.ownsRow N 5 1 (.slice x.A x.n x.c) x.n (nums .u8 x.b)
  m : x.n ≤ maxLen
  o : x.Ok
section
variable {N : Nat} {w w' : World}
theorem Wh.Own.ext {x : Wh} (h : x.Own N w) (he : Ext w w') : x.Own N w' := ⟨h.r.imp (fun r => r.ext he) (fun r => r.ext he), h.m, h.o, h.cp⟩
theorem Re.Own.ext {x : Re} (h : x.Own N w) (he : Ext w w') : x.Own N w' := ⟨h.r.imp (fun r => r.ext he) (fun r => r.ext he), h.m, h.o⟩
theorem Wh.Own.put {x : Wh} (h : x.Own N w) {t : Nat} (hb : Below N w w') (hC : TCh t w w') (hne : 96 ≠ t) : x.Own N w' := ⟨h.r.imp (fun r => r.low hb (Nat.le_refl _)) (fun r => hC.own r hne), h.m, h.o, h.cp⟩
theorem Re.Own.put {x : Re} (h : x.Own N w) {t : Nat} (hb : Below N w w') (hC : TCh t w w') (hne : 5 ≠ t) : x.Own N w' := ⟨h.r.imp (fun r => r.low hb (Nat.le_refl _)) (fun r => hC.own r hne), h.m, h.o⟩
theorem Wh.Own.at {x : Wh} (h : x.Own N w) (hN : N ≤ w.heap.size) : x.At w.heap.size w := ⟨h.r.elim (fun r => r.more hN) (fun r => Reads.of_own r), h.m, h.o, h.cp⟩
theorem Re.Own.at {x : Re} (h : x.Own N w) (hN : N ≤ w.heap.size) : x.At w.heap.size w := ⟨h.r.elim (fun r => r.more hN) (fun r => Reads.of_own r), h.m, h.o⟩
end
theorem map_setD {α β : Type} {f : α → β} {l : List α} {d : α} {i : Nat} {y : α} (hi : i < l.length) (h : f y = f (l.getD i d)) : (l.set i y).map f = l.map f := by
  apply List.ext_getElem (by simp)
  intro j h1 h2
  rw [List.getElem_map, List.getElem_map, List.getElem_set]
  by_cases e : i = j
  · subst e
    rw [if_pos rfl, h, List.getD, List.getElem?_eq_getElem hi]
    rfl
  · rw [if_neg e]
structure Ce.Own (x : Ce) (N : Nat) (w : World) : Prop where
  k : x.k < 18446744073709551616
  t : In64 x.t
  i : w.ownsRow N 69 5 (.slice x.Ai x.ni x.ci) x.ni (x.is.flatMap Wh.vs)
  hi : ∀ y ∈ x.is, y.Own N w
  li : x.is.length = x.ni
  r : w.ownsRow N 72 3 (.slice x.Ar x.nr x.cr) x.nr (x.rs.flatMap Re.vs)
  hr : ∀ y ∈ x.rs, y.Own N w
  lr : x.rs.length = x.nr
  L : x.Lt
section
variable {x : Ce} {N : Nat} {w w' : World}
theorem Ce.Own.ext (h : x.Own N w) (he : Ext w w') : x.Own N w' := ⟨h.k, h.t, h.i.ext he, fun y hy => (h.hi y hy).ext he, h.li, h.r.ext he, fun y hy => (h.hr y hy).ext he, h.lr, h.L⟩
theorem Ce.Own.put (h : x.Own N w) {t : Nat} (hb : Below N w w') (hC : TCh t w w') (hne : 96 ≠ t ∧ 5 ≠ t ∧ 69 ≠ t ∧ 72 ≠ t) : x.Own N w' := ⟨h.k, h.t, hC.own h.i hne.2.2.1, fun y hy => (h.hi y hy).put hb hC hne.1, h.li, hC.own h.r hne.2.2.2, fun y hy => (h.hr y hy).put hb hC hne.2.1, h.lr, h.L⟩
theorem Ce.Own.at (h : x.Own N w) (hN : N ≤ w.heap.size) : x.At w.heap.size w := ⟨h.k, h.t, Reads.of_own h.i, fun y hy => (h.hi y hy).at hN, h.li, by have := h.L.i; unfold maxLen; omega, Reads.of_own h.r, fun y hy => (h.hr y hy).at hN, h.lr, by have := h.L.r; unfold maxLen; omega⟩
end
end Go.Proofs.Ytnndkepnabddgaa
namespace Go.Proofs.Ytnndkepnabddgaa
set_option maxRecDepth 100000
open Go.RowKit H
open Exa Flo Wd
set_option linter.unusedVariables false
abbrev okWh (x y : WC) : Prop := In64 (x.1 + y.1) ∧ In64 (x.2.1 + y.2.1)
def eW (x y : WC) : Int := if okWh x y then 0 else 10
def vW (x y : WC) : WC := if okWh x y then (x.1 + y.1, x.2.1 + y.2.1, wds (nv x.2.2.1 + nv y.2.2.1).toNat, min x.2.2.2.1 y.2.2.2.1, max x.2.2.2.2 y.2.2.2.2) else wh0.con
theorem eW_ok {x y : WC} (h : okWh x y) : eW x y = 0 := by unfold eW; exact if_pos h
theorem eW_no {x y : WC} (h : ¬ okWh x y) : eW x y = 10 := by unfold eW; exact if_neg h
theorem vW_ok {x y : WC} (h : okWh x y) : vW x y = (x.1 + y.1, x.2.1 + y.2.1, wds (nv x.2.2.1 + nv y.2.2.1).toNat, min x.2.2.2.1 y.2.2.2.1, max x.2.2.2.2 y.2.2.2.2) := by unfold vW; exact if_pos h
theorem vW_no {x y : WC} (h : ¬ okWh x y) : vW x y = wh0.con := by unfold vW; exact if_neg h
structure Wh.My (x : Wh) (N : Nat) (w : World) : Prop where
  r : w.ownsRow N 96 1 (.slice x.A x.n x.c) x.n (nums .u32 x.q)
  m : x.n ≤ maxLen
  o : x.Ok
  cp : x.n ≤ x.c
structure Re.My (x : Re) (N : Nat) (w : World) : Prop where
  r : w.ownsRow N 5 1 (.slice x.A x.n x.c) x.n (nums .u8 x.b)
  m : x.n ≤ maxLen
  o : x.Ok
section
variable {N : Nat} {w w' : World}
theorem Wh.My.ext {x : Wh} (h : x.My N w) (he : Ext w w') : x.My N w' := ⟨h.r.ext he, h.m, h.o, h.cp⟩
theorem Re.My.ext {x : Re} (h : x.My N w) (he : Ext w w') : x.My N w' := ⟨h.r.ext he, h.m, h.o⟩
theorem Wh.My.put {x : Wh} (h : x.My N w) {t : Nat} (hC : TCh t w w') (hne : 96 ≠ t) : x.My N w' := ⟨hC.own h.r hne, h.m, h.o, h.cp⟩
theorem Re.My.put {x : Re} (h : x.My N w) {t : Nat} (hC : TCh t w w') (hne : 5 ≠ t) : x.My N w' := ⟨hC.own h.r hne, h.m, h.o⟩
theorem Wh.My.low {x : Wh} {M : Nat} (h : x.My N w) (hM : M ≤ N) : x.My M w := ⟨own_lowN h.r hM, h.m, h.o, h.cp⟩
theorem Re.My.low {x : Re} {M : Nat} (h : x.My N w) (hM : M ≤ N) : x.My M w := ⟨own_lowN h.r hM, h.m, h.o⟩
theorem Wh.My.at {x : Wh} (h : x.My N w) : x.At w.heap.size w := ⟨Reads.of_own h.r, h.m, h.o, h.cp⟩
theorem Re.My.at {x : Re} (h : x.My N w) : x.At w.heap.size w := ⟨Reads.of_own h.r, h.m, h.o⟩
end
theorem wh0_own (N : Nat) (w : World) : wh0.My N w := ⟨(own_nil _ _ _ _), Nat.zero_le _, ⟨by decide, by decide, (by intro x hx; cases hx), by decide, by decide⟩, Nat.le_refl _⟩
theorem awholes {x y : Wh} {w : World} {N : Nat} (hN : N ≤ w.heap.size) (hx : x.At N w) (hy : y.At N w) (hn : x.n ≤ 90000 ∧ y.n ≤ 90000) : Calls Try.prog 33 #[x.val, y.val] w fun e w' => ∃ z : Wh, e = .returned (.tuple #[z.val, .int .i64 (eW x.con y.con)]) ∧ z.con = vW x.con y.con ∧ z.n ≤ max x.n y.n + 1 ∧ z.My w.heap.size w' ∧ Ext w w' := by
  have lx := hx.len
  have ly := hy.len
  have ox := hx.o
  have oy := hy.o
  have k1 := ox.s
  have k2 := oy.s
  have k3 := ox.a
  have k4 := oy.a
  have k5 := ox.lo
  have k6 := oy.lo
  have k7 := ox.hi
  have k8 := oy.hi
  have dx := digw_inb ox.q
  have dy := digw_inb oy.q
  refine enter Try.func33 rfl (by kernel_rfl) ?_
  refine J.seq ?_
  refine J.region ?_
  refine L.boxA (l := [_, _, _, _, _]) rfl rfl ?_
  intro b1 w1 hb1 hs1 hk1 he1
  refine L.boxA (l := [_, _, _, _, _]) rfl rfl ?_
  intro b2 w2 hb2 hs2 hk2 he2
  refine L.alloc rfl zr_69 ?_
  intro b3 w3 hb3 hs3 hk3 he3
  have he03 := (he1.trans he2).trans he3
  have z3 := he03.le
  have hk1 : Blk w3 b1 69 x.vs.toArray := (hk1.ext he2).ext he3
  have hk2 : Blk w3 b2 69 y.vs.toArray := hk2.ext he3
  have c1 := wadd x.s y.s w3 k1 k2
  have c2 := wadd x.a y.a w3 k3 k4
  refine L.va rfl (X.assign (by conv => lhs; whnf)) ?_
  refine L.nil ?_
  refine J.seq ?_
  refine J.region ?_
  refine L.va rfl (X.fieldAddr rfl Try.underlying69 rfl sz_2 (by decide)) ?_
  refine L.va rfl (X.load rfl sc_2 (by first | exact Ld.blk hk1 rfl | exact Ld.blk hk2 rfl)) ?_
  refine L.va rfl (X.fieldAddr rfl Try.underlying69 rfl sz_2 (by decide)) ?_
  refine L.va rfl (X.load rfl sc_2 (by first | exact Ld.blk hk1 rfl | exact Ld.blk hk2 rfl)) ?_
  by_cases h1 : In64 (x.s + y.s)
  · rw [if_pos h1] at c1
    refine L.call rfl en_32 rfl (c1) ?_
    rintro e _ ⟨rfl, rfl⟩
    refine ⟨_, rfl, ?_⟩
    refine L.va rfl (X.move (by conv => lhs; whnf)) ?_
    refine L.va rfl (X.extract rfl rfl) ?_
    refine L.va rfl (X.extract rfl rfl) ?_
    refine L.va rfl (X.assign (by conv => lhs; whnf)) ?_
    refine L.va rfl (X.assign (by conv => lhs; whnf)) ?_
    refine L.nil ?_
    refine J.seq ?_
    refine J.region ?_
    refine L.va rfl (X.fieldAddr rfl Try.underlying69 rfl sz_2 (by decide)) ?_
    refine L.va rfl (X.load rfl sc_2 (by first | exact Ld.blk hk1 rfl | exact Ld.blk hk2 rfl)) ?_
    refine L.va rfl (X.fieldAddr rfl Try.underlying69 rfl sz_2 (by decide)) ?_
    refine L.va rfl (X.load rfl sc_2 (by first | exact Ld.blk hk1 rfl | exact Ld.blk hk2 rfl)) ?_
    by_cases h2 : In64 (x.a + y.a)
    · rw [if_pos h2] at c2
      refine L.call rfl en_32 rfl (c2) ?_
      rintro e _ ⟨rfl, rfl⟩
      refine ⟨_, rfl, ?_⟩
      refine L.va rfl (X.move (by conv => lhs; whnf)) ?_
      refine L.va rfl (X.extract rfl rfl) ?_
      refine L.va rfl (X.extract rfl rfl) ?_
      refine L.va rfl (X.assign (by conv => lhs; whnf)) ?_
      refine L.va rfl (X.assign (by conv => lhs; whnf)) ?_
      refine L.nil ?_
      refine J.seq ?_
      refine J.seq ?_
      refine J.region ?_
      refine L.va rfl (X.move (by conv => lhs; whnf)) ?_
      refine L.va rfl (X.not rfl) ?_
      refine L.va rfl (X.move (by conv => lhs; whnf)) ?_
      refine L.caseBF (k := 28) rfl (by rfl) ?_
      refine L.va rfl (X.move (by conv => lhs; whnf)) ?_
      refine L.va rfl (X.not rfl) ?_
      refine L.va rfl (X.pickF rfl (by conv => lhs; whnf)) ?_
      refine L.nil ?_
      refine J.iteF rfl ?_
      refine J.skip ?_
      refine J.seq ?_
      have hyes : okWh x.con y.con := ⟨h1, h2⟩
      refine J.draw (ℓ := 1000000) (S := (fun w' => Blk w' b1 69 x.vs.toArray ∧ Blk w' b2 69 y.vs.toArray ∧ Ext w w')) mixed (fun w4 hSE hS_h => ?_)
      have hS : ((fun w' => Blk w' b1 69 x.vs.toArray ∧ Blk w' b2 69 y.vs.toArray ∧ Ext w w')) w4 := And.intro (hk1.ext hSE) (And.intro (hk2.ext hSE) (he03.trans hSE))
      have z4 := hSE.le
      have he04 := he03.trans hSE
      have c3 := nadd x.A x.n x.c x.q y.A y.n y.c y.q w4 (N := N) (by omega) (hx.r.ext he04) (hy.r.ext he04) lx ly (by omega) dx dy
      refine D.va 0 rfl (by kernel_rfl) (fun _ _ _ h => h) rfl (fun w' hw => X.move (by conv => lhs; whnf)) hS ?_
      refine D.va 1 rfl (by kernel_rfl) (fun _ _ _ h => h) rfl (fun w' hw => X.move (by conv => lhs; whnf)) hS ?_
      refine D.va 2 rfl (by kernel_rfl) (fun _ _ _ h => h) rfl (fun w' hw => X.fieldAddr rfl Try.underlying69 rfl sz_67 (by decide)) hS ?_
      refine D.va 3 rfl (by kernel_rfl) (fun _ _ _ h => h) rfl (fun w' hw => X.load rfl sc_67 (by first | exact Ld.blk hw.1 rfl | exact Ld.blk hw.2.1 rfl)) hS ?_
      refine D.va 4 rfl (by kernel_rfl) (fun _ _ _ h => h) rfl (fun w' hw => X.fieldAddr rfl Try.underlying69 rfl sz_67 (by decide)) hS ?_
      refine D.va 5 rfl (by kernel_rfl) (fun _ _ _ h => h) rfl (fun w' hw => X.load rfl sc_67 (by first | exact Ld.blk hw.1 rfl | exact Ld.blk hw.2.1 rfl)) hS ?_
      refine D.va 7 rfl (by kernel_rfl) (fun _ _ _ h => h) rfl (fun w' hw => X.fieldAddr rfl Try.underlying69 rfl sz_2 (by decide)) hS ?_
      refine D.va 8 rfl (by kernel_rfl) (fun _ _ _ h => h) rfl (fun w' hw => X.load rfl sc_2 (by first | exact Ld.blk hw.1 rfl | exact Ld.blk hw.2.1 rfl)) hS ?_
      refine D.va 9 rfl (by kernel_rfl) (fun _ _ _ h => h) rfl (fun w' hw => X.fieldAddr rfl Try.underlying69 rfl sz_2 (by decide)) hS ?_
      refine D.va 10 rfl (by kernel_rfl) (fun _ _ _ h => h) rfl (fun w' hw => X.load rfl sc_2 (by first | exact Ld.blk hw.1 rfl | exact Ld.blk hw.2.1 rfl)) hS ?_
      refine D.va 11 rfl (by kernel_rfl) (fun _ _ _ h => h) rfl (fun w' hw => X.min2 rfl rfl) hS ?_
      refine D.va 12 rfl (by kernel_rfl) (fun _ _ _ h => h) rfl (fun w' hw => X.fieldAddr rfl Try.underlying69 rfl sz_2 (by decide)) hS ?_
      refine D.va 13 rfl (by kernel_rfl) (fun _ _ _ h => h) rfl (fun w' hw => X.load rfl sc_2 (by first | exact Ld.blk hw.1 rfl | exact Ld.blk hw.2.1 rfl)) hS ?_
      refine D.va 14 rfl (by kernel_rfl) (fun _ _ _ h => h) rfl (fun w' hw => X.fieldAddr rfl Try.underlying69 rfl sz_2 (by decide)) hS ?_
      refine D.va 15 rfl (by kernel_rfl) (fun _ _ _ h => h) rfl (fun w' hw => X.load rfl sc_2 (by first | exact Ld.blk hw.1 rfl | exact Ld.blk hw.2.1 rfl)) hS ?_
      refine D.va 16 rfl (by kernel_rfl) (fun _ _ _ h => h) rfl (fun w' hw => X.max2 rfl rfl) hS ?_
      refine D.one 6 (by kernel_rfl) rfl ?_
      refine L.call rfl en_52 rfl (c3) ?_
      rintro e w5 ⟨A5, q5, d5, rfl, hq5, hd5, ho5, he5⟩
      refine ⟨_, rfl, ?_⟩
      have hS1 := And.intro (hk1.ext (hSE.trans he5)) (And.intro (hk2.ext (hSE.trans he5)) (he04.trans he5))
      refine L.nil ?_
      refine ⟨fun _ => hS1, ?_⟩
      have hk35 := hk3.ext (hSE.trans he5)
      have hk15 := hk1.ext (hSE.trans he5)
      have hk25 := hk2.ext (hSE.trans he5)
      refine D.va 17 rfl (by kernel_rfl) (fun _ _ _ h => h) rfl (fun w' hw => X.build (l := [_, _, _, _, _]) (Evs.cons (by conv => lhs; whnf) (Evs.cons (by conv => lhs; whnf) (Evs.cons (by conv => lhs; whnf) (Evs.cons (by conv => lhs; whnf) (Evs.cons (by conv => lhs; whnf) Evs.nil))))) (bld_run Try.underlying69 (bp_69 Try.underlying69) zr_69 rfl)) hS1 ?_
      refine D.one 18 (by kernel_rfl) rfl ?_
      refine L.storeAgg (vs := [_, _, _, _, _]) rfl rfl rfl rfl sz_69 (hk35) rfl ?_
      intro w6 hk6 hg6 hs6
      have hS2 := And.intro (hk15.grown hg6 (fun e ↦ by injection e with e; omega)) (And.intro (hk25.grown hg6 (fun e ↦ by injection e with e; omega)) ((he04.trans he5).grw hg6 (by intro g hg; injection hg with hg; omega)))
      refine L.nil ?_
      refine ⟨fun _ => hS2, ?_⟩
      have he6 : Ext w w6 := (he04.trans he5).grw hg6 (by intro g hg; injection hg with hg; omega)
      have ho6 := own_lowN (ho5.kept hg6 (.inr (own_blk_ne ho5 hk35 (by decide)))) he04.le
      have hln := wds_sum_len dx dy
      refine D.va 19 rfl (by kernel_rfl) (fun _ _ _ h => h) rfl (fun w' hw => X.assign (by conv => lhs; whnf)) hS2 ?_
      refine D.done (by kernel_rfl) ?_
      refine J.ret ?_
      refine finCT rfl (run_cell hk6 Try.underlying69 rfl (by kernel_rfl)) ?_
      refine ⟨⟨x.s + y.s, x.a + y.a, A5, q5, d5, wds (nv x.q + nv y.q).toNat, min x.lo y.lo, max x.hi y.hi⟩, by rw [eW_ok hyes]; rfl, (vW_ok hyes).symm, by show q5 ≤ _; omega, ⟨ho6, by show q5 ≤ _; unfold maxLen; omega, ⟨h1, h2, inb_digw (wds_dig _), by show In64 (min x.lo y.lo); omega, by show In64 (max x.hi y.hi); omega⟩, hd5⟩, he6⟩
    · rw [if_neg h2] at c2
      refine L.call rfl en_32 rfl (c2) ?_
      rintro e _ ⟨rfl, rfl⟩
      refine ⟨_, rfl, ?_⟩
      have hno : ¬ okWh x.con y.con := fun h => h2 h.2
      refine L.va rfl (X.move (by conv => lhs; whnf)) ?_
      refine L.va rfl (X.extract rfl rfl) ?_
      refine L.va rfl (X.extract rfl rfl) ?_
      refine L.va rfl (X.assign (by conv => lhs; whnf)) ?_
      refine L.va rfl (X.assign (by conv => lhs; whnf)) ?_
      refine L.nil ?_
      refine J.seq ?_
      refine J.seq ?_
      refine J.region ?_
      refine L.va rfl (X.move (by conv => lhs; whnf)) ?_
      refine L.va rfl (X.not rfl) ?_
      refine L.va rfl (X.move (by conv => lhs; whnf)) ?_
      refine L.caseBF (k := 28) rfl (by rfl) ?_
      refine L.va rfl (X.move (by conv => lhs; whnf)) ?_
      refine L.va rfl (X.not rfl) ?_
      refine L.va rfl (X.pickF rfl (by conv => lhs; whnf)) ?_
      refine L.nil ?_
      refine J.iteT rfl ?_
      refine J.seq ?_
      refine J.region ?_
      refine L.va rfl (X.build (l := [_, _, _, _, _]) Evs.nil (bld_run Try.underlying69 (bp_69 Try.underlying69) zr_69 rfl)) ?_
      refine L.storeAgg (vs := [_, _, _, _, _]) rfl rfl rfl rfl sz_69 (hk3) rfl ?_
      intro w4 hk4 hg4 hs4
      have he4 : Ext w w4 := he03.grw hg4 (by intro g hg; injection hg with hg; omega)
      refine L.va rfl (X.assign (by conv => lhs; whnf)) ?_
      refine L.nil ?_
      refine J.ret ?_
      refine thn_ret <| ?_
      refine finCT rfl (run_cell hk4 Try.underlying69 rfl (by kernel_rfl)) ?_
      exact ⟨wh0, by rw [eW_no hno]; rfl, (vW_no hno).symm, by show 0 ≤ _; omega, wh0_own _ _, he4⟩
  · rw [if_neg h1] at c1
    have hno : ¬ okWh x.con y.con := fun h => h1 h.1
    refine L.call rfl en_32 rfl (c1) ?_
    rintro e _ ⟨rfl, rfl⟩
    refine ⟨_, rfl, ?_⟩
    refine L.va rfl (X.move (by conv => lhs; whnf)) ?_
    refine L.va rfl (X.extract rfl rfl) ?_
    refine L.va rfl (X.extract rfl rfl) ?_
    refine L.va rfl (X.assign (by conv => lhs; whnf)) ?_
    refine L.va rfl (X.assign (by conv => lhs; whnf)) ?_
    refine L.nil ?_
    refine J.seq ?_
    refine J.region ?_
    refine L.va rfl (X.fieldAddr rfl Try.underlying69 rfl sz_2 (by decide)) ?_
    refine L.va rfl (X.load rfl sc_2 (by first | exact Ld.blk hk1 rfl | exact Ld.blk hk2 rfl)) ?_
    refine L.va rfl (X.fieldAddr rfl Try.underlying69 rfl sz_2 (by decide)) ?_
    refine L.va rfl (X.load rfl sc_2 (by first | exact Ld.blk hk1 rfl | exact Ld.blk hk2 rfl)) ?_
    have c3 : Calls Try.prog 32 #[.int .i64 x.a, .int .i64 y.a] w3 fun e w' => (∃ (p : Int) (q : Bool), e = .returned (.tuple #[.int .i64 p, .bool q])) ∧ w3 = w' := Calls.mono c2 fun e w' h => ⟨by
      rw [h.1]
      by_cases k : In64 (x.a + y.a)
      · rw [if_pos k]; exact ⟨_, _, rfl⟩
      · rw [if_neg k]; exact ⟨_, _, rfl⟩, h.2⟩
    refine L.call rfl en_32 rfl (c3) ?_
    rintro e _ ⟨⟨p, q, rfl⟩, rfl⟩
    refine ⟨_, rfl, ?_⟩
    refine L.va rfl (X.move (by conv => lhs; whnf)) ?_
    refine L.va rfl (X.extract rfl rfl) ?_
    refine L.va rfl (X.extract rfl rfl) ?_
    refine L.va rfl (X.assign (by conv => lhs; whnf)) ?_
    refine L.va rfl (X.assign (by conv => lhs; whnf)) ?_
    refine L.nil ?_
    refine J.seq ?_
    refine J.seq ?_
    refine J.region ?_
    refine L.va rfl (X.move (by conv => lhs; whnf)) ?_
    refine L.va rfl (X.not rfl) ?_
    refine L.va rfl (X.move (by conv => lhs; whnf)) ?_
    refine L.caseBT (k := 28) rfl (by rfl) ?_
    refine L.no rfl ?_
    refine L.no rfl ?_
    refine L.va rfl (X.pickT rfl (by conv => lhs; whnf)) ?_
    refine L.nil ?_
    refine J.iteT rfl ?_
    refine J.seq ?_
    refine J.region ?_
    refine L.va rfl (X.build (l := [_, _, _, _, _]) Evs.nil (bld_run Try.underlying69 (bp_69 Try.underlying69) zr_69 rfl)) ?_
    refine L.storeAgg (vs := [_, _, _, _, _]) rfl rfl rfl rfl sz_69 (hk3) rfl ?_
    intro w4 hk4 hg4 hs4
    have he4 : Ext w w4 := he03.grw hg4 (by intro g hg; injection hg with hg; omega)
    refine L.va rfl (X.assign (by conv => lhs; whnf)) ?_
    refine L.nil ?_
    refine J.ret ?_
    refine thn_ret <| ?_
    refine finCT rfl (run_cell hk4 Try.underlying69 rfl (by kernel_rfl)) ?_
    exact ⟨wh0, by rw [eW_no hno]; rfl, (vW_no hno).symm, by show 0 ≤ _; omega, wh0_own _ _, he4⟩
end Go.Proofs.Ytnndkepnabddgaa
namespace Go.Proofs.Ytnndkepnabddgaa
set_option maxRecDepth 100000
open Go.RowKit H
open Exa Flo Wd
set_option linter.unusedVariables false
theorem re0_own (N : Nat) (w : World) : re0.My N w := ⟨(own_nil _ _ _ _), Nat.zero_le _, ⟨(by intro x hx; cases hx), by decide, by decide⟩⟩
theorem or8_b {a b : Int} (ha : 0 ≤ a ∧ a < 256) (hb : 0 ≤ b ∧ b < 256) : 0 ≤ bits .or .u8 a b ∧ bits .or .u8 a b < 256 := by
  obtain ⟨n, rfl⟩ := Int.eq_ofNat_of_zero_le ha.1
  obtain ⟨m, rfl⟩ := Int.eq_ofNat_of_zero_le hb.1
  rw [u8_or_nat n m (by omega) (by omega)]
  have : n ||| m < 2 ^ 8 := Nat.or_lt_two_pow (by omega) (by omega)
  omega
theorem cameB_b {b : List Int} (hb : InB 256 b) : 0 ≤ cameB b ∧ cameB b < 256 := by
  have h := at_b hb 0
  unfold cameB
  rw [u8_andNot _ 32 h.1 h.2 (by decide) (by decide)]
  have : (b.getD 0 0).toNat &&& (255 - (32 : Int).toNat) ≤ (b.getD 0 0).toNat := Nat.and_le_left
  omega
theorem lowF_le (l : List Int) : lowF l ≤ l.length := by
  by_cases h : ∃ z, LowN l z
  · obtain ⟨z, hz⟩ := h
    rw [hz.eq]
    exact hz.le
  · unfold lowF
    rw [dif_neg h]
    exact Nat.zero_le _
theorem room_len {V : Int} (h : (V.natAbs : Int) < 2 ^ rm) : (wds V.natAbs).length ≤ 70 := by
  apply wds_len
  rw [← pow_rm] at h
  have e : ((4294967296 ^ 70 : Nat) : Int) = 4294967296 ^ 70 := Int.natCast_pow _ _
  omega
theorem bytB_len (c V : Int) : (bytB c V).length ≤ 3 + 4 * (wds V.natAbs).length := by
  unfold bytB sumB
  rw [List.length_append, be4_len, List.length_reverse, List.length_drop]
  show 3 + _ ≤ _
  omega
theorem leastF_b {x y : Nat} (hx : x < 18446744073709551616) (hy : y < 18446744073709551616) : leastF x y < 18446744073709551616 := by unfold leastF; split <;> assumption
theorem mostF_b {x y : Nat} (hx : x < 18446744073709551616) (hy : y < 18446744073709551616) : mostF x y < 18446744073709551616 := by unfold mostF; split <;> assumption
theorem bytB_b {c V : Int} (hc : 0 ≤ c ∧ c < 256) (hl : (wds V.natAbs).length ≤ 70) : InB 256 (bytB c V) := by
  have hor := or8_b hc (show (0 : Int) ≤ 32 ∧ (32 : Int) < 256 by decide)
  intro x hx
  unfold bytB sumB at hx
  rcases List.mem_append.1 hx with hx | hx
  · have hz := Nat.le_trans (lowF_le (wds V.natAbs)) hl
    simp only [List.mem_cons, List.not_mem_nil, or_false] at hx
    rcases hx with rfl | rfl | rfl
    · split
      · exact hor
      · exact hc
    · omega
    · omega
  · obtain ⟨y, _, hy⟩ := List.mem_flatMap.1 hx
    unfold be4 at hy
    simp only [List.mem_cons, List.not_mem_nil, or_false] at hy
    rcases hy with rfl | rfl | rfl | rfl <;> omega
theorem areals {x y : Re} {w : World} {N : Nat} (hN : N ≤ w.heap.size) (hx : x.At N w) (hy : y.At N w) (hn : x.n ≤ 1000000 ∧ y.n ≤ 1000000) : Calls Try.prog 34 #[x.val, y.val] w fun e w' => ∃ z : Re, e = .returned (.tuple #[z.val, .int .i64 (eR x.con y.con)]) ∧ z.con = vR x.con y.con ∧ z.n ≤ 300 ∧ z.My w.heap.size w' ∧ Ext w w' := by
  have lx := hx.len
  have ly := hy.len
  have bx := hx.o.b
  have bY := hy.o.b
  have k1 := hx.o.lo
  have k2 := hy.o.lo
  have k3 := hx.o.hi
  have k4 := hy.o.hi
  refine enter Try.func34 rfl (by kernel_rfl) ?_
  refine J.seq ?_
  refine J.region ?_
  refine L.boxA (l := [_, _, _]) rfl rfl ?_
  intro b1 w1 hb1 hs1 hk1 he1
  refine L.boxA (l := [_, _, _]) rfl rfl ?_
  intro b2 w2 hb2 hs2 hk2 he2
  refine L.alloc rfl zr_72 ?_
  intro b3 w3 hb3 hs3 hk3 he3
  have he03 := (he1.trans he2).trans he3
  have z3 := he03.le
  have hk1 : Blk w3 b1 72 x.vs.toArray := (hk1.ext he2).ext he3
  have hk2 : Blk w3 b2 72 y.vs.toArray := hk2.ext he3
  have c1 := eread x.A x.n x.c x.b w3 (N := N) (by omega) (hx.r.ext he03) bx lx (by omega)
  refine L.va rfl (X.assign (by conv => lhs; whnf)) ?_
  refine L.nil ?_
  refine J.seq ?_
  refine J.region ?_
  refine L.va rfl (X.fieldAddr rfl Try.underlying72 rfl sz_37 (by decide)) ?_
  refine L.va rfl (X.load rfl sc_37 (by first | exact Ld.blk hk1 rfl | exact Ld.blk hk2 rfl)) ?_
  refine L.call rfl en_53 rfl (c1) ?_
  rintro e w4 ⟨p1, rfl, he4, hp1⟩
  refine ⟨_, rfl, ?_⟩
  have he04 := he03.trans he4
  have z4 := he04.le
  have hk1 := hk1.ext he4
  have hk2 := hk2.ext he4
  have hk3 := hk3.ext he4
  have c2 := eread y.A y.n y.c y.b w4 (N := N) (by omega) (hy.r.ext he04) bY ly (by omega)
  refine L.va rfl (X.move (by conv => lhs; whnf)) ?_
  refine L.va rfl (X.extract rfl rfl) ?_
  refine L.va rfl (X.extract rfl rfl) ?_
  refine L.va rfl (X.assign (by conv => lhs; whnf)) ?_
  refine L.va rfl (X.assign (by conv => lhs; whnf)) ?_
  refine L.nil ?_
  refine J.seq ?_
  refine J.region ?_
  refine L.va rfl (X.fieldAddr rfl Try.underlying72 rfl sz_37 (by decide)) ?_
  refine L.va rfl (X.load rfl sc_37 (by first | exact Ld.blk hk1 rfl | exact Ld.blk hk2 rfl)) ?_
  refine L.call rfl en_53 rfl (c2) ?_
  rintro e w5 ⟨p2, rfl, he5, hp2⟩
  refine ⟨_, rfl, ?_⟩
  have he05 := he04.trans he5
  have z5 := he05.le
  have hk1 := hk1.ext he5
  have hk2 := hk2.ext he5
  have hk3 := hk3.ext he5
  refine L.va rfl (X.move (by conv => lhs; whnf)) ?_
  refine L.va rfl (X.extract rfl rfl) ?_
  refine L.va rfl (X.extract rfl rfl) ?_
  refine L.va rfl (X.assign (by conv => lhs; whnf)) ?_
  refine L.va rfl (X.assign (by conv => lhs; whnf)) ?_
  refine L.nil ?_
  refine J.seq ?_
  refine J.seq ?_
  refine J.region ?_
  refine L.va rfl (X.move (by conv => lhs; whnf)) ?_
  refine L.va rfl (X.neq rfl rfl) ?_
  refine L.va rfl (X.move (by conv => lhs; whnf)) ?_
  refine L.caseNdec (k := 24) rfl (fun h1 => ?_) (fun h1 => ?_)
  · have hr : eR x.con y.con = 13 := eR_rot (.inl h1)
    refine L.no rfl ?_
    refine L.no rfl ?_
    refine L.va rfl (X.pickT rfl (by conv => lhs; whnf)) ?_
    refine L.nil ?_
    refine J.iteT rfl ?_
    refine J.seq ?_
    refine J.region ?_
    refine L.va rfl (X.build (l := [_, _, _]) Evs.nil (bld_run Try.underlying72 (bp_72 Try.underlying72) zr_72 rfl)) ?_
    refine L.storeAgg (vs := [_, _, _]) rfl rfl rfl rfl sz_72 (hk3) rfl ?_
    intro w6 hk6 hg6 hs6
    have he6 : Ext w w6 := he05.grw hg6 (by intro g hg; injection hg with hg; omega)
    refine L.va rfl (X.assign (by conv => lhs; whnf)) ?_
    refine L.nil ?_
    refine J.ret ?_
    refine thn_ret <| ?_
    refine finCT rfl (run_cell hk6 Try.underlying72 rfl (by kernel_rfl)) ?_
    exact ⟨re0, by rw [hr]; rfl, (vR_no (by rw [hr]; decide)).symm, by show 0 ≤ _; omega, re0_own _ _, he6⟩
  · have h1 : readE x.b = 0 := by simpa using h1
    refine L.va rfl (X.move (by conv => lhs; whnf)) ?_
    refine L.va rfl (X.neq rfl rfl) ?_
    refine L.va rfl (X.pickF rfl (by conv => lhs; whnf)) ?_
    refine L.nil ?_
    refine J.ndec rfl (fun h2 => ?_) (fun h2 => ?_)
    · have hr : eR x.con y.con = 13 := eR_rot (.inr h2)
      refine J.seq ?_
      refine J.region ?_
      refine L.va rfl (X.build (l := [_, _, _]) Evs.nil (bld_run Try.underlying72 (bp_72 Try.underlying72) zr_72 rfl)) ?_
      refine L.storeAgg (vs := [_, _, _]) rfl rfl rfl rfl sz_72 (hk3) rfl ?_
      intro w6 hk6 hg6 hs6
      have he6 : Ext w w6 := he05.grw hg6 (by intro g hg; injection hg with hg; omega)
      refine L.va rfl (X.assign (by conv => lhs; whnf)) ?_
      refine L.nil ?_
      refine J.ret ?_
      refine thn_ret <| ?_
      refine finCT rfl (run_cell hk6 Try.underlying72 rfl (by kernel_rfl)) ?_
      exact ⟨re0, by rw [hr]; rfl, (vR_no (by rw [hr]; decide)).symm, by show 0 ≤ _; omega, re0_own _ _, he6⟩
    · have h2 : readE y.b = 0 := by omega
      obtain ⟨g1, A1, q1, d1, rfl, hg1, hs1', hq1, hl1, ho1⟩ := hp1 h1
      obtain ⟨g2, A2, q2, d2, rfl, hg2, hs2', hq2, hl2, ho2⟩ := hp2 h2
      have hs1 : Blk w5 g1 127 (exV (cameB x.b) (negB x.b) A1 q1 d1) := hs1'.ext he5
      have hs2 : Blk w5 g2 127 (exV (cameB y.b) (negB y.b) A2 q2 d2) := hs2'
      have g1lt := hs1'.lt
      have ho1 := ho1.ext he5
      have c3 := ejoin A1 q1 d1 (magOf x.b) A2 q2 d2 (magOf y.b) w5 (N := w5.heap.size) (Nat.le_refl _) hs1 hs2 (by omega) (Reads.of_own ho1) (Reads.of_own ho2) hl1 hl2 (by omega) (mag_dig bx) (mag_dig bY) (neg_pos bx h1) (neg_pos bY h2) (mag_lt bx h1) (mag_lt bY h2)
      have eV : sgz (negB x.b) (nv (magOf x.b)) + sgz (negB y.b) (nv (magOf y.b)) = numB x.b + numB y.b := rfl
      rw [eV] at c3
      obtain ⟨V, hV⟩ : ∃ V, V = numB x.b + numB y.b := ⟨_, rfl⟩
      rw [← hV] at c3
      have nk1 : ¬ b1 = g1 := by omega
      have nk2 : ¬ b2 = g1 := by omega
      have nk3 : ¬ b3 = g1 := by omega
      refine J.skip ?_
      refine J.seq ?_
      refine J.seq ?_
      refine J.region ?_
      refine L.va rfl (X.move (by conv => lhs; whnf)) ?_
      refine L.va rfl (X.move (by conv => lhs; whnf)) ?_
      by_cases hv : (V.natAbs : Int) < 2 ^ rm
      · have hr : eR x.con y.con = 0 := eR_ok h1 h2 (by rw [← hV]; exact hv)
        have c4 := Calls.mono c3 fun e w' k => (⟨(k.1 hv).1, (k.1 hv).2, k.2.2⟩ : e = .returned (.bool true) ∧ PutTo w5 w' g1 (bits .or .u8 (cameB x.b) (cameB y.b)) V ∧ Chg (· = g1) w5 w')
        refine L.call rfl en_54 rfl (c4) ?_
        rintro e w6 ⟨rfl, ⟨A3, q3, d3, hk6, hl3, hd3, ho3⟩, hC6⟩
        refine ⟨_, rfl, ?_⟩
        have hk16 := hC6.blk hk1 nk1
        have hk26 := hC6.blk hk2 nk2
        have hk36 := hC6.blk hk3 nk3
        have he6 : Ext w w6 := ((Chg.of_ext he05).trans hC6 fun g' _ h => h).below (Nat.le_refl _) fun g' e => by omega
        have l3 := room_len hv
        refine L.va rfl (X.not rfl) ?_
        refine L.nil ?_
        refine J.iteF rfl ?_
        refine J.skip ?_
        refine J.seq ?_
        refine J.draw (ℓ := 1000000) (S := (fun w' => Blk w' b1 72 x.vs.toArray ∧ Blk w' b2 72 y.vs.toArray ∧ Ext w w')) mixed (fun w7 hSE hS_h => ?_)
        have hS : ((fun w' => Blk w' b1 72 x.vs.toArray ∧ Blk w' b2 72 y.vs.toArray ∧ Ext w w')) w7 := And.intro (hk16.ext hSE) (And.intro (hk26.ext hSE) (he6.trans hSE))
        have z7 := (he6.trans hSE).le
        have ho7 := ho3.ext hSE
        have c5 := ebytes A3 q3 d3 (wds V.natAbs) w7 (N := w7.heap.size) (Nat.le_refl _) (hk6.ext hSE) (Reads.of_own ho7) hl3.symm (by omega) (wds_dig _)
        refine D.va 0 rfl (by kernel_rfl) (fun _ _ _ h => h) rfl (fun w' hw => X.move (by conv => lhs; whnf)) hS ?_
        refine D.va 2 rfl (by kernel_rfl) (fun _ _ _ h => h) rfl (fun w' hw => X.fieldAddr rfl Try.underlying72 rfl sz_70 (by decide)) hS ?_
        refine D.va 3 rfl (by kernel_rfl) (fun _ _ _ h => h) rfl (fun w' hw => X.load rfl sc_70 (by first | exact Ld.blk hw.1 rfl | exact Ld.blk hw.2.1 rfl)) hS ?_
        refine D.va 4 rfl (by kernel_rfl) (fun _ _ _ h => h) rfl (fun w' hw => X.fieldAddr rfl Try.underlying72 rfl sz_70 (by decide)) hS ?_
        refine D.va 5 rfl (by kernel_rfl) (fun _ _ _ h => h) rfl (fun w' hw => X.load rfl sc_70 (by first | exact Ld.blk hw.1 rfl | exact Ld.blk hw.2.1 rfl)) hS ?_
        refine D.va 7 rfl (by kernel_rfl) (fun _ _ _ h => h) rfl (fun w' hw => X.fieldAddr rfl Try.underlying72 rfl sz_70 (by decide)) hS ?_
        refine D.va 8 rfl (by kernel_rfl) (fun _ _ _ h => h) rfl (fun w' hw => X.load rfl sc_70 (by first | exact Ld.blk hw.1 rfl | exact Ld.blk hw.2.1 rfl)) hS ?_
        refine D.va 9 rfl (by kernel_rfl) (fun _ _ _ h => h) rfl (fun w' hw => X.fieldAddr rfl Try.underlying72 rfl sz_70 (by decide)) hS ?_
        refine D.va 10 rfl (by kernel_rfl) (fun _ _ _ h => h) rfl (fun w' hw => X.load rfl sc_70 (by first | exact Ld.blk hw.1 rfl | exact Ld.blk hw.2.1 rfl)) hS ?_
        refine D.one 1 (by kernel_rfl) rfl ?_
        refine L.call rfl en_55 rfl (c5) ?_
        rintro e w8 ⟨z, A8, q8, d8, hz, rfl, hq8, ho8, he8⟩
        refine ⟨_, rfl, ?_⟩
        have hS1 := And.intro (hk16.ext (hSE.trans he8)) (And.intro (hk26.ext (hSE.trans he8)) ((he6.trans hSE).trans he8))
        refine L.nil ?_
        refine ⟨fun _ => hS1, ?_⟩
        rw [← hz.eq] at ho8 hq8
        have hk38 := hk36.ext (hSE.trans he8)
        have hk18 := hk16.ext (hSE.trans he8)
        have hk28 := hk26.ext (hSE.trans he8)
        refine D.call 6 rfl (by kernel_rfl) (fun _ _ _ h => h) rfl en_56 rfl (fun w' hw => fleast x.lo y.lo w' k1 k2) hS1 ?_
        refine D.call 11 rfl (by kernel_rfl) (fun _ _ _ h => h) rfl en_57 rfl (fun w' hw => fmost x.hi y.hi w' k3 k4) hS1 ?_
        refine D.va 12 rfl (by kernel_rfl) (fun _ _ _ h => h) rfl (fun w' hw => X.build (l := [_, _, _]) (Evs.cons (by conv => lhs; whnf) (Evs.cons (by conv => lhs; whnf) (Evs.cons (by conv => lhs; whnf) Evs.nil))) (bld_run Try.underlying72 (bp_72 Try.underlying72) zr_72 rfl)) hS1 ?_
        refine D.one 13 (by kernel_rfl) rfl ?_
        refine L.storeAgg (vs := [_, _, _]) rfl rfl rfl rfl sz_72 (hk38) rfl ?_
        intro w9 hk9 hg9 hs9
        have hS2 := And.intro (hk18.grown hg9 (fun e ↦ by injection e with e; omega)) (And.intro (hk28.grown hg9 (fun e ↦ by injection e with e; omega)) (((he6.trans hSE).trans he8).grw hg9 (by intro g hg; injection hg with hg; omega)))
        refine L.nil ?_
        refine ⟨fun _ => hS2, ?_⟩
        have he9 : Ext w w9 := ((he6.trans hSE).trans he8).grw hg9 (by intro g hg; injection hg with hg; omega)
        have ho9 := own_lowN (ho8.kept hg9 (.inr (own_blk_ne ho8 hk38 (by decide)))) z7
        have lB := bytB_len (bits .or .u8 (cameB x.b) (cameB y.b)) V
        refine D.va 14 rfl (by kernel_rfl) (fun _ _ _ h => h) rfl (fun w' hw => X.assign (by conv => lhs; whnf)) hS2 ?_
        refine D.done (by kernel_rfl) ?_
        refine J.ret ?_
        refine finCT rfl (run_cell hk9 Try.underlying72 rfl (by kernel_rfl)) ?_
        refine ⟨⟨A8, q8, d8, bytB (bits .or .u8 (cameB x.b) (cameB y.b)) V, leastF x.lo y.lo, mostF x.hi y.hi⟩, by rw [hr]; rfl, by rw [vR_ok hr, hV], by show q8 ≤ 300; rw [hq8]; exact Nat.le_trans lB (by omega), ⟨ho9, by show q8 ≤ _; unfold maxLen; rw [hq8]; exact Nat.le_trans lB (by omega), ⟨bytB_b (or8_b (cameB_b bx) (cameB_b bY)) (by omega), leastF_b k1 k2, mostF_b k3 k4⟩⟩, he9⟩
      · have hr : eR x.con y.con = 10 := eR_no h1 h2 (by rw [← hV]; exact hv)
        have c4 := Calls.mono c3 fun e w' k => (⟨(k.2.1 hv), k.2.2⟩ : e = .returned (.bool false) ∧ Chg (· = g1) w5 w')
        refine L.call rfl en_54 rfl (c4) ?_
        rintro e w6 ⟨rfl, hC6⟩
        refine ⟨_, rfl, ?_⟩
        have hk36 := hC6.blk hk3 nk3
        have he6 : Ext w w6 := ((Chg.of_ext he05).trans hC6 fun g' _ h => h).below (Nat.le_refl _) fun g' e => by omega
        refine L.va rfl (X.not rfl) ?_
        refine L.nil ?_
        refine J.iteT rfl ?_
        refine J.seq ?_
        refine J.region ?_
        refine L.va rfl (X.build (l := [_, _, _]) Evs.nil (bld_run Try.underlying72 (bp_72 Try.underlying72) zr_72 rfl)) ?_
        refine L.storeAgg (vs := [_, _, _]) rfl rfl rfl rfl sz_72 (hk36) rfl ?_
        intro w7 hk7 hg7 hs7
        have he7 : Ext w w7 := he6.grw hg7 (by intro g hg; injection hg with hg; omega)
        refine L.va rfl (X.assign (by conv => lhs; whnf)) ?_
        refine L.nil ?_
        refine J.ret ?_
        refine thn_ret <| ?_
        refine finCT rfl (run_cell hk7 Try.underlying72 rfl (by kernel_rfl)) ?_
        exact ⟨re0, by rw [hr]; rfl, (vR_no (by rw [hr]; decide)).symm, by show 0 ≤ _; omega, re0_own _ _, he7⟩
end Go.Proofs.Ytnndkepnabddgaa
namespace Go.Proofs.Ytnndkepnabddgaa
set_option maxRecDepth 100000
open Go.RowKit H
open Exa Flo Wd
set_option linter.unusedVariables false
structure Ce.LtQ (x : Ce) (q : Nat) : Prop where
  i : x.ni ≤ 10
  r : x.nr ≤ 10
  li : ∀ y ∈ x.is, y.n ≤ q
  lr : ∀ y ∈ x.rs, y.n ≤ 300
def firstE (l : List Int) : Int := (l.find? (fun z => decide (z ≠ 0))).getD 0
def esI (x y : Con) : List Int := (List.range x.is.length).map fun i => eW (x.is.getD i wc0) (y.is.getD i wc0)
noncomputable def esR (x y : Con) : List Int := (List.range x.rs.length).map fun i => eR (x.rs.getD i rc0) (y.rs.getD i rc0)
abbrev shape (x y : Con) : Prop := x.k = y.k ∧ x.is.length = y.is.length ∧ x.rs.length = y.rs.length
noncomputable def eJ (x y : Con) : Int := if ¬ shape x y then 1 else if ¬ In64 (x.t + y.t) then 10 else if firstE (esI x y) ≠ 0 then firstE (esI x y) else firstE (esR x y)
noncomputable def vJ (x y : Con) : Con := if eJ x y = 0 then ⟨x.k, x.t + y.t, (List.range x.is.length).map fun i => vW (x.is.getD i wc0) (y.is.getD i wc0), (List.range x.rs.length).map fun i => vR (x.rs.getD i rc0) (y.rs.getD i rc0)⟩ else con0
theorem gd_l {α : Type} {d z : α} {l : List α} {j : Nat} (h : j < l.length) : (l ++ [z]).getD j d = l.getD j d := by
  rw [List.getD, List.getElem?_append_left h, List.getD]
theorem gd_r {α : Type} {d z : α} {l : List α} {j : Nat} (h : j = l.length) : (l ++ [z]).getD j d = z := by
  rw [h, List.getD, List.getElem?_append_right (Nat.le_refl _), Nat.sub_self]
  rfl
theorem whc_at (l : List Wh) (i : Nat) : (l.map Wh.con).getD i wc0 = (l.getD i wh0).con := by
  rw [List.getD, List.getElem?_map, List.getD]
  cases l[i]? <;> rfl
theorem rec_at (l : List Re) (i : Nat) : (l.map Re.con).getD i rc0 = (l.getD i re0).con := by
  rw [List.getD, List.getElem?_map, List.getD]
  cases l[i]? <;> rfl
section
variable {x y : Ce}
theorem esI_at {i : Nat} (hi : i < x.is.length) : (esI x.con y.con).getD i 0 = eW (x.is.getD i wh0).con (y.is.getD i wh0).con := by
  unfold esI
  rw [range_at (by show i < (x.is.map Wh.con).length; rw [List.length_map]; exact hi)]
  show eW ((x.is.map Wh.con).getD i wc0) ((y.is.map Wh.con).getD i wc0) = _
  rw [whc_at, whc_at]
theorem esI_len : (esI x.con y.con).length = x.is.length := by unfold esI; rw [List.length_map, List.length_range]; exact List.length_map ..
theorem esR_at {i : Nat} (hi : i < x.rs.length) : (esR x.con y.con).getD i 0 = eR (x.rs.getD i re0).con (y.rs.getD i re0).con := by
  unfold esR
  rw [range_at (by show i < (x.rs.map Re.con).length; rw [List.length_map]; exact hi)]
  show eR ((x.rs.map Re.con).getD i rc0) ((y.rs.map Re.con).getD i rc0) = _
  rw [rec_at, rec_at]
theorem esR_len : (esR x.con y.con).length = x.rs.length := by unfold esR; rw [List.length_map, List.length_range]; exact List.length_map ..
theorem vJ_no (h : eJ x.con y.con ≠ 0) : vJ x.con y.con = con0 := by unfold vJ; exact if_neg h
theorem eJ_shape (h : ¬ (x.k = y.k ∧ x.is.length = y.is.length ∧ x.rs.length = y.rs.length)) : eJ x.con y.con = 1 := by
  unfold eJ
  rw [if_pos]
  intro k
  exact h ⟨k.1, by simpa [Ce.con] using k.2.1, by simpa [Ce.con] using k.2.2⟩
theorem shape_of (h : x.k = y.k ∧ x.is.length = y.is.length ∧ x.rs.length = y.rs.length) : shape x.con y.con := ⟨h.1, by simpa [Ce.con] using h.2.1, by simpa [Ce.con] using h.2.2⟩
theorem eJ_over (h : shape x.con y.con) (h4 : ¬ In64 (x.t + y.t)) : eJ x.con y.con = 10 := by
  unfold eJ
  rw [if_neg (fun k => k h), if_pos h4]
theorem eJ_i (h : shape x.con y.con) (h4 : In64 (x.t + y.t)) {i : Nat} (hi : i < x.is.length) (hz : ∀ j, j < i → eW (x.is.getD j wh0).con (y.is.getD j wh0).con = 0) (hn : eW (x.is.getD i wh0).con (y.is.getD i wh0).con ≠ 0) : eJ x.con y.con = eW (x.is.getD i wh0).con (y.is.getD i wh0).con := by
  have e : firstE (esI x.con y.con) = eW (x.is.getD i wh0).con (y.is.getD i wh0).con := by
    unfold firstE
    rw [find1 (i := i) (by rw [esI_len]; exact hi) (fun j hj => by rw [esI_at (by omega)]; exact hz j hj) (by rw [esI_at hi]; exact hn), esI_at hi]
  unfold eJ
  rw [if_neg (fun k => k h), if_neg (fun k => k h4), if_pos (by rw [e]; exact hn), e]
theorem first_i0 (hz : ∀ j, j < x.is.length → eW (x.is.getD j wh0).con (y.is.getD j wh0).con = 0) : firstE (esI x.con y.con) = 0 := by
  unfold firstE
  exact find0 fun j hj => by rw [esI_len] at hj; rw [esI_at hj]; exact hz j hj
theorem eJ_r (h : shape x.con y.con) (h4 : In64 (x.t + y.t)) (h0 : firstE (esI x.con y.con) = 0) {i : Nat} (hi : i < x.rs.length) (hz : ∀ j, j < i → eR (x.rs.getD j re0).con (y.rs.getD j re0).con = 0) (hn : eR (x.rs.getD i re0).con (y.rs.getD i re0).con ≠ 0) : eJ x.con y.con = eR (x.rs.getD i re0).con (y.rs.getD i re0).con := by
  have e : firstE (esR x.con y.con) = eR (x.rs.getD i re0).con (y.rs.getD i re0).con := by
    unfold firstE
    rw [find1 (i := i) (by rw [esR_len]; exact hi) (fun j hj => by rw [esR_at (by omega)]; exact hz j hj) (by rw [esR_at hi]; exact hn), esR_at hi]
  unfold eJ
  rw [if_neg (fun k => k h), if_neg (fun k => k h4), if_neg (by simp [h0]), e]
theorem eJ_0 (h : shape x.con y.con) (h4 : In64 (x.t + y.t)) (h0 : firstE (esI x.con y.con) = 0) (hz : ∀ j, j < x.rs.length → eR (x.rs.getD j re0).con (y.rs.getD j re0).con = 0) : eJ x.con y.con = 0 := by
  have e : firstE (esR x.con y.con) = 0 := by
    unfold firstE
    exact find0 fun j hj => by rw [esR_len] at hj; rw [esR_at hj]; exact hz j hj
  unfold eJ
  rw [if_neg (fun k => k h), if_neg (fun k => k h4), if_neg (by simp [h0]), e]
theorem vJ_0 (h : eJ x.con y.con = 0) {zs : List Wh} {us : List Re} (hl : zs.length = x.is.length) (hz : ∀ j, j < x.is.length → (zs.getD j wh0).con = vW (x.is.getD j wh0).con (y.is.getD j wh0).con) (hm : us.length = x.rs.length) (hu : ∀ j, j < x.rs.length → (us.getD j re0).con = vR (x.rs.getD j re0).con (y.rs.getD j re0).con) : (⟨x.k, x.t + y.t, zs.map Wh.con, us.map Re.con⟩ : Con) = vJ x.con y.con := by
  unfold vJ
  rw [if_pos h]
  have e1 : zs.map Wh.con = (List.range x.con.is.length).map fun i => vW (x.con.is.getD i wc0) (y.con.is.getD i wc0) := by
    apply List.ext_getElem
    · simp [hl]
    · intro i h1 h2
      have hi : i < x.is.length := by rw [List.length_map] at h1; omega
      have := hz i hi
      rw [List.getElem_map, List.getElem_map, List.getElem_range]
      rw [List.getD, List.getElem?_eq_getElem (by omega)] at this
      rw [show x.con.is = x.is.map Wh.con from rfl, show y.con.is = y.is.map Wh.con from rfl, whc_at, whc_at]
      exact this
  have e2 : us.map Re.con = (List.range x.con.rs.length).map fun i => vR (x.con.rs.getD i rc0) (y.con.rs.getD i rc0) := by
    apply List.ext_getElem
    · simp [hm]
    · intro i h1 h2
      have hi : i < x.rs.length := by rw [List.length_map] at h1; omega
      have := hu i hi
      rw [List.getElem_map, List.getElem_map, List.getElem_range]
      rw [List.getD, List.getElem?_eq_getElem (by omega)] at this
      rw [show x.con.rs = x.rs.map Re.con from rfl, show y.con.rs = y.rs.map Re.con from rfl, rec_at, rec_at]
      exact this
  rw [e1, e2]
end
structure Ce.My (x : Ce) (N : Nat) (w : World) : Prop where
  k : x.k < 18446744073709551616
  t : In64 x.t
  i : w.ownsRow N 69 5 (.slice x.Ai x.ni x.ci) x.ni (x.is.flatMap Wh.vs)
  hi : ∀ y ∈ x.is, y.My N w
  li : x.is.length = x.ni
  r : w.ownsRow N 72 3 (.slice x.Ar x.nr x.cr) x.nr (x.rs.flatMap Re.vs)
  hr : ∀ y ∈ x.rs, y.My N w
  lr : x.rs.length = x.nr
theorem ce0_my (N : Nat) (w : World) : ce0.My N w := ⟨by decide, by decide, own_nil _ _ _ _, (fun y hy => by cases hy), rfl, own_nil _ _ _ _, (fun y hy => by cases hy), rfl⟩
theorem ce0_lt (q : Nat) : ce0.LtQ q := ⟨by decide, by decide, (fun y hy => by cases hy), (fun y hy => by cases hy)⟩
theorem ajoin {x y : Ce} {q : Nat} {w : World} {N : Nat} (hN : N ≤ w.heap.size) (hx : x.At N w) (hy : y.At N w) (Lx : x.LtQ q) (Ly : y.LtQ q) (hq : q ≤ 80000) : Calls Try.prog 19 #[x.val, y.val] w fun e w' => ∃ z : Ce, e = .returned (.tuple #[z.val, .int .i64 (eJ x.con y.con)]) ∧ z.con = vJ x.con y.con ∧ z.My w.heap.size w' ∧ z.LtQ (q + 1) ∧ Ext w w' := by
  have kx := hx.k
  have ky := hy.k
  have tx := hx.t
  have ty := hy.t
  have lxi := hx.li
  have lyi := hy.li
  have lxr := hx.lr
  have lyr := hy.lr
  have L1 := Lx.i
  have L2 := Lx.r
  have L3 := Ly.i
  have L4 := Ly.r
  refine enter Try.func19 rfl (by kernel_rfl) ?_
  refine J.seq ?_
  refine J.region ?_
  refine L.boxA (l := [_, _, _, _]) rfl rfl ?_
  intro b1 w1 hb1 hs1 hk1 he1
  refine L.boxA (l := [_, _, _, _]) rfl rfl ?_
  intro b2 w2 hb2 hs2 hk2 he2
  refine L.alloc rfl zr_48 ?_
  intro b3 w3 hb3 hs3 hk3 he3
  have he03 := (he1.trans he2).trans he3
  have z3 := he03.le
  have hk1 : Blk w3 b1 48 x.vs.toArray := (hk1.ext he2).ext he3
  have hk2 : Blk w3 b2 48 y.vs.toArray := hk2.ext he3
  have c1 := wadd x.t y.t w3 tx ty
  refine L.va rfl (X.assign (by conv => lhs; whnf)) ?_
  refine L.nil ?_
  refine J.seq ?_
  refine J.seq ?_
  refine J.region ?_
  refine L.va rfl (X.fieldAddr rfl Try.underlying48 rfl sz_44 (by decide)) ?_
  refine L.va rfl (X.load rfl sc_44 (by first | exact Ld.blk hk1 rfl | exact Ld.blk hk2 rfl)) ?_
  refine L.va rfl (X.fieldAddr rfl Try.underlying48 rfl sz_44 (by decide)) ?_
  refine L.va rfl (X.load rfl sc_44 (by first | exact Ld.blk hk1 rfl | exact Ld.blk hk2 rfl)) ?_
  refine L.va rfl (X.neq rfl rfl) ?_
  refine L.va rfl (X.move (by conv => lhs; whnf)) ?_
  refine L.caseNdec (k := 20) rfl (fun h1 => ?_) (fun h1 => ?_)
  · have hE : eJ x.con y.con = 1 := eJ_shape fun k => by omega
    refine L.no rfl ?_
    refine L.no rfl ?_
    refine L.no rfl ?_
    refine L.no rfl ?_
    refine L.no rfl ?_
    refine L.no rfl ?_
    refine L.no rfl ?_
    refine L.va rfl (X.pickT rfl (by conv => lhs; whnf)) ?_
    refine L.va rfl (X.move (by conv => lhs; whnf)) ?_
    refine L.no rfl ?_
    refine L.no rfl ?_
    refine L.no rfl ?_
    refine L.no rfl ?_
    refine L.no rfl ?_
    refine L.no rfl ?_
    refine L.no rfl ?_
    refine L.va rfl (X.pickT rfl (by conv => lhs; whnf)) ?_
    refine L.nil ?_
    refine J.iteT rfl ?_
    refine J.seq ?_
    refine J.region ?_
    refine L.va rfl (X.build (l := [_, _, _, _]) Evs.nil (bld_run Try.underlying48 (bp_48 Try.underlying48) zr_48 rfl)) ?_
    refine L.storeAgg (vs := [_, _, _, _]) rfl rfl rfl rfl sz_48 (hk3) rfl ?_
    intro w4 hk4 hg4 hs4
    have he4 : Ext w w4 := he03.grw hg4 (by intro g hg; injection hg with hg; omega)
    refine L.va rfl (X.assign (by conv => lhs; whnf)) ?_
    refine L.nil ?_
    refine J.ret ?_
    refine thn_ret <| ?_
    refine finCT rfl (run_cell hk4 Try.underlying48 rfl (by kernel_rfl)) ?_
    exact ⟨ce0, by rw [hE]; rfl, by rw [vJ_no (by rw [hE]; decide)]; rfl, ce0_my _ _, ce0_lt _, he4⟩
  · refine L.va rfl (X.fieldAddr rfl Try.underlying48 rfl sz_45 (by decide)) ?_
    refine L.va rfl (X.load rfl sc_45 (by first | exact Ld.blk hk1 rfl | exact Ld.blk hk2 rfl)) ?_
    refine L.va rfl (X.len rfl Try.underlying45) ?_
    refine L.va rfl (X.fieldAddr rfl Try.underlying48 rfl sz_45 (by decide)) ?_
    refine L.va rfl (X.load rfl sc_45 (by first | exact Ld.blk hk1 rfl | exact Ld.blk hk2 rfl)) ?_
    refine L.va rfl (X.len rfl Try.underlying45) ?_
    refine L.va rfl (X.neq rfl rfl) ?_
    refine L.va rfl (X.pickF rfl (by conv => lhs; whnf)) ?_
    refine L.va rfl (X.move (by conv => lhs; whnf)) ?_
    refine L.caseNdec (k := 29) rfl (fun h2 => ?_) (fun h2 => ?_)
    · have hE : eJ x.con y.con = 1 := eJ_shape fun k => by omega
      refine L.no rfl ?_
      refine L.no rfl ?_
      refine L.no rfl ?_
      refine L.no rfl ?_
      refine L.no rfl ?_
      refine L.no rfl ?_
      refine L.no rfl ?_
      refine L.va rfl (X.pickT rfl (by conv => lhs; whnf)) ?_
      refine L.nil ?_
      refine J.iteT rfl ?_
      refine J.seq ?_
      refine J.region ?_
      refine L.va rfl (X.build (l := [_, _, _, _]) Evs.nil (bld_run Try.underlying48 (bp_48 Try.underlying48) zr_48 rfl)) ?_
      refine L.storeAgg (vs := [_, _, _, _]) rfl rfl rfl rfl sz_48 (hk3) rfl ?_
      intro w4 hk4 hg4 hs4
      have he4 : Ext w w4 := he03.grw hg4 (by intro g hg; injection hg with hg; omega)
      refine L.va rfl (X.assign (by conv => lhs; whnf)) ?_
      refine L.nil ?_
      refine J.ret ?_
      refine thn_ret <| ?_
      refine finCT rfl (run_cell hk4 Try.underlying48 rfl (by kernel_rfl)) ?_
      exact ⟨ce0, by rw [hE]; rfl, by rw [vJ_no (by rw [hE]; decide)]; rfl, ce0_my _ _, ce0_lt _, he4⟩
    · refine L.va rfl (X.fieldAddr rfl Try.underlying48 rfl sz_46 (by decide)) ?_
      refine L.va rfl (X.load rfl sc_46 (by first | exact Ld.blk hk1 rfl | exact Ld.blk hk2 rfl)) ?_
      refine L.va rfl (X.len rfl Try.underlying46) ?_
      refine L.va rfl (X.fieldAddr rfl Try.underlying48 rfl sz_46 (by decide)) ?_
      refine L.va rfl (X.load rfl sc_46 (by first | exact Ld.blk hk1 rfl | exact Ld.blk hk2 rfl)) ?_
      refine L.va rfl (X.len rfl Try.underlying46) ?_
      refine L.va rfl (X.neq rfl rfl) ?_
      refine L.va rfl (X.pickF rfl (by conv => lhs; whnf)) ?_
      refine L.nil ?_
      refine J.ndec rfl (fun h3 => ?_) (fun h3 => ?_)
      · have hE : eJ x.con y.con = 1 := eJ_shape fun k => by omega
        refine J.seq ?_
        refine J.region ?_
        refine L.va rfl (X.build (l := [_, _, _, _]) Evs.nil (bld_run Try.underlying48 (bp_48 Try.underlying48) zr_48 rfl)) ?_
        refine L.storeAgg (vs := [_, _, _, _]) rfl rfl rfl rfl sz_48 (hk3) rfl ?_
        intro w4 hk4 hg4 hs4
        have he4 : Ext w w4 := he03.grw hg4 (by intro g hg; injection hg with hg; omega)
        refine L.va rfl (X.assign (by conv => lhs; whnf)) ?_
        refine L.nil ?_
        refine J.ret ?_
        refine thn_ret <| ?_
        refine finCT rfl (run_cell hk4 Try.underlying48 rfl (by kernel_rfl)) ?_
        exact ⟨ce0, by rw [hE]; rfl, by rw [vJ_no (by rw [hE]; decide)]; rfl, ce0_my _ _, ce0_lt _, he4⟩
      · refine J.skip ?_
        refine J.seq ?_
        refine J.region ?_
        refine L.va rfl (X.fieldAddr rfl Try.underlying48 rfl sz_2 (by decide)) ?_
        refine L.va rfl (X.load rfl sc_2 (by first | exact Ld.blk hk1 rfl | exact Ld.blk hk2 rfl)) ?_
        refine L.va rfl (X.fieldAddr rfl Try.underlying48 rfl sz_2 (by decide)) ?_
        refine L.va rfl (X.load rfl sc_2 (by first | exact Ld.blk hk1 rfl | exact Ld.blk hk2 rfl)) ?_
        have hsh : shape x.con y.con := shape_of ⟨by omega, by omega, by omega⟩
        by_cases h4 : In64 (x.t + y.t)
        · rw [if_pos h4] at c1
          refine L.call rfl en_32 rfl (c1) ?_
          rintro e _ ⟨rfl, rfl⟩
          refine ⟨_, rfl, ?_⟩
          refine L.va rfl (X.move (by conv => lhs; whnf)) ?_
          refine L.va rfl (X.extract rfl rfl) ?_
          refine L.va rfl (X.extract rfl rfl) ?_
          refine L.va rfl (X.assign (by conv => lhs; whnf)) ?_
          refine L.va rfl (X.assign (by conv => lhs; whnf)) ?_
          refine L.nil ?_
          refine J.seq ?_
          refine J.seq ?_
          refine J.region ?_
          refine L.va rfl (X.move (by conv => lhs; whnf)) ?_
          refine L.va rfl (X.not rfl) ?_
          refine L.nil ?_
          refine J.iteF rfl ?_
          refine J.skip ?_
          refine J.seq ?_
          refine J.region ?_
          refine L.va rfl (X.fieldAddr rfl Try.underlying48 rfl sz_44 (by decide)) ?_
          refine L.va rfl (X.load rfl sc_44 (by first | exact Ld.blk hk1 rfl | exact Ld.blk hk2 rfl)) ?_
          refine L.va rfl (X.move (by conv => lhs; whnf)) ?_
          refine L.va rfl (X.build (l := [_, _, _, _]) (Evs.cons (by conv => lhs; whnf) (Evs.cons (by conv => lhs; whnf) Evs.nil)) (bld_run Try.underlying48 (bp_48 Try.underlying48) zr_48 rfl)) ?_
          refine L.alloc rfl zr_48 ?_
          intro b4 w4 hb4 hs4 hk4 he4
          have hk1 := hk1.ext he4
          have hk2 := hk2.ext he4
          have hk3 := hk3.ext he4
          refine L.storeAgg (vs := [_, _, _, _]) rfl rfl rfl rfl sz_48 (hk4) rfl ?_
          intro w5 hk5 hg5 hs5
          have hk1 := hk1.grown hg5 (fun e => by injection e with e; omega)
          have hk2 := hk2.grown hg5 (fun e => by injection e with e; omega)
          have hk3 := hk3.grown hg5 (fun e => by injection e with e; omega)
          have he05 : Ext w w5 := (he03.trans he4).grw hg5 (by intro g hg; injection hg with hg; omega)
          have hk5 : Blk w5 b4 48 #[.int .u64 (x.k : Int), .int .i64 (x.t + y.t), .slice none 0 0, .slice none 0 0] := hk5
          have z5 := he05.le
          refine L.nil ?_
          refine J.seq ?_
          refine J.seq ?_
          refine J.region ?_
          refine L.va rfl (X.fieldAddr rfl Try.underlying48 rfl sz_45 (by decide)) ?_
          refine L.va rfl (X.load rfl sc_45 (by first | exact Ld.blk hk1 rfl | exact Ld.blk hk2 rfl)) ?_
          refine L.va rfl (X.len rfl Try.underlying45) ?_
          refine L.va rfl (X.move (by conv => lhs; whnf)) ?_
          refine L.nil ?_
          refine J.block ?_
          refine J.loop (X := Nat × Option Addr × Nat × List Wh) [5, 9, 10, 11, 57, 58, 59, 60, 61, 62, 63, 64, 65, 66, 67, 68, 69, 70, 71, 72, 73, 74, 75, 76, 77, 78, 79, 80, 81, 82, 83, 84] (fun (i, A, c, zs) => [(57, .int .i64 (i : Int))]) (fun (i, A, c, zs) w' => i ≤ x.ni ∧ zs.length = i ∧ (∀ j, j < i → eW (x.is.getD j wh0).con (y.is.getD j wh0).con = 0 ∧ (zs.getD j wh0).con = vW (x.is.getD j wh0).con (y.is.getD j wh0).con) ∧ (∀ z ∈ zs, z.My w.heap.size w' ∧ z.n ≤ q + 1) ∧ w'.ownsRow w.heap.size 69 5 (.slice A i c) i (zs.flatMap Wh.vs) ∧ Blk w' b4 48 #[.int .u64 (x.k : Int), .int .i64 (x.t + y.t), .slice A i c, .slice none 0 0] ∧ Blk w' b1 48 x.vs.toArray ∧ Blk w' b2 48 y.vs.toArray ∧ Blk w' b3 48 #[.int .u64 0, .int .i64 0, .slice none 0 0, .slice none 0 0] ∧ Ext w w' ∧ w5.heap.size ≤ w'.heap.size) (fun (i, _) => x.ni - i) ((0, none, 0, [])) (At1 (by first | rfl | exact at_int rfl (by omega) | exact at_slice rfl (by omega) | exact at_int rfl (by simp))) ?_ ?_
          · exact ⟨Nat.zero_le _, rfl, fun j hj => absurd hj (by omega), (fun z hz => by cases hz), own_nil _ _ _ _, hk5, hk1, hk2, hk3, he05, Nat.le_refl _⟩
          · rintro ⟨i, A, c, zs⟩ g w6 ⟨hi, hl6, hv6, hz6, ho6, hk46, hk16, hk26, hk36, he6, z6⟩
            refine J.seq ?_
            refine J.region ?_
            refine L.va rfl (X.lss rfl rfl) ?_
            refine L.nil ?_
            refine J.seq ?_
            refine J.dec rfl (fun hlt => ?_) (fun hlt => ?_)
            · have hlt : (i : Int) < (x.ni : Int) := hlt
              obtain ⟨p, hp⟩ : ∃ p, p = x.is.getD i wh0 := ⟨_, rfl⟩
              obtain ⟨r, hr⟩ : ∃ r, r = y.is.getD i wh0 := ⟨_, rfl⟩
              have gp := gtW (l := x.is) (i := i) (by omega)
              have gr := gtW (l := y.is) (i := i) (by omega)
              rw [← hp] at gp
              rw [← hr] at gr
              have hAx := hx.i.some_ (by omega)
              have hAy := hy.i.some_ (by omega)
              have zo := (Lx.li p (by rw [hp]; exact memD (by omega)))
              have zr := (Ly.li r (by rw [hr]; exact memD (by omega)))
              have hpA := hx.hi p (by rw [hp]; exact memD (by omega))
              have hrA := hy.hi r (by rw [hr]; exact memD (by omega))
              refine J.skip ?_
              refine J.seq ?_
              refine J.block ?_
              refine J.seq ?_
              refine J.region ?_
              refine L.va rfl (X.move (by conv => lhs; whnf)) ?_
              refine L.va rfl (X.assign (by conv => lhs; whnf)) ?_
              refine L.nil ?_
              refine J.cut (X := Wh × Nat) [10, 11, 60, 61, 62, 63, 64, 65, 66, 67, 68, 69, 70, 71, 72, 73] (fun (z, b10) => [(10, .pointer (some ⟨b10, 0, none⟩)), (11, .int .i64 (eW p.con r.con))]) (fun (z, b10) w' => Blk w' b10 69 z.vs.toArray ∧ z.con = vW p.con r.con ∧ z.n ≤ q + 1 ∧ z.My w6.heap.size w' ∧ w6.heap.size ≤ b10 ∧ Ext w6 w') ?_ ?_
              · skip
                refine J.draw (ℓ := 1000000) (S := Ext w6) mixed (fun w7 hS hS_h => ?_)
                refine D.va 0 rfl (by kernel_rfl) (fun _ _ _ h => h) rfl (fun w' hw => X.fieldAddr rfl Try.underlying48 rfl sz_45 (by decide)) hS ?_
                refine D.va 1 rfl (by kernel_rfl) (fun _ _ _ h => h) rfl (fun w' hw => X.load rfl sc_45 (by first | exact Ld.blk (hk16.ext hw) rfl | exact Ld.blk (hk26.ext hw) rfl | exact hAx | exact hAy)) hS ?_
                refine D.va 2 rfl (by kernel_rfl) (fun _ _ _ h => h) rfl (fun w' hw => X.move (by conv => lhs; whnf)) hS ?_
                refine D.va 3 rfl (by kernel_rfl) (fun _ _ _ h => h) rfl (fun w' hw => (by first | exact X.indexAddrn rfl rfl Try.underlying45 sz_69 (by first | exact Option.some_ne_none _ | exact hAx | exact hAy) (by omega) | exact X.indexAddr rfl rfl Try.underlying45 sz_69 (by first | exact Option.some_ne_none _ | exact hAx | exact hAy) (by omega))) hS ?_
                refine D.va 4 rfl (by kernel_rfl) (fun _ _ _ h => h) rfl (fun w' hw => X.loadRow (cs := p.vs) rfl (hx.i.ext (he6.trans hw)) (fun r u hu => flat_row wh_len gp r u hu) (Nat.zero_lt_succ _) Try.underlying69 rfl (by kernel_rfl)) hS ?_
                refine D.va 5 rfl (by kernel_rfl) (fun _ _ _ h => h) rfl (fun w' hw => X.fieldAddr rfl Try.underlying48 rfl sz_45 (by decide)) hS ?_
                refine D.va 6 rfl (by kernel_rfl) (fun _ _ _ h => h) rfl (fun w' hw => X.load rfl sc_45 (by first | exact Ld.blk (hk16.ext hw) rfl | exact Ld.blk (hk26.ext hw) rfl | exact hAx | exact hAy)) hS ?_
                refine D.va 7 rfl (by kernel_rfl) (fun _ _ _ h => h) rfl (fun w' hw => X.move (by conv => lhs; whnf)) hS ?_
                refine D.va 8 rfl (by kernel_rfl) (fun _ _ _ h => h) rfl (fun w' hw => (by first | exact X.indexAddrn rfl rfl Try.underlying45 sz_69 (by first | exact Option.some_ne_none _ | exact hAx | exact hAy) (by omega) | exact X.indexAddr rfl rfl Try.underlying45 sz_69 (by first | exact Option.some_ne_none _ | exact hAx | exact hAy) (by omega))) hS ?_
                refine D.va 9 rfl (by kernel_rfl) (fun _ _ _ h => h) rfl (fun w' hw => X.loadRow (cs := r.vs) rfl (hy.i.ext (he6.trans hw)) (fun r u hu => flat_row wh_len gr r u hu) (Nat.zero_lt_succ _) Try.underlying69 rfl (by kernel_rfl)) hS ?_
                refine D.two 10 14 (by kernel_rfl) rfl rfl ?_ ?_
                · have he7 := he6.trans hS
                  have c7 := awholes (w := w7) (N := N) (by have := he7.le; omega) (hpA.ext he7) (hrA.ext he7) (by omega)
                  refine L.call rfl en_33 rfl (c7) ?_
                  rintro e w8 ⟨z, rfl, hzc, hzn, hz, he8⟩
                  refine ⟨_, rfl, ?_⟩
                  have hS1 := hS.trans he8
                  refine L.nil ?_
                  refine ⟨fun _ => hS1, ?_⟩
                  have z8 := hS1.le
                  refine D.va 11 rfl (by kernel_rfl) (fun _ _ _ h => h) rfl (fun w' hw => X.move (by conv => lhs; whnf)) hS1 ?_
                  refine D.va 12 rfl (by kernel_rfl) (fun _ _ _ h => h) rfl (fun w' hw => X.extract rfl rfl) hS1 ?_
                  refine D.va 13 rfl (by kernel_rfl) (fun _ _ _ h => h) rfl (fun w' hw => X.extract rfl rfl) hS1 ?_
                  refine D.one 14 (by kernel_rfl) rfl ?_
                  refine L.alloc rfl zr_69 ?_
                  intro b9 w9 hb9 hs9 hk9 he9
                  have hS2 := hS1.trans he9
                  refine L.nil ?_
                  refine ⟨fun _ => hS2, ?_⟩
                  refine D.one 15 (by kernel_rfl) rfl ?_
                  refine L.storeAgg (vs := [_, _, _, _, _]) rfl rfl rfl rfl sz_69 (hk9) rfl ?_
                  intro w10 hk10 hg10 hs10
                  have hS3 := hS2.grw hg10 (by intro g hg; injection hg with hg; omega)
                  refine L.nil ?_
                  refine ⟨fun _ => hS3, ?_⟩
                  refine D.va 16 rfl (by kernel_rfl) (fun _ _ _ h => h) rfl (fun w' hw => X.assign (by conv => lhs; whnf)) hS3 ?_
                  refine D.done (by kernel_rfl) ?_
                  replace hk16 := hk16.ext hS3
                  replace hk26 := hk26.ext hS3
                  refine ⟨(z, b9), At2 (by first | rfl | exact at_int rfl (by omega) | exact at_slice rfl (by omega) | exact at_int rfl (by simp)) (by first | rfl | exact at_int rfl (by omega) | exact at_slice rfl (by omega) | exact at_int rfl (by simp)), (by (iterate 16 refine Agr.lk rfl ?_); exact Agr.rfl'), ?_⟩
                  exact ⟨hk10, hzc, by omega, ((hz.low hS.le).ext he9).put (TCh.put hk9 hg10) (by decide), by omega, hS3⟩
                · refine L.alloc rfl zr_69 ?_
                  intro b9 w9 hb9 hs9 hk9 he9
                  have hS1 := hS.trans he9
                  refine L.nil ?_
                  refine ⟨fun _ => hS1, ?_⟩
                  have zS := hS.le
                  have he7 := he6.trans hS1
                  have z8 := hS1.le
                  have c7 := awholes (w := w9) (N := N) (by have := he7.le; omega) (hpA.ext he7) (hrA.ext he7) (by omega)
                  refine D.one 10 (by kernel_rfl) rfl ?_
                  refine L.call rfl en_33 rfl (c7) ?_
                  rintro e w8 ⟨z, rfl, hzc, hzn, hz, he8⟩
                  refine ⟨_, rfl, ?_⟩
                  have hS2 := hS1.trans he8
                  refine L.nil ?_
                  refine ⟨fun _ => hS2, ?_⟩
                  have hk9 := hk9.ext he8
                  refine D.va 11 rfl (by kernel_rfl) (fun _ _ _ h => h) rfl (fun w' hw => X.move (by conv => lhs; whnf)) hS2 ?_
                  refine D.va 12 rfl (by kernel_rfl) (fun _ _ _ h => h) rfl (fun w' hw => X.extract rfl rfl) hS2 ?_
                  refine D.va 13 rfl (by kernel_rfl) (fun _ _ _ h => h) rfl (fun w' hw => X.extract rfl rfl) hS2 ?_
                  refine D.one 15 (by kernel_rfl) rfl ?_
                  refine L.storeAgg (vs := [_, _, _, _, _]) rfl rfl rfl rfl sz_69 (hk9) rfl ?_
                  intro w10 hk10 hg10 hs10
                  have hS3 := hS2.grw hg10 (by intro g hg; injection hg with hg; omega)
                  refine L.nil ?_
                  refine ⟨fun _ => hS3, ?_⟩
                  refine D.va 16 rfl (by kernel_rfl) (fun _ _ _ h => h) rfl (fun w' hw => X.assign (by conv => lhs; whnf)) hS3 ?_
                  refine D.done (by kernel_rfl) ?_
                  replace hk16 := hk16.ext hS3
                  replace hk26 := hk26.ext hS3
                  refine ⟨(z, b9), At2 (by first | rfl | exact at_int rfl (by omega) | exact at_slice rfl (by omega) | exact at_int rfl (by simp)) (by first | rfl | exact at_int rfl (by omega) | exact at_slice rfl (by omega) | exact at_int rfl (by simp)), (by (iterate 16 refine Agr.lk rfl ?_); exact Agr.rfl'), ?_⟩
                  exact ⟨hk10, hzc, by omega, (hz.low hS1.le).put (TCh.put hk9 hg10) (by decide), by omega, hS3⟩
              · rintro ⟨z, b10⟩ g w7 ⟨hk10, hzc, hzn, hz, hb10, he7⟩
                have he07 := he6.trans he7
                have z7 := he7.le
                have hk47 := hk46.ext he7
                have hk17 := hk16.ext he7
                have hk27 := hk26.ext he7
                have hk37 := hk36.ext he7
                have ho7 := ho6.ext he7
                refine J.seq ?_
                refine J.seq ?_
                refine J.region ?_
                refine L.va rfl (X.move (by conv => lhs; whnf)) ?_
                refine L.va rfl (X.neq rfl rfl) ?_
                refine L.nil ?_
                refine J.ndec rfl (fun hne => ?_) (fun hne => ?_)
                · have hE : eJ x.con y.con = eW p.con r.con := by
                    rw [hp, hr] at hne ⊢
                    exact eJ_i hsh h4 (by omega) (fun j hj => (hv6 j hj).1) hne
                  refine J.seq ?_
                  refine J.region ?_
                  refine L.va rfl (X.build (l := [_, _, _, _]) Evs.nil (bld_run Try.underlying48 (bp_48 Try.underlying48) zr_48 rfl)) ?_
                  refine L.va rfl (X.move (by conv => lhs; whnf)) ?_
                  refine L.storeAgg (vs := [_, _, _, _]) rfl rfl rfl rfl sz_48 (hk37) rfl ?_
                  intro w8 hk8 hg8 hs8
                  have he8 : Ext w w8 := he07.grw hg8 (by intro g hg; injection hg with hg; omega)
                  refine L.va rfl (X.assign (by conv => lhs; whnf)) ?_
                  refine L.nil ?_
                  refine J.ret ?_
                  refine thn_ret <|  inB_ret <|  thn_ret <|  thn_ret <|  inB_ret <|  thn_ret <| ?_
                  refine finCT rfl (run_cell hk8 Try.underlying48 rfl (by kernel_rfl)) ?_
                  exact ⟨ce0, by rw [hE]; rfl, by rw [vJ_no (by rw [hE]; exact hne)]; rfl, ce0_my _ _, ce0_lt _, he8⟩
                · have hE0 : eW p.con r.con = 0 := by omega
                  refine J.skip ?_
                  refine J.region ?_
                  refine L.va rfl (X.fieldAddr rfl Try.underlying48 rfl sz_45 (by decide)) ?_
                  refine L.va rfl (X.load rfl sc_45 (by first | exact Ld.blk hk47 rfl | exact Ld.blk hk10 rfl)) ?_
                  refine L.va rfl (X.loadAgg rfl (range_l hk10) Try.underlying69 rfl (by kernel_rfl)) ?_
                  refine L.bslice1 (l := [_, _, _, _, _]) rfl rfl rfl Try.underlying45 sz_69 zr_69 rfl ?_
                  intro b8 w8 hb8 hs8 hk8 he8
                  have ho8 := ho7.ext he8
                  have hk48 := hk47.ext he8
                  have hk18 := hk17.ext he8
                  have hk28 := hk27.ext he8
                  have hk38 := hk37.ext he8
                  have he08 := he07.trans he8
                  refine L.appendV (q := i + 1) (ys := ((zs ++ [z]).flatMap Wh.vs)) rfl rfl rfl Try.underlying45 el_69 (ho8) ((blk_readsN (sz := 5) (q := 1) (l := z.vs) hk8 hk8.lt rfl)) (by first | rfl | exact strs_ones _ | assumption) (by omega) (by simp) (by unfold maxLen; omega) (by omega) ?_
                  intro A9 c9 w9 ho9 hg9 hb9 hor9
                  have hC9 : TCh 69 w8 w9 := TCh.row ho8 hg9
                  have he9 := he08.grw hg9 (fun g hg => (ho8.lt g hg).1)
                  have hk49 := hC9.blk hk48 (by decide)
                  have hk19 := hC9.blk hk18 (by decide)
                  have hk29 := hC9.blk hk28 (by decide)
                  have hk39 := hC9.blk hk38 (by decide)
                  refine L.va rfl (X.fieldAddr rfl Try.underlying48 rfl sz_45 (by decide)) ?_
                  refine L.store rfl rfl (by conv => lhs; whnf) rfl sz_45 (hk49) (by first | decide | exact Nat.le_of_ble_eq_true rfl) ?_
                  intro w10 hk410 hg10 hs10
                  have hC10 : TCh 48 w9 w10 := TCh.put hk49 hg10
                  have he10 := he9.grw hg10 (by intro g hg; injection hg with hg; omega)
                  have hk110 := hk19.grown hg10 (fun e => by injection e with e; omega)
                  have hk210 := hk29.grown hg10 (fun e => by injection e with e; omega)
                  have hk310 := hk39.grown hg10 (fun e => by injection e with e; omega)
                  have ho10 := hC10.own ho9 (by decide)
                  refine L.nil ?_
                  refine J.region ?_
                  refine L.va rfl (X.add rfl rfl (by omega)) ?_
                  refine L.va rfl (X.move (by conv => lhs; whnf)) ?_
                  refine L.nil ?_
                  refine ⟨(i + 1, A9, c9, zs ++ [z]), At1 (by first | rfl | exact at_int rfl (by omega) | exact at_slice rfl (by omega) | exact at_int rfl (by simp)), (by (iterate 10 refine Agr.lk rfl ?_); refine Agr.lk rfl ?_; refine Agr.hav rfl ?_; (iterate 3 refine Agr.lk rfl ?_); exact Agr.lk rfl (Agr.hav rfl Agr.rfl')), ?_⟩
                  refine ⟨⟨by omega, by rw [List.length_append, hl6]; rfl, fun j hj => ?_, fun u hu => ?_, ho10, hk410, hk110, hk210, hk310, he10, by have := he8.le; have := hg9.size; omega⟩, by show x.ni - (i + 1) < x.ni - i; omega⟩
                  · rcases Nat.lt_or_ge j i with h | h
                    · rw [gd_l (by omega)]
                      exact hv6 j h
                    · rw [gd_r (by omega), show j = i by omega, ← hp, ← hr]
                      exact ⟨hE0, hzc⟩
                  · rcases List.mem_append.1 hu with hu | hu
                    · exact ⟨((((hz6 u hu).1.ext he7).ext he8).put hC9 (by decide)).put hC10 (by decide), (hz6 u hu).2⟩
                    · rw [List.mem_singleton] at hu
                      rw [hu]
                      exact ⟨(((hz.low he6.le).ext he8).put hC9 (by decide)).put hC10 (by decide), hzn⟩
            · have hlt : ¬ (i : Int) < (x.ni : Int) := hlt
              obtain rfl : i = x.ni := by omega
              have hI0 := first_i0 (x := x) (y := y) fun j hj => (hv6 j (by omega)).1
              refine J.exit ?_
              refine J.seq ?_
              refine J.seq ?_
              refine J.region ?_
              refine L.va rfl (X.fieldAddr rfl Try.underlying48 rfl sz_46 (by decide)) ?_
              refine L.va rfl (X.load rfl sc_46 (by first | exact Ld.blk hk16 rfl | exact Ld.blk hk26 rfl)) ?_
              refine L.va rfl (X.len rfl Try.underlying46) ?_
              refine L.va rfl (X.move (by conv => lhs; whnf)) ?_
              refine L.nil ?_
              refine J.block ?_
              refine J.loop (X := Nat × Option Addr × Nat × List Re) [5, 12, 13, 14, 88, 89, 90, 91, 92, 93, 94, 95, 96, 97, 98, 99, 100, 101, 102, 103, 104, 105, 106, 107, 108, 109, 110, 111, 112, 113, 114, 115] (fun (j, B, d, us) => [(88, .int .i64 (j : Int))]) (fun (j, B, d, us) w' => j ≤ x.nr ∧ us.length = j ∧ (∀ k, k < j → eR (x.rs.getD k re0).con (y.rs.getD k re0).con = 0 ∧ (us.getD k re0).con = vR (x.rs.getD k re0).con (y.rs.getD k re0).con) ∧ (∀ z ∈ us, z.My w.heap.size w' ∧ z.n ≤ 300) ∧ w'.ownsRow w.heap.size 72 3 (.slice B j d) j (us.flatMap Re.vs) ∧ (∀ z ∈ zs, z.My w.heap.size w' ∧ z.n ≤ q + 1) ∧ w'.ownsRow w.heap.size 69 5 (.slice A x.ni c) x.ni (zs.flatMap Wh.vs) ∧ Blk w' b4 48 #[.int .u64 (x.k : Int), .int .i64 (x.t + y.t), .slice A x.ni c, .slice B j d] ∧ Blk w' b1 48 x.vs.toArray ∧ Blk w' b2 48 y.vs.toArray ∧ Blk w' b3 48 #[.int .u64 0, .int .i64 0, .slice none 0 0, .slice none 0 0] ∧ Ext w w' ∧ w5.heap.size ≤ w'.heap.size) (fun (j, _) => x.nr - j) ((0, none, 0, [])) (At1 (by first | rfl | exact at_int rfl (by omega) | exact at_slice rfl (by omega) | exact at_int rfl (by simp))) ?_ ?_
              · exact ⟨Nat.zero_le _, rfl, fun j hj => absurd hj (by omega), (fun z hz => by cases hz), own_nil _ _ _ _, hz6, ho6, hk46, hk16, hk26, hk36, he6, z6⟩
              · rintro ⟨j, B, d, us⟩ g w11 ⟨hj, hl11, hv11, hz11, hr11, hzi11, ho11, hk411, hk111, hk211, hk311, he11, z11⟩
                refine J.seq ?_
                refine J.region ?_
                refine L.va rfl (X.lss rfl rfl) ?_
                refine L.nil ?_
                refine J.seq ?_
                refine J.dec rfl (fun hlt2 => ?_) (fun hlt2 => ?_)
                · have hlt2 : (j : Int) < (x.nr : Int) := hlt2
                  obtain ⟨p, hp⟩ : ∃ p, p = x.rs.getD j re0 := ⟨_, rfl⟩
                  obtain ⟨r, hr⟩ : ∃ r, r = y.rs.getD j re0 := ⟨_, rfl⟩
                  have gp := gtR (l := x.rs) (i := j) (by omega)
                  have gr := gtR (l := y.rs) (i := j) (by omega)
                  rw [← hp] at gp
                  rw [← hr] at gr
                  have hAx := hx.r.some_ (by omega)
                  have hAy := hy.r.some_ (by omega)
                  have zo := (Lx.lr p (by rw [hp]; exact memD (by omega)))
                  have zr := (Ly.lr r (by rw [hr]; exact memD (by omega)))
                  have hpA := hx.hr p (by rw [hp]; exact memD (by omega))
                  have hrA := hy.hr r (by rw [hr]; exact memD (by omega))
                  refine J.skip ?_
                  refine J.seq ?_
                  refine J.block ?_
                  refine J.seq ?_
                  refine J.region ?_
                  refine L.va rfl (X.move (by conv => lhs; whnf)) ?_
                  refine L.va rfl (X.assign (by conv => lhs; whnf)) ?_
                  refine L.nil ?_
                  refine J.cut (X := Re × Nat) [13, 14, 91, 92, 93, 94, 95, 96, 97, 98, 99, 100, 101, 102, 103, 104] (fun (z, b10) => [(13, .pointer (some ⟨b10, 0, none⟩)), (14, .int .i64 (eR p.con r.con))]) (fun (z, b10) w' => Blk w' b10 72 z.vs.toArray ∧ z.con = vR p.con r.con ∧ z.n ≤ 300 ∧ z.My w11.heap.size w' ∧ w11.heap.size ≤ b10 ∧ Ext w11 w') ?_ ?_
                  · skip
                    refine J.draw (ℓ := 1000000) (S := Ext w11) mixed (fun w7 hS hS_h => ?_)
                    refine D.va 0 rfl (by kernel_rfl) (fun _ _ _ h => h) rfl (fun w' hw => X.fieldAddr rfl Try.underlying48 rfl sz_46 (by decide)) hS ?_
                    refine D.va 1 rfl (by kernel_rfl) (fun _ _ _ h => h) rfl (fun w' hw => X.load rfl sc_46 (by first | exact Ld.blk (hk111.ext hw) rfl | exact Ld.blk (hk211.ext hw) rfl | exact hAx | exact hAy)) hS ?_
                    refine D.va 2 rfl (by kernel_rfl) (fun _ _ _ h => h) rfl (fun w' hw => X.move (by conv => lhs; whnf)) hS ?_
                    refine D.va 3 rfl (by kernel_rfl) (fun _ _ _ h => h) rfl (fun w' hw => (by first | exact X.indexAddrn rfl rfl Try.underlying46 sz_72 (by first | exact Option.some_ne_none _ | exact hAx | exact hAy) (by omega) | exact X.indexAddr rfl rfl Try.underlying46 sz_72 (by first | exact Option.some_ne_none _ | exact hAx | exact hAy) (by omega))) hS ?_
                    refine D.va 4 rfl (by kernel_rfl) (fun _ _ _ h => h) rfl (fun w' hw => X.loadRow (cs := p.vs) rfl (hx.r.ext (he11.trans hw)) (fun r u hu => flat_row re_len gp r u hu) (Nat.zero_lt_succ _) Try.underlying72 rfl (by kernel_rfl)) hS ?_
                    refine D.va 5 rfl (by kernel_rfl) (fun _ _ _ h => h) rfl (fun w' hw => X.fieldAddr rfl Try.underlying48 rfl sz_46 (by decide)) hS ?_
                    refine D.va 6 rfl (by kernel_rfl) (fun _ _ _ h => h) rfl (fun w' hw => X.load rfl sc_46 (by first | exact Ld.blk (hk111.ext hw) rfl | exact Ld.blk (hk211.ext hw) rfl | exact hAx | exact hAy)) hS ?_
                    refine D.va 7 rfl (by kernel_rfl) (fun _ _ _ h => h) rfl (fun w' hw => X.move (by conv => lhs; whnf)) hS ?_
                    refine D.va 8 rfl (by kernel_rfl) (fun _ _ _ h => h) rfl (fun w' hw => (by first | exact X.indexAddrn rfl rfl Try.underlying46 sz_72 (by first | exact Option.some_ne_none _ | exact hAx | exact hAy) (by omega) | exact X.indexAddr rfl rfl Try.underlying46 sz_72 (by first | exact Option.some_ne_none _ | exact hAx | exact hAy) (by omega))) hS ?_
                    refine D.va 9 rfl (by kernel_rfl) (fun _ _ _ h => h) rfl (fun w' hw => X.loadRow (cs := r.vs) rfl (hy.r.ext (he11.trans hw)) (fun r u hu => flat_row re_len gr r u hu) (Nat.zero_lt_succ _) Try.underlying72 rfl (by kernel_rfl)) hS ?_
                    refine D.two 10 14 (by kernel_rfl) rfl rfl ?_ ?_
                    · have he7 := he11.trans hS
                      have c7 := areals (w := w7) (N := N) (by have := he7.le; omega) (hpA.ext he7) (hrA.ext he7) (by omega)
                      refine L.call rfl en_34 rfl (c7) ?_
                      rintro e w8 ⟨z, rfl, hzc, hzn, hz, he8⟩
                      refine ⟨_, rfl, ?_⟩
                      have hS1 := hS.trans he8
                      refine L.nil ?_
                      refine ⟨fun _ => hS1, ?_⟩
                      have z8 := hS1.le
                      refine D.va 11 rfl (by kernel_rfl) (fun _ _ _ h => h) rfl (fun w' hw => X.move (by conv => lhs; whnf)) hS1 ?_
                      refine D.va 12 rfl (by kernel_rfl) (fun _ _ _ h => h) rfl (fun w' hw => X.extract rfl rfl) hS1 ?_
                      refine D.va 13 rfl (by kernel_rfl) (fun _ _ _ h => h) rfl (fun w' hw => X.extract rfl rfl) hS1 ?_
                      refine D.one 14 (by kernel_rfl) rfl ?_
                      refine L.alloc rfl zr_72 ?_
                      intro b9 w9 hb9 hs9 hk9 he9
                      have hS2 := hS1.trans he9
                      refine L.nil ?_
                      refine ⟨fun _ => hS2, ?_⟩
                      refine D.one 15 (by kernel_rfl) rfl ?_
                      refine L.storeAgg (vs := [_, _, _]) rfl rfl rfl rfl sz_72 (hk9) rfl ?_
                      intro w10 hk10 hg10 hs10
                      have hS3 := hS2.grw hg10 (by intro g hg; injection hg with hg; omega)
                      refine L.nil ?_
                      refine ⟨fun _ => hS3, ?_⟩
                      refine D.va 16 rfl (by kernel_rfl) (fun _ _ _ h => h) rfl (fun w' hw => X.assign (by conv => lhs; whnf)) hS3 ?_
                      refine D.done (by kernel_rfl) ?_
                      replace hk111 := hk111.ext hS3
                      replace hk211 := hk211.ext hS3
                      refine ⟨(z, b9), At2 (by first | rfl | exact at_int rfl (by omega) | exact at_slice rfl (by omega) | exact at_int rfl (by simp)) (by first | rfl | exact at_int rfl (by omega) | exact at_slice rfl (by omega) | exact at_int rfl (by simp)), (by (iterate 16 refine Agr.lk rfl ?_); exact Agr.rfl'), ?_⟩
                      exact ⟨hk10, hzc, by omega, ((hz.low hS.le).ext he9).put (TCh.put hk9 hg10) (by decide), by omega, hS3⟩
                    · refine L.alloc rfl zr_72 ?_
                      intro b9 w9 hb9 hs9 hk9 he9
                      have hS1 := hS.trans he9
                      refine L.nil ?_
                      refine ⟨fun _ => hS1, ?_⟩
                      have zS := hS.le
                      have he7 := he11.trans hS1
                      have z8 := hS1.le
                      have c7 := areals (w := w9) (N := N) (by have := he7.le; omega) (hpA.ext he7) (hrA.ext he7) (by omega)
                      refine D.one 10 (by kernel_rfl) rfl ?_
                      refine L.call rfl en_34 rfl (c7) ?_
                      rintro e w8 ⟨z, rfl, hzc, hzn, hz, he8⟩
                      refine ⟨_, rfl, ?_⟩
                      have hS2 := hS1.trans he8
                      refine L.nil ?_
                      refine ⟨fun _ => hS2, ?_⟩
                      have hk9 := hk9.ext he8
                      refine D.va 11 rfl (by kernel_rfl) (fun _ _ _ h => h) rfl (fun w' hw => X.move (by conv => lhs; whnf)) hS2 ?_
                      refine D.va 12 rfl (by kernel_rfl) (fun _ _ _ h => h) rfl (fun w' hw => X.extract rfl rfl) hS2 ?_
                      refine D.va 13 rfl (by kernel_rfl) (fun _ _ _ h => h) rfl (fun w' hw => X.extract rfl rfl) hS2 ?_
                      refine D.one 15 (by kernel_rfl) rfl ?_
                      refine L.storeAgg (vs := [_, _, _]) rfl rfl rfl rfl sz_72 (hk9) rfl ?_
                      intro w10 hk10 hg10 hs10
                      have hS3 := hS2.grw hg10 (by intro g hg; injection hg with hg; omega)
                      refine L.nil ?_
                      refine ⟨fun _ => hS3, ?_⟩
                      refine D.va 16 rfl (by kernel_rfl) (fun _ _ _ h => h) rfl (fun w' hw => X.assign (by conv => lhs; whnf)) hS3 ?_
                      refine D.done (by kernel_rfl) ?_
                      replace hk111 := hk111.ext hS3
                      replace hk211 := hk211.ext hS3
                      refine ⟨(z, b9), At2 (by first | rfl | exact at_int rfl (by omega) | exact at_slice rfl (by omega) | exact at_int rfl (by simp)) (by first | rfl | exact at_int rfl (by omega) | exact at_slice rfl (by omega) | exact at_int rfl (by simp)), (by (iterate 16 refine Agr.lk rfl ?_); exact Agr.rfl'), ?_⟩
                      exact ⟨hk10, hzc, by omega, (hz.low hS1.le).put (TCh.put hk9 hg10) (by decide), by omega, hS3⟩
                  · rintro ⟨z, b10⟩ g w7 ⟨hk10, hzc, hzn, hz, hb10, he7⟩
                    have he07 := he11.trans he7
                    have z7 := he7.le
                    have hk47 := hk411.ext he7
                    have hk17 := hk111.ext he7
                    have hk27 := hk211.ext he7
                    have hk37 := hk311.ext he7
                    have ho7 := ho11.ext he7
                    have hr7 := hr11.ext he7
                    refine J.seq ?_
                    refine J.seq ?_
                    refine J.region ?_
                    refine L.va rfl (X.move (by conv => lhs; whnf)) ?_
                    refine L.va rfl (X.neq rfl rfl) ?_
                    refine L.nil ?_
                    refine J.ndec rfl (fun hne => ?_) (fun hne => ?_)
                    · have hE : eJ x.con y.con = eR p.con r.con := by
                        rw [hp, hr] at hne ⊢
                        exact eJ_r hsh h4 hI0 (by omega) (fun j hj => (hv11 j hj).1) hne
                      refine J.seq ?_
                      refine J.region ?_
                      refine L.va rfl (X.build (l := [_, _, _, _]) Evs.nil (bld_run Try.underlying48 (bp_48 Try.underlying48) zr_48 rfl)) ?_
                      refine L.va rfl (X.move (by conv => lhs; whnf)) ?_
                      refine L.storeAgg (vs := [_, _, _, _]) rfl rfl rfl rfl sz_48 (hk37) rfl ?_
                      intro w8 hk8 hg8 hs8
                      have he8 : Ext w w8 := he07.grw hg8 (by intro g hg; injection hg with hg; omega)
                      refine L.va rfl (X.assign (by conv => lhs; whnf)) ?_
                      refine L.nil ?_
                      refine J.ret ?_
                      refine thn_ret <|  inB_ret <|  thn_ret <|  thn_ret <|  inB_ret <|  thn_ret <| ?_
                      refine finCT rfl (run_cell hk8 Try.underlying48 rfl (by kernel_rfl)) ?_
                      exact ⟨ce0, by rw [hE]; rfl, by rw [vJ_no (by rw [hE]; exact hne)]; rfl, ce0_my _ _, ce0_lt _, he8⟩
                    · have hE0 : eR p.con r.con = 0 := by simpa using hne
                      refine J.skip ?_
                      refine J.region ?_
                      refine L.va rfl (X.fieldAddr rfl Try.underlying48 rfl sz_46 (by decide)) ?_
                      refine L.va rfl (X.load rfl sc_46 (by first | exact Ld.blk hk47 rfl | exact Ld.blk hk10 rfl)) ?_
                      refine L.va rfl (X.loadAgg rfl (range_l hk10) Try.underlying72 rfl (by kernel_rfl)) ?_
                      refine L.bslice1 (l := [_, _, _]) rfl rfl rfl Try.underlying46 sz_72 zr_72 rfl ?_
                      intro b8 w8 hb8 hs8 hk8 he8
                      have ho8 := ho7.ext he8
                      have hr8 := hr7.ext he8
                      have hk48 := hk47.ext he8
                      have hk18 := hk17.ext he8
                      have hk28 := hk27.ext he8
                      have hk38 := hk37.ext he8
                      have he08 := he07.trans he8
                      refine L.appendV (q := j + 1) (ys := ((us ++ [z]).flatMap Re.vs)) rfl rfl rfl Try.underlying46 el_72 (hr8) ((blk_readsN (sz := 3) (q := 1) (l := z.vs) hk8 hk8.lt rfl)) (by first | rfl | exact strs_ones _ | assumption) (by omega) (by simp) (by unfold maxLen; omega) (by omega) ?_
                      intro A9 c9 w9 ho9 hg9 hb9 hor9
                      have hC9 : TCh 72 w8 w9 := TCh.row hr8 hg9
                      have he9 := he08.grw hg9 (fun g hg => (hr8.lt g hg).1)
                      have hk49 := hC9.blk hk48 (by decide)
                      have hk19 := hC9.blk hk18 (by decide)
                      have hk29 := hC9.blk hk28 (by decide)
                      have hk39 := hC9.blk hk38 (by decide)
                      have hw9 := hC9.own ho8 (by decide)
                      refine L.va rfl (X.fieldAddr rfl Try.underlying48 rfl sz_46 (by decide)) ?_
                      refine L.store rfl rfl (by conv => lhs; whnf) rfl sz_46 (hk49) (by first | decide | exact Nat.le_of_ble_eq_true rfl) ?_
                      intro w10 hk410 hg10 hs10
                      have hC10 : TCh 48 w9 w10 := TCh.put hk49 hg10
                      have he10 := he9.grw hg10 (by intro g hg; injection hg with hg; omega)
                      have hk110 := hk19.grown hg10 (fun e => by injection e with e; omega)
                      have hk210 := hk29.grown hg10 (fun e => by injection e with e; omega)
                      have hk310 := hk39.grown hg10 (fun e => by injection e with e; omega)
                      have hr10 := hC10.own ho9 (by decide)
                      have hw10 := hC10.own hw9 (by decide)
                      refine L.nil ?_
                      refine J.region ?_
                      refine L.va rfl (X.add rfl rfl (by omega)) ?_
                      refine L.va rfl (X.move (by conv => lhs; whnf)) ?_
                      refine L.nil ?_
                      refine ⟨(j + 1, A9, c9, us ++ [z]), At1 (by first | rfl | exact at_int rfl (by omega) | exact at_slice rfl (by omega) | exact at_int rfl (by simp)), (by (iterate 10 refine Agr.lk rfl ?_); refine Agr.lk rfl ?_; refine Agr.hav rfl ?_; (iterate 3 refine Agr.lk rfl ?_); exact Agr.lk rfl (Agr.hav rfl Agr.rfl')), ?_⟩
                      refine ⟨⟨by omega, by rw [List.length_append, hl11]; rfl, fun k hk => ?_, fun u hu => ?_, hr10, fun u hu => ⟨((((hzi11 u hu).1.ext he7).ext he8).put hC9 (by decide)).put hC10 (by decide), (hzi11 u hu).2⟩, hw10, hk410, hk110, hk210, hk310, he10, by have := he8.le; have := hg9.size; omega⟩, by show x.nr - (j + 1) < x.nr - j; omega⟩
                      · rcases Nat.lt_or_ge k j with h | h
                        · rw [gd_l (by omega)]
                          exact hv11 k h
                        · rw [gd_r (by omega), show k = j by omega, ← hp, ← hr]
                          exact ⟨hE0, hzc⟩
                      · rcases List.mem_append.1 hu with hu | hu
                        · exact ⟨((((hz11 u hu).1.ext he7).ext he8).put hC9 (by decide)).put hC10 (by decide), (hz11 u hu).2⟩
                        · rw [List.mem_singleton] at hu
                          rw [hu]
                          exact ⟨(((hz.low he11.le).ext he8).put hC9 (by decide)).put hC10 (by decide), hzn⟩
                · have hlt2 : ¬ (j : Int) < (x.nr : Int) := hlt2
                  obtain rfl : j = x.nr := by omega
                  have hE := eJ_0 hsh h4 hI0 fun k hk => (hv11 k (by omega)).1
                  have hV := vJ_0 hE (zs := zs) (us := us) (by omega) (fun k hk => (hv6 k (by omega)).2) (by omega) (fun k hk => (hv11 k (by omega)).2)
                  refine J.exit ?_
                  refine J.seq ?_
                  refine J.region ?_
                  refine L.va rfl (X.loadAgg rfl (range_l hk411) Try.underlying48 rfl (by kernel_rfl)) ?_
                  refine L.storeAgg (vs := [_, _, _, _]) rfl rfl rfl rfl sz_48 (hk311) rfl ?_
                  intro w8 hk8 hg8 hs8
                  have hC8 : TCh 48 w11 w8 := TCh.put hk311 hg8
                  have he8 : Ext w w8 := he11.grw hg8 (by intro g hg; injection hg with hg; omega)
                  refine L.va rfl (X.assign (by conv => lhs; whnf)) ?_
                  refine L.nil ?_
                  refine J.ret ?_
                  refine finCT rfl (run_cell hk8 Try.underlying48 rfl (by kernel_rfl)) ?_
                  refine ⟨⟨x.k, x.t + y.t, A, x.ni, c, zs, B, x.nr, d, us⟩, by rw [hE]; rfl, hV, ⟨kx, h4, hC8.own ho11 (by decide), fun u hu => (hzi11 u hu).1.put hC8 (by decide), hl6, hC8.own hr11 (by decide), fun u hu => (hz11 u hu).1.put hC8 (by decide), hl11⟩, ⟨L1, L2, fun u hu => (hzi11 u hu).2, fun u hu => (hz11 u hu).2⟩, he8⟩
        · rw [if_neg h4] at c1
          have hE := eJ_over hsh h4
          refine L.call rfl en_32 rfl (c1) ?_
          rintro e _ ⟨rfl, rfl⟩
          refine ⟨_, rfl, ?_⟩
          refine L.va rfl (X.move (by conv => lhs; whnf)) ?_
          refine L.va rfl (X.extract rfl rfl) ?_
          refine L.va rfl (X.extract rfl rfl) ?_
          refine L.va rfl (X.assign (by conv => lhs; whnf)) ?_
          refine L.va rfl (X.assign (by conv => lhs; whnf)) ?_
          refine L.nil ?_
          refine J.seq ?_
          refine J.seq ?_
          refine J.region ?_
          refine L.va rfl (X.move (by conv => lhs; whnf)) ?_
          refine L.va rfl (X.not rfl) ?_
          refine L.nil ?_
          refine J.iteT rfl ?_
          refine J.seq ?_
          refine J.region ?_
          refine L.va rfl (X.build (l := [_, _, _, _]) Evs.nil (bld_run Try.underlying48 (bp_48 Try.underlying48) zr_48 rfl)) ?_
          refine L.storeAgg (vs := [_, _, _, _]) rfl rfl rfl rfl sz_48 (hk3) rfl ?_
          intro w4 hk4 hg4 hs4
          have he4 : Ext w w4 := he03.grw hg4 (by intro g hg; injection hg with hg; omega)
          refine L.va rfl (X.assign (by conv => lhs; whnf)) ?_
          refine L.nil ?_
          refine J.ret ?_
          refine thn_ret <| ?_
          refine finCT rfl (run_cell hk4 Try.underlying48 rfl (by kernel_rfl)) ?_
          exact ⟨ce0, by rw [hE]; rfl, by rw [vJ_no (by rw [hE]; decide)]; rfl, ce0_my _ _, ce0_lt _, he4⟩
end Go.Proofs.Ytnndkepnabddgaa
namespace Go.Proofs.Ytnndkepnabddgaa
set_option maxRecDepth 100000
open Go.RowKit H
set_option linter.unusedVariables false
structure Ce.OwnQ (x : Ce) (q : Nat) (N : Nat) (w : World) : Prop where
  k : x.k < 18446744073709551616
  t : In64 x.t
  i : w.ownsRow N 69 5 (.slice x.Ai x.ni x.ci) x.ni (x.is.flatMap Wh.vs)
  hi : ∀ y ∈ x.is, y.Own N w
  li : x.is.length = x.ni
  r : w.ownsRow N 72 3 (.slice x.Ar x.nr x.cr) x.nr (x.rs.flatMap Re.vs)
  hr : ∀ y ∈ x.rs, y.Own N w
  lr : x.rs.length = x.nr
  L : x.LtQ q
section
variable {x : Ce} {q N : Nat} {w w' : World}
theorem Ce.OwnQ.ext (h : x.OwnQ q N w) (he : Ext w w') : x.OwnQ q N w' := ⟨h.k, h.t, h.i.ext he, fun y hy => (h.hi y hy).ext he, h.li, h.r.ext he, fun y hy => (h.hr y hy).ext he, h.lr, h.L⟩
theorem Ce.OwnQ.put (h : x.OwnQ q N w) {t : Nat} (hb : Below N w w') (hC : TCh t w w') (hne : 96 ≠ t ∧ 5 ≠ t ∧ 69 ≠ t ∧ 72 ≠ t) : x.OwnQ q N w' := ⟨h.k, h.t, hC.own h.i hne.2.2.1, fun y hy => (h.hi y hy).put hb hC hne.1, h.li, hC.own h.r hne.2.2.2, fun y hy => (h.hr y hy).put hb hC hne.2.1, h.lr, h.L⟩
theorem Ce.OwnQ.at (h : x.OwnQ q N w) (hN : N ≤ w.heap.size) : x.At w.heap.size w := ⟨h.k, h.t, Reads.of_own h.i, fun y hy => (h.hi y hy).at hN, h.li, by have := h.L.i; unfold maxLen; omega, Reads.of_own h.r, fun y hy => (h.hr y hy).at hN, h.lr, by have := h.L.r; unfold maxLen; omega⟩
end
end Go.Proofs.Ytnndkepnabddgaa
namespace Go.Proofs.Ytnndkepnabddgaa
set_option maxRecDepth 100000
open Go.RowKit H
set_option linter.unusedVariables false
theorem Ce.My.ownQ {x : Ce} {q N : Nat} {w : World} (h : x.My N w) (L : x.LtQ q) : x.OwnQ q N w := ⟨h.k, h.t, h.i, fun y hy => ⟨.inr (h.hi y hy).r, (h.hi y hy).m, (h.hi y hy).o, (h.hi y hy).cp⟩, h.li, h.r, fun y hy => ⟨.inr (h.hr y hy).r, (h.hr y hy).m, (h.hr y hy).o⟩, h.lr, L⟩
theorem Ce.LtQ.more {x : Ce} {q r : Nat} (h : x.LtQ q) (hr : q ≤ r) : x.LtQ r := ⟨h.i, h.r, fun y hy => Nat.le_trans (h.li y hy) hr, h.lr⟩
theorem Ce.OwnQ.wide {x : Ce} {q r N : Nat} {w : World} (h : x.OwnQ q N w) (hr : q ≤ r) : x.OwnQ r N w := ⟨h.k, h.t, h.i, h.hi, h.li, h.r, h.hr, h.lr, h.L.more hr⟩
theorem town (x : Ce) {q : Nat} (hq : q ≤ 4000) {N : Nat} (w : World) (hN : N ≤ w.heap.size) (hx : x.At N w) (hL : x.LtQ q) : Calls Try.prog 18 #[x.val] w fun e w' => ∃ y : Ce, e = .returned y.val ∧ y.con = x.con ∧ y.OwnQ q N w' ∧ Ext w w' := by
  obtain ⟨k, t, Ai, ni, ci, is, Ar, nr, cr, rs⟩ := x
  have li : is.length = ni := hx.li
  have lr : rs.length = nr := hx.lr
  have Li : ni ≤ 10 := hL.i
  have Lr : nr ≤ 10 := hL.r
  have hri : Reads w w.heap.size 5 Ai ni (is.flatMap Wh.vs) := hx.i.more hN
  have hrr : Reads w w.heap.size 3 Ar nr (rs.flatMap Re.vs) := hx.r.more hN
  refine enter Try.func18 rfl (by kernel_rfl) ?_
  refine J.seq ?_
  refine J.region ?_
  refine L.boxA (l := [_, _, _, _]) rfl rfl ?_
  intro b1 w1 hb1 hs1 hk1 he1
  have hk1 : Blk w1 b1 48 (Ce.mk k t Ai ni ci is Ar nr cr rs).vs.toArray := hk1
  refine L.alloc rfl zr_48 ?_
  intro b2 w2 hb2 hs2 hk2 he2
  have he02 := he1.trans he2
  have hk1 := hk1.ext he2
  have z2 := he02.le
  refine L.nil ?_
  refine J.seq ?_
  refine J.region ?_
  refine L.va rfl (X.fieldAddr rfl Try.underlying48 rfl sz_45 (by decide)) ?_
  refine L.va rfl (X.load rfl sc_45 (by first | exact Ld.blk hk1 rfl)) ?_
  have hones : ((is.flatMap Wh.vs).all (·.oneCell')) = true := by
    rw [List.all_eq_true]
    intro v hv
    obtain ⟨x, _, hx⟩ := List.mem_flatMap.1 hv
    simp only [Wh.vs, List.mem_cons, List.not_mem_nil, or_false] at hx
    rcases hx with rfl | rfl | rfl | rfl | rfl <;> rfl
  have hni : (Ce.mk k t Ai ni ci is Ar nr cr rs).ni = ni := rfl
  have ho02 : w2.ownsRow w2.heap.size 69 5 (.slice none 0 0) 0 (([] : List Wh).flatMap Wh.vs) := own_nil _ _ _ _
  refine L.appendV (q := ni) (ys := is.flatMap Wh.vs) rfl rfl rfl Try.underlying45 el_69 (ho02) ((hri.ext he02)) (by first | rfl | exact strs_ones _ | assumption) (by omega) (by simp) (by unfold maxLen; omega) (by omega) ?_
  intro A3 c3 w3 ho3 hg3 he3 hor3
  have he3 : Ext w2 w3 := he3
  have z3 := he3.le
  have hk1 := hk1.ext he3
  have hk2 := hk2.ext he3
  refine L.va rfl (X.fieldAddr rfl Try.underlying48 rfl sz_45 (by decide)) ?_
  refine L.store rfl rfl (by conv => lhs; whnf) rfl sz_45 (hk1) (by first | decide | exact Nat.le_of_ble_eq_true rfl) ?_
  intro w4 hk4 hg4 hs4
  have hk4 : Blk w4 b1 48 (Ce.mk k t A3 ni c3 is Ar nr cr rs).vs.toArray := hk4
  have ho4 := own_lowB (ho3.kept hg4 (.inr (own_blk_ne ho3 hk1 (by decide)))) z2
  have hk2 := hk2.grown hg4 (fun e => by injection e with e; omega)
  have he04 : Ext w w4 := (he02.trans he3).grw hg4 (by intro g hg; injection hg with hg; omega)
  have z4 := he04.le
  refine L.nil ?_
  refine J.seq ?_
  refine J.seq ?_
  refine J.region ?_
  refine L.va rfl (X.fieldAddr rfl Try.underlying48 rfl sz_45 (by decide)) ?_
  refine L.va rfl (X.load rfl sc_45 (by first | exact Ld.blk hk4 rfl)) ?_
  refine L.va rfl (X.len rfl Try.underlying45) ?_
  refine L.va rfl (X.move (by conv => lhs; whnf)) ?_
  refine L.nil ?_
  refine J.block ?_
  refine J.loop (X := Nat × List Wh) [3, 12, 13, 14, 15, 16, 17, 18, 19, 20, 21, 22, 23, 24, 25, 26, 27] (fun (i, js) => [(12, .int .i64 (i : Int))]) (fun (i, js) w' => i ≤ ni ∧ js.length = ni ∧ js.map Wh.con = is.map Wh.con ∧ (∀ y ∈ js, y.Own N w' ∧ y.n ≤ q) ∧ w'.ownsRow w.heap.size 69 5 (.slice A3 ni c3) ni (js.flatMap Wh.vs) ∧ Blk w' b1 48 (Ce.mk k t A3 ni c3 is Ar nr cr rs).vs.toArray ∧ Blk w' b2 48 #[.int .u64 0, .int .i64 0, .slice none 0 0, .slice none 0 0] ∧ Ext w w' ∧ w.heap.size ≤ w'.heap.size) (fun (i, _) => ni - i) ((0, is)) (At1 (by first | rfl | exact at_int rfl (by omega) | exact at_slice rfl (by omega) | exact at_int rfl (by simp))) ?_ ?_
  · refine ⟨Nat.zero_le _, li, rfl, fun y hy => ⟨⟨.inl ?_, (hx.hi y hy).m, (hx.hi y hy).o, (hx.hi y hy).cp⟩, hL.li y hy⟩, ho4, hk4, hk2, he04, by omega⟩
    exact (hx.hi y hy).r.ext he04
  · rintro ⟨i, js⟩ g w5 ⟨hi, hl5, hc5, hj5, ho5, hk5, hq5, he5, z5⟩
    refine J.seq ?_
    refine J.region ?_
    refine L.va rfl (X.lss rfl rfl) ?_
    refine L.nil ?_
    refine J.seq ?_
    refine J.dec rfl (fun hlt => ?_) (fun hlt => ?_)
    · have hlt : (i : Int) < (ni : Int) := hlt
      have hin : i < js.length := by omega
      obtain ⟨x, hx5⟩ : ∃ x, x = js.getD i wh0 := ⟨_, rfl⟩
      have gx := gtW (l := js) (i := i) hin
      have mx := memD (l := js) (i := i) (d := wh0) hin
      rw [← hx5] at gx mx
      have xO := (hj5 x mx).1
      have xn := (hj5 x mx).2
      have hA := own_ne ho5 (by omega)
      refine J.skip ?_
      refine J.seq ?_
      refine J.block ?_
      refine J.seq ?_
      refine J.region ?_
      refine L.va rfl (X.move (by conv => lhs; whnf)) ?_
      refine L.va rfl (X.assign (by conv => lhs; whnf)) ?_
      refine L.nil ?_
      refine J.draw (ℓ := 12) (S := Ext w5) mixed (fun w6 hS hS_h => ?_)
      refine D.va 0 rfl (by kernel_rfl) (fun _ _ _ h => h) rfl (fun w' hw => X.fieldAddr rfl Try.underlying48 rfl sz_45 (by decide)) hS ?_
      refine D.va 1 rfl (by kernel_rfl) (fun _ _ _ h => h) rfl (fun w' hw => X.load rfl sc_45 (by first | exact Ld.blk (hk5.ext hw) rfl | exact hA | exact Ld.flat2 wh_len (Reads.of_own (ho5.ext hw)) gx (r := 2) rfl)) hS ?_
      refine D.va 2 rfl (by kernel_rfl) (fun _ _ _ h => h) rfl (fun w' hw => X.move (by conv => lhs; whnf)) hS ?_
      refine D.va 3 rfl (by kernel_rfl) (fun _ _ _ h => h) rfl (fun w' hw => X.fieldAddr rfl Try.underlying48 rfl sz_45 (by decide)) hS ?_
      refine D.va 4 rfl (by kernel_rfl) (fun _ _ _ h => h) rfl (fun w' hw => X.load rfl sc_45 (by first | exact Ld.blk (hk5.ext hw) rfl | exact hA | exact Ld.flat2 wh_len (Reads.of_own (ho5.ext hw)) gx (r := 2) rfl)) hS ?_
      refine D.va 5 rfl (by kernel_rfl) (fun _ _ _ h => h) rfl (fun w' hw => X.move (by conv => lhs; whnf)) hS ?_
      refine D.va 6 rfl (by kernel_rfl) (fun _ _ _ h => h) rfl (fun w' hw => (by first | exact X.indexAddrn rfl rfl Try.underlying45 sz_69 (by first | exact Option.some_ne_none _ | exact hA) (by omega) | exact X.indexAddr rfl rfl Try.underlying45 sz_69 (by first | exact Option.some_ne_none _ | exact hA) (by omega))) hS ?_
      refine D.va 7 rfl (by kernel_rfl) (fun _ _ _ h => h) rfl (fun w' hw => X.fieldP rfl Try.underlying69 rfl sz_67 (by decide) (by first | exact Option.some_ne_none _ | exact hA)) hS ?_
      refine D.va 8 rfl (by kernel_rfl) (fun _ _ _ h => h) rfl (fun w' hw => X.load rfl sc_67 (by first | exact Ld.blk (hk5.ext hw) rfl | exact hA | exact Ld.flat2 wh_len (Reads.of_own (ho5.ext hw)) gx (r := 2) rfl)) hS ?_
      have zS := hS.le
      have ho06 : w6.ownsRow w6.heap.size 96 1 (.slice none 0 0) 0 (nums .u32 []) := own_nil _ _ _ _
      refine D.one 9 (by kernel_rfl) rfl ?_
      refine L.appendQ (q := x.n) (ys := x.q) rfl rfl rfl Try.underlying67 el_96 (ho06) (((xO.ext hS).at (by omega)).r) (by omega) (by simp) (by unfold maxLen; omega) (by omega) ?_
      intro A7 c7 w7 ho7 hg7 he7 hor7
      have hS1 := Ext.trans hS he7
      refine L.nil ?_
      refine ⟨fun _ => hS1, ?_⟩
      have he7 : Ext w6 w7 := he7
      have z7 := he7.le
      have ho57 := (ho5.ext hS).ext he7
      refine D.va 10 rfl (by kernel_rfl) (fun _ _ _ h => h) rfl (fun w' hw => (by first | exact X.indexAddrn rfl rfl Try.underlying45 sz_69 (by first | exact Option.some_ne_none _ | exact hA) (by omega) | exact X.indexAddr rfl rfl Try.underlying45 sz_69 (by first | exact Option.some_ne_none _ | exact hA) (by omega))) hS1 ?_
      refine D.va 11 rfl (by kernel_rfl) (fun _ _ _ h => h) rfl (fun w' hw => X.fieldP rfl Try.underlying69 rfl sz_67 (by decide) (by first | exact Option.some_ne_none _ | exact hA)) hS1 ?_
      refine D.one 12 (by kernel_rfl) rfl ?_
      refine L.storeO rfl rfl (by conv => lhs; whnf) rfl sz_67 (ho57) (by first | omega | (simp; omega)) ?_
      intro w8 ho8 hg8 hb8 hs8
      refine L.nil ?_
      refine ⟨fun h => absurd rfl h, ?_⟩
      have hC8 : TCh 69 w7 w8 := TCh.row ho57 hg8
      obtain ⟨y, hy⟩ : ∃ y : Wh, y = ⟨x.s, x.a, A7, x.n, c7, x.q, x.lo, x.hi⟩ := ⟨_, rfl⟩
      have hset := flat_set (f := Wh.vs) (r := 2) (v := .slice A7 x.n c7) (y := y) wh_len js i hin (by omega) (by
        have e : js[i]'hin = x := by
          have := gx
          rw [List.getElem?_eq_getElem hin] at this
          injection this
        rw [e, hy]
        rfl)
      have ho8 : w8.ownsRow w.heap.size 69 5 (.slice A3 ni c3) ni ((js.set i y).flatMap Wh.vs) := by
        rw [← hset]
        exact ho8
      have hcy : y.con = (js.getD i wh0).con := by rw [hy, ← hx5]
      have hN7 : w.heap.size ≤ w7.heap.size := by omega
      have yO : y.Own N w8 := by
        rw [hy]
        exact Wh.Own.put ⟨.inr (own_lowB ho7 (by omega)), xO.m, ⟨xO.o.s, xO.o.a, xO.o.q, xO.o.lo, xO.o.hi⟩, own_le' ho7⟩ (Below.mono hb8 hN) hC8 (by decide)
      have hk8 := hC8.blk ((hk5.ext hS).ext he7) (by decide)
      have hq8 := ((hq5.ext hS).ext he7)
      have e8 : Ext w w8 := ((he5.trans hS).trans he7).grw hg8 (fun g hg => by have := (ho57.lt g hg).1; omega)
      have hq8' := hC8.blk hq8 (by decide)
      refine D.done (by kernel_rfl) ?_
      replace hk5 := hk5.ext hS1
      refine J.region ?_
      refine L.va rfl (X.add rfl rfl (by omega)) ?_
      refine L.va rfl (X.move (by conv => lhs; whnf)) ?_
      refine L.nil ?_
      refine ⟨(i + 1, js.set i y), At1 (by first | rfl | exact at_int rfl (by omega) | exact at_slice rfl (by omega) | exact at_int rfl (by simp)), (by (iterate 17 refine Agr.lk rfl ?_); exact Agr.lk rfl (Agr.hav rfl Agr.rfl')), ?_⟩
      refine ⟨⟨by omega, by rw [List.length_set]; exact hl5, by rw [map_setD hin hcy]; exact hc5, fun z hz => ?_, ho8, hk8, hq8', e8, by omega⟩, by show ni - (i + 1) < ni - i; omega⟩
      rcases List.mem_or_eq_of_mem_set hz with hz | rfl
      · exact ⟨(((hj5 z hz).1.ext hS).ext he7).put (Below.mono hb8 hN) hC8 (by decide), (hj5 z hz).2⟩
      · exact ⟨yO, by rw [hy]; exact xn⟩
    · have hlt : ¬ (i : Int) < (ni : Int) := hlt
      obtain rfl : i = ni := by omega
      have hones2 : ((rs.flatMap Re.vs).all (·.oneCell')) = true := by
        rw [List.all_eq_true]
        intro v hv
        obtain ⟨x, _, hx⟩ := List.mem_flatMap.1 hv
        simp only [Re.vs, List.mem_cons, List.not_mem_nil, or_false] at hx
        rcases hx with rfl | rfl | rfl <;> rfl
      have hnr : (Ce.mk k t A3 i c3 is Ar nr cr rs).nr = nr := rfl
      have ho05 : w5.ownsRow w5.heap.size 72 3 (.slice none 0 0) 0 (([] : List Re).flatMap Re.vs) := own_nil _ _ _ _
      refine J.exit ?_
      refine J.seq ?_
      refine J.region ?_
      refine L.va rfl (X.fieldAddr rfl Try.underlying48 rfl sz_46 (by decide)) ?_
      refine L.va rfl (X.load rfl sc_46 (by first | exact Ld.blk hk5 rfl)) ?_
      refine L.appendV (q := nr) (ys := rs.flatMap Re.vs) rfl rfl rfl Try.underlying46 el_72 (ho05) ((hrr.ext he5)) (by first | rfl | exact strs_ones _ | assumption) (by omega) (by simp) (by unfold maxLen; omega) (by omega) ?_
      intro A6 c6' w6 ho6 hg6 he6 hor6
      have he6 : Ext w5 w6 := he6
      have z6 := he6.le
      have hk6 := hk5.ext he6
      have hq6 := hq5.ext he6
      refine L.va rfl (X.fieldAddr rfl Try.underlying48 rfl sz_46 (by decide)) ?_
      refine L.store rfl rfl (by conv => lhs; whnf) rfl sz_46 (hk6) (by first | decide | exact Nat.le_of_ble_eq_true rfl) ?_
      intro w7 hk7 hg7 hs7
      have hk7 : Blk w7 b1 48 (Ce.mk k t A3 i c3 js A6 nr c6' rs).vs.toArray := hk7
      have hC7 : TCh 48 w6 w7 := TCh.put hk6 hg7
      have ho7 := hC7.own ho6 (by decide)
      have hw7 := hC7.own (ho5.ext he6) (by decide)
      have hq7 := hq6.grown hg7 (fun e => by injection e with e; omega)
      have e7 : Ext w w7 := (he5.trans he6).grw hg7 (by intro g hg; injection hg with hg; omega)
      have z7 := e7.le
      have b7 : Below w.heap.size w6 w7 := Chg.below (.of_grown hg7 (S := fun g => g = b1) (fun g hg => by injection hg with hg; exact hg.symm)) (by omega) (fun g hg => by omega)
      have hw8 : ∀ y ∈ js, y.Own N w7 ∧ y.n ≤ q := fun y hy => ⟨((hj5 y hy).1.ext he6).put (Below.mono b7 hN) hC7 (by decide), (hj5 y hy).2⟩
      have ho7 := own_lowB ho7 z5
      refine L.nil ?_
      refine J.seq ?_
      refine J.seq ?_
      refine J.region ?_
      refine L.va rfl (X.fieldAddr rfl Try.underlying48 rfl sz_46 (by decide)) ?_
      refine L.va rfl (X.load rfl sc_46 (by first | exact Ld.blk hk7 rfl)) ?_
      refine L.va rfl (X.len rfl Try.underlying46) ?_
      refine L.va rfl (X.move (by conv => lhs; whnf)) ?_
      refine L.nil ?_
      refine J.block ?_
      refine J.loop (X := Nat × List Re) [4, 35, 36, 37, 38, 39, 40, 41, 42, 43, 44, 45, 46, 47, 48, 49, 50] (fun (i, js) => [(35, .int .i64 (i : Int))]) (fun (j, ks) w' => j ≤ nr ∧ ks.length = nr ∧ ks.map Re.con = rs.map Re.con ∧ (∀ y ∈ ks, y.Own N w' ∧ y.n ≤ 300) ∧ (∀ y ∈ js, y.Own N w' ∧ y.n ≤ q) ∧ w'.ownsRow w.heap.size 72 3 (.slice A6 nr c6') nr (ks.flatMap Re.vs) ∧ w'.ownsRow w.heap.size 69 5 (.slice A3 i c3) i (js.flatMap Wh.vs) ∧ Blk w' b1 48 (Ce.mk k t A3 i c3 js A6 nr c6' rs).vs.toArray ∧ Blk w' b2 48 #[.int .u64 0, .int .i64 0, .slice none 0 0, .slice none 0 0] ∧ Ext w w' ∧ w.heap.size ≤ w'.heap.size) (fun (i, _) => nr - i) ((0, rs)) (At1 (by first | rfl | exact at_int rfl (by omega) | exact at_slice rfl (by omega) | exact at_int rfl (by simp))) ?_ ?_
      · refine ⟨Nat.zero_le _, lr, rfl, fun y hy => ⟨⟨.inl ((hx.hr y hy).r.ext e7), (hx.hr y hy).m, (hx.hr y hy).o⟩, hL.lr y hy⟩, hw8, ho7, hw7, hk7, hq7, e7, z7⟩
      · rintro ⟨j, ks⟩ g w9 ⟨hj, hl9, hc9, hk9, hj9, ho9, hi9, hb9, hq9, e9, z9⟩
        refine J.seq ?_
        refine J.region ?_
        refine L.va rfl (X.lss rfl rfl) ?_
        refine L.nil ?_
        refine J.seq ?_
        refine J.dec rfl (fun hlt2 => ?_) (fun hlt2 => ?_)
        · have hlt2 : (j : Int) < (nr : Int) := hlt2
          have hin : j < ks.length := by omega
          obtain ⟨x, hx9⟩ : ∃ x, x = ks.getD j re0 := ⟨_, rfl⟩
          have gx := gtR (l := ks) (i := j) hin
          have mx := memD (l := ks) (i := j) (d := re0) hin
          rw [← hx9] at gx mx
          have xO := (hk9 x mx).1
          have xn := (hk9 x mx).2
          have hA := own_ne ho9 (by omega)
          refine J.skip ?_
          refine J.seq ?_
          refine J.block ?_
          refine J.seq ?_
          refine J.region ?_
          refine L.va rfl (X.move (by conv => lhs; whnf)) ?_
          refine L.va rfl (X.assign (by conv => lhs; whnf)) ?_
          refine L.nil ?_
          refine J.draw (ℓ := 12) (S := Ext w9) mixed (fun w10 hS hS_h => ?_)
          refine D.va 0 rfl (by kernel_rfl) (fun _ _ _ h => h) rfl (fun w' hw => X.fieldAddr rfl Try.underlying48 rfl sz_46 (by decide)) hS ?_
          refine D.va 1 rfl (by kernel_rfl) (fun _ _ _ h => h) rfl (fun w' hw => X.load rfl sc_46 (by first | exact Ld.blk (hb9.ext hw) rfl | exact hA | exact Ld.flat2 re_len (Reads.of_own (ho9.ext hw)) gx (r := 0) rfl)) hS ?_
          refine D.va 2 rfl (by kernel_rfl) (fun _ _ _ h => h) rfl (fun w' hw => X.move (by conv => lhs; whnf)) hS ?_
          refine D.va 3 rfl (by kernel_rfl) (fun _ _ _ h => h) rfl (fun w' hw => X.fieldAddr rfl Try.underlying48 rfl sz_46 (by decide)) hS ?_
          refine D.va 4 rfl (by kernel_rfl) (fun _ _ _ h => h) rfl (fun w' hw => X.load rfl sc_46 (by first | exact Ld.blk (hb9.ext hw) rfl | exact hA | exact Ld.flat2 re_len (Reads.of_own (ho9.ext hw)) gx (r := 0) rfl)) hS ?_
          refine D.va 5 rfl (by kernel_rfl) (fun _ _ _ h => h) rfl (fun w' hw => X.move (by conv => lhs; whnf)) hS ?_
          refine D.va 6 rfl (by kernel_rfl) (fun _ _ _ h => h) rfl (fun w' hw => (by first | exact X.indexAddrn rfl rfl Try.underlying46 sz_72 (by first | exact Option.some_ne_none _ | exact hA) (by omega) | exact X.indexAddr rfl rfl Try.underlying46 sz_72 (by first | exact Option.some_ne_none _ | exact hA) (by omega))) hS ?_
          refine D.va 7 rfl (by kernel_rfl) (fun _ _ _ h => h) rfl (fun w' hw => X.fieldP rfl Try.underlying72 rfl sz_37 (by decide) (by first | exact Option.some_ne_none _ | exact hA)) hS ?_
          refine D.va 8 rfl (by kernel_rfl) (fun _ _ _ h => h) rfl (fun w' hw => X.load rfl sc_37 (by first | exact Ld.blk (hb9.ext hw) rfl | exact hA | exact Ld.flat2 re_len (Reads.of_own (ho9.ext hw)) gx (r := 0) rfl)) hS ?_
          have zS := hS.le
          have ho010 : w10.ownsRow w10.heap.size 5 1 (.slice none 0 0) 0 (nums .u8 []) := own_nil _ _ _ _
          refine D.one 9 (by kernel_rfl) rfl ?_
          refine L.appendQ (q := x.n) (ys := x.b) rfl rfl rfl Try.underlying37 el_5 (ho010) (((xO.ext hS).at (by omega)).r) (by omega) (by simp) (by unfold maxLen; omega) (by omega) ?_
          intro A11 c11 w11 ho11 hg11 he11 hor11
          have hS1 := Ext.trans hS he11
          refine L.nil ?_
          refine ⟨fun _ => hS1, ?_⟩
          have he11 : Ext w10 w11 := he11
          have z11 := he11.le
          have hoA := (ho9.ext hS).ext he11
          refine D.va 10 rfl (by kernel_rfl) (fun _ _ _ h => h) rfl (fun w' hw => (by first | exact X.indexAddrn rfl rfl Try.underlying46 sz_72 (by first | exact Option.some_ne_none _ | exact hA) (by omega) | exact X.indexAddr rfl rfl Try.underlying46 sz_72 (by first | exact Option.some_ne_none _ | exact hA) (by omega))) hS1 ?_
          refine D.va 11 rfl (by kernel_rfl) (fun _ _ _ h => h) rfl (fun w' hw => X.fieldP rfl Try.underlying72 rfl sz_37 (by decide) (by first | exact Option.some_ne_none _ | exact hA)) hS1 ?_
          refine D.one 12 (by kernel_rfl) rfl ?_
          refine L.storeO rfl rfl (by conv => lhs; whnf) rfl sz_37 (hoA) (by first | omega | (simp; omega)) ?_
          intro w12 ho12 hg12 hb12 hs12
          refine L.nil ?_
          refine ⟨fun h => absurd rfl h, ?_⟩
          have hC12 : TCh 72 w11 w12 := TCh.row hoA hg12
          obtain ⟨y, hy⟩ : ∃ y : Re, y = ⟨A11, x.n, c11, x.b, x.lo, x.hi⟩ := ⟨_, rfl⟩
          have hset := flat_set (f := Re.vs) (r := 0) (v := .slice A11 x.n c11) (y := y) re_len ks j hin (by omega) (by
            have e : ks[j]'hin = x := by
              have := gx
              rw [List.getElem?_eq_getElem hin] at this
              injection this
            rw [e, hy]
            rfl)
          have ho12 : w12.ownsRow w.heap.size 72 3 (.slice A6 nr c6') nr ((ks.set j y).flatMap Re.vs) := by
            rw [← hset]
            exact ho12
          have hcy : y.con = (ks.getD j re0).con := by rw [hy, ← hx9]
          have yO : y.Own N w12 := by
            rw [hy]
            exact Re.Own.put ⟨.inr (own_lowB ho11 (by omega)), xO.m, ⟨xO.o.b, xO.o.lo, xO.o.hi⟩⟩ (Below.mono hb12 hN) hC12 (by decide)
          have hk12 := hC12.blk ((hb9.ext hS).ext he11) (by decide)
          have hq12 := hC12.blk ((hq9.ext hS).ext he11) (by decide)
          have hi12 := hC12.own ((hi9.ext hS).ext he11) (by decide)
          have e12 : Ext w w12 := ((e9.trans hS).trans he11).grw hg12 (fun g hg => (hoA.lt g hg).1)
          refine D.done (by kernel_rfl) ?_
          replace hb9 := hb9.ext hS1
          refine J.region ?_
          refine L.va rfl (X.add rfl rfl (by omega)) ?_
          refine L.va rfl (X.move (by conv => lhs; whnf)) ?_
          refine L.nil ?_
          refine ⟨(j + 1, ks.set j y), At1 (by first | rfl | exact at_int rfl (by omega) | exact at_slice rfl (by omega) | exact at_int rfl (by simp)), (by (iterate 17 refine Agr.lk rfl ?_); exact Agr.lk rfl (Agr.hav rfl Agr.rfl')), ?_⟩
          refine ⟨⟨by omega, by rw [List.length_set]; exact hl9, by rw [map_setD hin hcy]; exact hc9, fun z hz => ?_, fun z hz => ⟨(((hj9 z hz).1.ext hS).ext he11).put (Below.mono hb12 hN) hC12 (by decide), (hj9 z hz).2⟩, ho12, hi12, hk12, hq12, e12, by omega⟩, by show nr - (j + 1) < nr - j; omega⟩
          rcases List.mem_or_eq_of_mem_set hz with hz | rfl
          · exact ⟨(((hk9 z hz).1.ext hS).ext he11).put (Below.mono hb12 hN) hC12 (by decide), (hk9 z hz).2⟩
          · exact ⟨yO, by rw [hy]; exact xn⟩
        · have hlt2 : ¬ (j : Int) < (nr : Int) := hlt2
          obtain rfl : j = nr := by omega
          refine J.exit ?_
          refine J.seq ?_
          refine J.region ?_
          refine L.va rfl ((by first | exact X.loadAgg rfl (range_l hb9) Try.underlying48 rfl (by kernel_rfl) | exact X.loadAgg rfl (range_blk hb9) Try.underlying48 rfl (by kernel_rfl))) ?_
          refine L.storeAgg (vs := [_, _, _, _]) rfl rfl rfl rfl sz_48 (hq9) rfl ?_
          intro w10 hk10 hg10 hs10
          have hk10 : Blk w10 b2 48 (Ce.mk k t A3 i c3 js A6 j c6' rs).vs.toArray := hk10
          have hC10 : TCh 48 w9 w10 := TCh.put hq9 hg10
          have b10 : Below w.heap.size w9 w10 := Chg.below (.of_grown hg10 (S := fun g => g = b2) (fun g hg => by injection hg with hg; exact hg.symm)) (by omega) (fun g hg => by omega)
          have e10 : Ext w w10 := e9.grw hg10 (by intro g hg; injection hg with hg; omega)
          have z10 := e10.le
          refine L.nil ?_
          refine J.ret ?_
          refine finC rfl (run_cell hk10 Try.underlying48 rfl (by kernel_rfl)) ?_
          refine ⟨⟨k, t, A3, i, c3, js, A6, j, c6', ks⟩, rfl, ?_, ⟨hx.k, hx.t, own_lowB (hC10.own hi9 (by decide)) hN, fun y hy => (hj9 y hy).1.put (Below.mono b10 hN) hC10 (by decide), hl5, own_lowB (hC10.own ho9 (by decide)) hN, fun y hy => (hk9 y hy).1.put (Below.mono b10 hN) hC10 (by decide), hl9, ⟨Li, Lr, fun y hy => (hj9 y hy).2, fun y hy => (hk9 y hy).2⟩⟩, e10⟩
          show Con.mk k t _ _ = Con.mk k t _ _
          rw [hc5, hc9]
end Go.Proofs.Ytnndkepnabddgaa
namespace Go.Proofs.Ytnndkepnabddgaa
namespace Byts
section
variable {zs bs : List Int} {off k : Nat}
end
def be (n : Nat) (x : Int) : List Int := (List.range n).map fun i => x / 256 ^ (n - 1 - i) % 256
def num (bs : List Int) : Int := bs.foldl (fun x c => 256 * x + c) 0
end Byts
namespace Byts
def fill (n k : Nat) (x : Int) : List Int := List.replicate (n - k) 0 ++ (be n x).drop (n - k)
end Byts
end Go.Proofs.Ytnndkepnabddgaa
namespace Go.Proofs.Ytnndkepnabddgaa
namespace Cod
open Byts
def wdN : Nat → Nat
  | 0 => 0
  | n + 1 => wdN ((n + 1) / 256) + 1
termination_by n => n
decreasing_by omega
def wd (x : Int) : Nat := wdN x.toNat
end Cod
end Go.Proofs.Ytnndkepnabddgaa
namespace Go.Proofs.Ytnndkepnabddgaa
namespace Cod
open Byts
def comb (out : List Int) (i : Nat) (r : List Int × Nat × Int) : List Int × Nat × Int := if r.2.2 = 0 then (out ++ r.1, i + r.2.1, 0) else ([], 0, r.2.2)
def gt : List Int → List Int × Nat × Int
  | [] => ([], 0, 5)
  | [c] => if c = 0 then ([], 0, 5) else ([], 0, 5)
  | c :: d :: u => if c = 0 then (if d = 0 then ([], 2, 0) else if d = 1 then comb [0] 2 (gt u) else ([], 0, 6)) else comb [c] 1 (gt (d :: u))
end Cod
end Go.Proofs.Ytnndkepnabddgaa
namespace Go.Proofs.Ytnndkepnabddgaa
set_option linter.unusedVariables false
open Byts Cod
namespace Odr
def lessB : List Int → List Int → Bool
  | _, [] => false
  | [], _ :: _ => true
  | a :: u, b :: v => if a ≠ b then decide (a < b) else lessB u v
theorem lessB_nil (u : List Int) : lessB u [] = false := by cases u <;> rfl
def Dif (u v : List Int) : Prop := ∃ p a b u' v', u = p ++ a :: u' ∧ v = p ++ b :: v' ∧ a < b
theorem lessB_same : ∀ (p r s : List Int), lessB (p ++ r) (p ++ s) = lessB r s
  | [], r, s => rfl
  | a :: p, r, s => by
    show (if a ≠ a then _ else lessB (p ++ r) (p ++ s)) = _
    rw [if_neg (fun h => h rfl)]
    exact lessB_same p r s
theorem Dif.pre {u v : List Int} (h : Dif u v) (p : List Int) : Dif (p ++ u) (p ++ v) := by
  obtain ⟨q, a, b, u', v', rfl, rfl, hab⟩ := h
  exact ⟨p ++ q, a, b, u', v', by simp, by simp, hab⟩
theorem Dif.cons {u v : List Int} (h : Dif u v) (x : Int) : Dif (x :: u) (x :: v) := h.pre [x]
theorem Dif.less {u v : List Int} (h : Dif u v) : lessB u v = true := by
  obtain ⟨p, a, b, u', v', rfl, rfl, hab⟩ := h
  rw [lessB_same]
  show (if a ≠ b then decide (a < b) else _) = true
  rw [if_pos (by omega)]
  exact decide_eq_true hab
theorem Dif.more {u v : List Int} (h : Dif u v) : lessB v u = false := by
  obtain ⟨p, a, b, u', v', rfl, rfl, hab⟩ := h
  rw [lessB_same]
  show (if b ≠ a then decide (b < a) else _) = false
  rw [if_pos (by omega)]
  exact decide_eq_false (by omega)
end Odr
end Go.Proofs.Ytnndkepnabddgaa
namespace Go.Proofs.Ytnndkepnabddgaa
set_option maxRecDepth 100000
open Go.RowKit H
open Flo
set_option linter.unusedVariables false
def eqI (a b : List Int) : Bool := eqL (fun x y => decide (x = y)) 0 a b
theorem eqI_self (a : List Int) : eqI a a = true := eqL_yes rfl (fun i _ => by simp)
theorem ints16 (A1 : Option Addr) (n1 c1 : Nat) (A2 : Option Addr) (n2 c2 : Nat) (a b : List Int) (w : World) (h1 : Reads w w.heap.size 1 A1 n1 (nums .i64 a)) (h2 : Reads w w.heap.size 1 A2 n2 (nums .i64 b)) (hn1 : n1 ≤ maxLen) (hn2 : n2 ≤ maxLen) :
    Calls Try.prog 12 #[.slice A1 n1 c1, .slice A2 n2 c2] w fun e w' => e = .returned (.bool (eqI a b)) ∧ Ext w w' := by
  have l1 : a.length = n1 := by have := h1.1; simpa [nums] using this
  have l2 : b.length = n2 := by have := h2.1; simpa [nums] using this
  unfold maxLen at hn1 hn2
  refine enter Try.func12 rfl (by kernel_rfl) ?_
  refine J.seq ?_
  refine J.region ?_
  refine L.va rfl (X.assign (by conv => lhs; whnf)) ?_
  refine L.nil ?_
  refine J.seq ?_
  refine J.seq ?_
  refine J.region ?_
  refine L.va rfl (X.move (by conv => lhs; whnf)) ?_
  refine L.va rfl (X.len rfl Try.underlying35) ?_
  refine L.va rfl (X.move (by conv => lhs; whnf)) ?_
  refine L.va rfl (X.len rfl Try.underlying35) ?_
  refine L.va rfl (X.neq rfl rfl) ?_
  refine L.nil ?_
  refine J.ndec rfl (fun hne => ?_) (fun hne => ?_)
  · rw [show eqI a b = false from eqL_len (by omega)]
    refine J.seq ?_
    refine J.region ?_
    refine L.va rfl (X.assign (by conv => lhs; whnf)) ?_
    refine L.nil ?_
    refine J.ret ?_
    refine thn_ret <| ?_
    refine fin1 ?_
    exact ⟨rfl, Ext.refl _⟩
  · refine J.skip ?_
    refine J.seq ?_
    refine J.seq ?_
    refine J.region ?_
    refine L.va rfl (X.assign (by conv => lhs; whnf)) ?_
    refine L.nil ?_
    refine J.block ?_
    refine J.loop (X := Nat) [4, 5, 11, 12, 13, 14, 15, 16, 17, 18, 19, 20, 21, 22, 23, 24, 25] (fun i => [(5, .int .i64 (i : Int))]) (fun i w' => i ≤ n1 ∧ (∀ j, j < i → decide (a.getD j 0 = b.getD j 0) = true) ∧ Ext w w') (fun i => n1 - i) (0) (At1 (by first | rfl | exact at_int rfl (by omega) | exact at_slice rfl (by omega) | exact at_int rfl (by simp))) ?_ ?_
    · exact ⟨by omega, fun j hj => absurd hj (by omega), Ext.refl _⟩
    · rintro i g w2 ⟨hi, hP, he⟩
      have k1 := h1.ext he
      have k2 := h2.ext he
      refine J.seq ?_
      refine J.seq ?_
      refine J.region ?_
      refine L.va rfl (X.move (by conv => lhs; whnf)) ?_
      refine L.va rfl (X.move (by conv => lhs; whnf)) ?_
      refine L.va rfl (X.len rfl Try.underlying35) ?_
      refine L.va rfl (X.lss rfl rfl) ?_
      refine L.nil ?_
      refine J.dec rfl (fun hlt => ?_) (fun hlt => ?_)
      · have hA1 := k1.some_ (by omega)
        have hA2 := k2.some_ (by omega)
        refine J.skip ?_
        refine J.seq ?_
        refine J.block ?_
        refine J.seq ?_
        refine J.quiet mixed (by kernel_rfl) ?_
        refine Qt.va rfl (fun w' hw => X.move (by conv => lhs; whnf)) ?_
        refine Qt.va rfl (fun w' hw => X.move (by conv => lhs; whnf)) ?_
        refine Qt.va rfl (fun w' hw => (by first | exact X.index1n rfl rfl Try.underlying35 sz_3 (by first | exact Option.some_ne_none _ | exact k1.some_ (by omega) | exact k2.some_ (by omega) | exact hA1 | exact hA2) (by omega) | exact X.index1 rfl rfl Try.underlying35 sz_3 (by first | exact Option.some_ne_none _ | exact k1.some_ (by omega) | exact k2.some_ (by omega) | exact hA1 | exact hA2) (by omega))) ?_
        refine Qt.va rfl (fun w' hw => X.load rfl sc_3 (by first | exact Ld.num (k1.ext hw) (by omega) | exact Ld.num (k2.ext hw) (by omega) | exact hA1 | exact hA2)) ?_
        refine Qt.va rfl (fun w' hw => X.move (by conv => lhs; whnf)) ?_
        refine Qt.va rfl (fun w' hw => X.move (by conv => lhs; whnf)) ?_
        refine Qt.va rfl (fun w' hw => (by first | exact X.index1n rfl rfl Try.underlying35 sz_3 (by first | exact Option.some_ne_none _ | exact k1.some_ (by omega) | exact k2.some_ (by omega) | exact hA1 | exact hA2) (by omega) | exact X.index1 rfl rfl Try.underlying35 sz_3 (by first | exact Option.some_ne_none _ | exact k1.some_ (by omega) | exact k2.some_ (by omega) | exact hA1 | exact hA2) (by omega))) ?_
        refine Qt.va rfl (fun w' hw => X.load rfl sc_3 (by first | exact Ld.num (k1.ext hw) (by omega) | exact Ld.num (k2.ext hw) (by omega) | exact hA1 | exact hA2)) ?_
        refine Qt.va rfl (fun w' hw => X.neq rfl rfl) ?_
        refine Qt.nil (fun w3 hq => ?_)
        replace k1 := k1.ext hq
        replace k2 := k2.ext hq
        refine J.ndec rfl (fun hd => ?_) (fun hd => ?_)
        · rw [show eqI a b = false from eqL_no (i := i) (by omega) (decide_eq_false hd)]
          refine J.seq ?_
          refine J.region ?_
          refine L.va rfl (X.assign (by conv => lhs; whnf)) ?_
          refine L.nil ?_
          refine J.ret ?_
          refine inB_ret <|  thn_ret <|  thn_ret <|  inB_ret <|  thn_ret <| ?_
          refine fin1 ?_
          exact ⟨rfl, he.trans hq⟩
        · skip
          refine J.skip ?_
          refine J.region ?_
          refine L.va rfl (X.move (by conv => lhs; whnf)) ?_
          refine L.va rfl (X.add rfl rfl (by omega)) ?_
          refine L.va rfl (X.assign (by conv => lhs; whnf)) ?_
          refine L.nil ?_
          refine ⟨i + 1, At1 (by first | rfl | exact at_int rfl (by omega) | exact at_slice rfl (by omega) | exact at_int rfl (by simp)), (by (iterate 16 refine Agr.lk rfl ?_); exact Agr.lk rfl (Agr.hav rfl Agr.rfl')), ?_⟩
          refine ⟨⟨by omega, fun j hj => ?_, he.trans hq⟩, by omega⟩
          rcases Nat.lt_or_ge j i with h | h
          · exact hP j h
          · obtain rfl : j = i := by omega
            exact decide_eq_true hd
      · rw [show eqI a b = true from eqL_yes (by omega) (fun j hj => hP j (by omega))]
        refine J.exit ?_
        refine J.seq ?_
        refine J.region ?_
        refine L.va rfl (X.assign (by conv => lhs; whnf)) ?_
        refine L.nil ?_
        refine J.ret ?_
        refine fin1 ?_
        exact ⟨rfl, he⟩
def wfV (l : List Vl) : Prop := ∀ v ∈ l, v.x < 18446744073709551616
structure Rw where
  (Ac : Option Addr) (nc cc : Nat) (c : List Int) (Av : Option Addr) (nv cv : Nat) (v : List Vl)
namespace Rw
abbrev vs (r : Rw) : List Value := [.slice r.Ac r.nc r.cc, .slice r.Av r.nv r.cv]
abbrev val (r : Rw) : Value := .agg r.vs.toArray
structure At (r : Rw) (N : Nat) (w : World) : Prop where
  hc : Reads w N 1 r.Ac r.nc (nums .i64 r.c)
  hv : Reads w N 3 r.Av r.nv (r.v.flatMap Vl.vs)
  hw : wfV r.v
  lv : r.v.length = r.nv
  n1 : r.nc ≤ maxLen
  n2 : r.nv ≤ maxLen
theorem At.ext {r : Rw} {N : Nat} {w w' : World} (h : r.At N w) (he : Ext w w') : r.At N w' := ⟨h.hc.ext he, h.hv.ext he, h.hw, h.lv, h.n1, h.n2⟩
theorem At.more {r : Rw} {N N' : Nat} {w : World} (h : r.At N w) (hN : N ≤ N') : r.At N' w := ⟨h.hc.more hN, h.hv.more hN, h.hw, h.lv, h.n1, h.n2⟩
theorem At.lc {r : Rw} {N : Nat} {w : World} (h : r.At N w) : r.c.length = r.nc := by have := h.hc.1; simpa [nums] using this
end Rw
end Go.Proofs.Ytnndkepnabddgaa
namespace Go.Proofs.Ytnndkepnabddgaa
set_option maxRecDepth 100000
open Go.RowKit H
open Flo
set_option linter.unusedVariables false
structure Rws where
  (A : Option Addr) (n c : Nat) (l : List Rw)
namespace Rws
abbrev val (s : Rws) : Value := .slice s.A s.n s.c
structure At (s : Rws) (N : Nat) (w : World) : Prop where
  r : Reads w N 2 s.A s.n (s.l.flatMap Rw.vs)
  h : ∀ x ∈ s.l, x.At N w
  l : s.l.length = s.n
  m : s.n ≤ maxLen
theorem At.ext {s : Rws} {N : Nat} {w w' : World} (h : s.At N w) (he : Ext w w') : s.At N w' := ⟨h.r.ext he, fun x hx => (h.h x hx).ext he, h.l, h.m⟩
theorem At.more {s : Rws} {N N' : Nat} {w : World} (h : s.At N w) (hN : N ≤ N') : s.At N' w := ⟨h.r.more hN, fun x hx => (h.h x hx).more hN, h.l, h.m⟩
end Rws
end Go.Proofs.Ytnndkepnabddgaa
namespace Go.Proofs.Ytnndkepnabddgaa
set_option maxRecDepth 100000
open Go.RowKit H
open Byts Cod Flo Odr
set_option linter.unusedVariables false
abbrev Or := List (Int × Bool)
namespace H
end H
end Go.Proofs.Ytnndkepnabddgaa
namespace Go.Proofs.Ytnndkepnabddgaa
set_option maxRecDepth 100000
open Go.RowKit H
open Byts Cod Flo Odr
set_option linter.unusedVariables false
theorem lessB_at : ∀ {u v : List Int} {i : Nat}, i < u.length → i < v.length → (∀ j, j < i → u.getD j 0 = v.getD j 0) → u.getD i 0 ≠ v.getD i 0 → lessB u v = decide (u.getD i 0 < v.getD i 0)
  | [], _, i, h, _, _, _ => absurd h (by simp)
  | _ :: _, [], i, _, h, _, _ => absurd h (by simp)
  | a :: u, b :: v, 0, _, _, _, h => by
    have h : a ≠ b := h
    show (if a ≠ b then decide (a < b) else _) = _
    rw [if_pos h]
    rfl
  | a :: u, b :: v, i + 1, h1, h2, hP, h => by
    have h0 : a = b := hP 0 (by omega)
    show (if a ≠ b then _ else lessB u v) = _
    rw [if_neg (fun k => k h0)]
    exact lessB_at (i := i) (by simpa using h1) (by simpa using h2) (fun j hj => hP (j + 1) (by omega)) h
theorem lessB_end : ∀ {u v : List Int}, (∀ j, j < u.length → j < v.length → u.getD j 0 = v.getD j 0) → lessB u v = decide (u.length < v.length)
  | u, [], _ => by rw [lessB_nil]; simp
  | [], b :: v, _ => by simp [lessB]
  | a :: u, b :: v, hP => by
    have h0 : a = b := hP 0 (by simp) (by simp)
    show (if a ≠ b then _ else lessB u v) = _
    rw [if_neg (fun k => k h0), lessB_end fun j h1 h2 => hP (j + 1) (by simpa using h1) (by simpa using h2)]
    simp
theorem code_Less (A1 : Option Addr) (n1 c1 : Nat) (A2 : Option Addr) (n2 c2 : Nat) (u v : List Int) (w : World) (h1 : Reads w w.heap.size 1 A1 n1 (nums .u8 u)) (h2 : Reads w w.heap.size 1 A2 n2 (nums .u8 v)) (hn1 : n1 ≤ maxLen) (hn2 : n2 ≤ maxLen) :
    Calls Try.prog 51 #[.slice A1 n1 c1, .slice A2 n2 c2] w fun e w' => e = .returned (.bool (lessB u v)) ∧ Ext w w' := by
  have l1 : u.length = n1 := by have := h1.1; simpa [nums] using this
  have l2 : v.length = n2 := by have := h2.1; simpa [nums] using this
  unfold maxLen at hn1 hn2
  refine enter Try.func51 rfl (by kernel_rfl) ?_
  refine J.seq ?_
  refine J.region ?_
  refine L.va rfl (X.assign (by conv => lhs; whnf)) ?_
  refine L.nil ?_
  refine J.seq ?_
  refine J.seq ?_
  refine J.region ?_
  refine L.va rfl (X.move (by conv => lhs; whnf)) ?_
  refine L.va rfl (X.len rfl Try.underlying37) ?_
  refine L.va rfl (X.move (by conv => lhs; whnf)) ?_
  refine L.va rfl (X.len rfl Try.underlying37) ?_
  refine L.va rfl (X.min2 rfl rfl) ?_
  refine L.va rfl (X.move (by conv => lhs; whnf)) ?_
  refine L.nil ?_
  refine J.block ?_
  refine J.loop (X := Nat) [4, 5, 11, 12, 13, 14, 15, 16, 17, 18, 19, 20, 21, 22, 23, 24, 25, 26, 27, 28, 29, 30, 31, 32] (fun i => [(11, .int .i64 (i : Int))]) (fun i w' => i ≤ n1 ∧ i ≤ n2 ∧ (∀ j, j < i → u.getD j 0 = v.getD j 0) ∧ Ext w w') (fun i => n1 - i) (0) (At1 (by first | rfl | exact at_int rfl (by omega) | exact at_slice rfl (by omega) | exact at_int rfl (by simp))) ?_ ?_
  · exact ⟨Nat.zero_le _, Nat.zero_le _, fun j hj => absurd hj (by omega), Ext.refl _⟩
  · rintro i g w2 ⟨hi, hi2, hP, he⟩
    have k1 := h1.ext he
    have k2 := h2.ext he
    refine J.seq ?_
    refine J.region ?_
    refine L.va rfl (X.lss rfl rfl) ?_
    refine L.nil ?_
    refine J.seq ?_
    refine J.dec rfl (fun hlt => ?_) (fun hlt => ?_)
    · have hA1 := k1.some_ (by omega)
      have hA2 := k2.some_ (by omega)
      refine J.skip ?_
      refine J.seq ?_
      refine J.block ?_
      refine J.seq ?_
      refine J.region ?_
      refine L.va rfl (X.move (by conv => lhs; whnf)) ?_
      refine L.va rfl (X.assign (by conv => lhs; whnf)) ?_
      refine L.nil ?_
      refine J.seq ?_
      refine J.quiet mixed (by kernel_rfl) ?_
      refine Qt.va rfl (fun w' hw => X.move (by conv => lhs; whnf)) ?_
      refine Qt.va rfl (fun w' hw => X.move (by conv => lhs; whnf)) ?_
      refine Qt.va rfl (fun w' hw => (by first | exact X.index1n rfl rfl Try.underlying37 sz_5 (by first | exact Option.some_ne_none _ | exact k1.some_ (by omega) | exact k2.some_ (by omega) | exact hA1 | exact hA2) (by omega) | exact X.index1 rfl rfl Try.underlying37 sz_5 (by first | exact Option.some_ne_none _ | exact k1.some_ (by omega) | exact k2.some_ (by omega) | exact hA1 | exact hA2) (by omega))) ?_
      refine Qt.va rfl (fun w' hw => X.load rfl sc_5 (by first | exact Ld.num (k1.ext hw) (by omega) | exact Ld.num (k2.ext hw) (by omega) | exact hA1 | exact hA2)) ?_
      refine Qt.va rfl (fun w' hw => X.move (by conv => lhs; whnf)) ?_
      refine Qt.va rfl (fun w' hw => X.move (by conv => lhs; whnf)) ?_
      refine Qt.va rfl (fun w' hw => (by first | exact X.index1n rfl rfl Try.underlying37 sz_5 (by first | exact Option.some_ne_none _ | exact k1.some_ (by omega) | exact k2.some_ (by omega) | exact hA1 | exact hA2) (by omega) | exact X.index1 rfl rfl Try.underlying37 sz_5 (by first | exact Option.some_ne_none _ | exact k1.some_ (by omega) | exact k2.some_ (by omega) | exact hA1 | exact hA2) (by omega))) ?_
      refine Qt.va rfl (fun w' hw => X.load rfl sc_5 (by first | exact Ld.num (k1.ext hw) (by omega) | exact Ld.num (k2.ext hw) (by omega) | exact hA1 | exact hA2)) ?_
      refine Qt.va rfl (fun w' hw => X.neq rfl rfl) ?_
      refine Qt.nil (fun w3 hq => ?_)
      replace k1 := k1.ext hq
      replace k2 := k2.ext hq
      refine J.ndec rfl (fun hd => ?_) (fun hd => ?_)
      · rw [lessB_at (i := i) (by omega) (by omega) hP hd]
        refine J.seq ?_
        refine J.quiet mixed (by kernel_rfl) ?_
        refine Qt.va rfl (fun w' hw => X.move (by conv => lhs; whnf)) ?_
        refine Qt.va rfl (fun w' hw => X.move (by conv => lhs; whnf)) ?_
        refine Qt.va rfl (fun w' hw => (by first | exact X.index1n rfl rfl Try.underlying37 sz_5 (by first | exact Option.some_ne_none _ | exact k1.some_ (by omega) | exact k2.some_ (by omega) | exact hA1 | exact hA2) (by omega) | exact X.index1 rfl rfl Try.underlying37 sz_5 (by first | exact Option.some_ne_none _ | exact k1.some_ (by omega) | exact k2.some_ (by omega) | exact hA1 | exact hA2) (by omega))) ?_
        refine Qt.va rfl (fun w' hw => X.load rfl sc_5 (by first | exact Ld.num (k1.ext hw) (by omega) | exact Ld.num (k2.ext hw) (by omega) | exact hA1 | exact hA2)) ?_
        refine Qt.va rfl (fun w' hw => X.move (by conv => lhs; whnf)) ?_
        refine Qt.va rfl (fun w' hw => X.move (by conv => lhs; whnf)) ?_
        refine Qt.va rfl (fun w' hw => (by first | exact X.index1n rfl rfl Try.underlying37 sz_5 (by first | exact Option.some_ne_none _ | exact k1.some_ (by omega) | exact k2.some_ (by omega) | exact hA1 | exact hA2) (by omega) | exact X.index1 rfl rfl Try.underlying37 sz_5 (by first | exact Option.some_ne_none _ | exact k1.some_ (by omega) | exact k2.some_ (by omega) | exact hA1 | exact hA2) (by omega))) ?_
        refine Qt.va rfl (fun w' hw => X.load rfl sc_5 (by first | exact Ld.num (k1.ext hw) (by omega) | exact Ld.num (k2.ext hw) (by omega) | exact hA1 | exact hA2)) ?_
        refine Qt.va rfl (fun w' hw => X.lss rfl rfl) ?_
        refine Qt.va rfl (fun w' hw => X.assign (by conv => lhs; whnf)) ?_
        refine Qt.nil (fun w4 hq4 => ?_)
        replace k1 := k1.ext hq4
        replace k2 := k2.ext hq4
        refine J.ret ?_
        refine inB_ret <|  thn_ret <|  thn_ret <|  inB_ret <|  thn_ret <| ?_
        refine fin1 ?_
        exact ⟨rfl, (he.trans hq).trans hq4⟩
      · skip
        refine J.skip ?_
        refine J.region ?_
        refine L.va rfl (X.add rfl rfl (by omega)) ?_
        refine L.va rfl (X.move (by conv => lhs; whnf)) ?_
        refine L.nil ?_
        refine ⟨i + 1, At1 (by first | rfl | exact at_int rfl (by omega) | exact at_slice rfl (by omega) | exact at_int rfl (by simp)), (by (iterate 14 refine Agr.lk rfl ?_); exact Agr.lk rfl (Agr.hav rfl Agr.rfl')), ?_⟩
        refine ⟨⟨by omega, by omega, fun j hj => ?_, he.trans hq⟩, by omega⟩
        rcases Nat.lt_or_ge j i with h | h
        · exact hP j h
        · obtain rfl : j = i := by omega
          exact hd
    · rw [lessB_end fun j k1 k2 => hP j (by omega), l1, l2]
      refine J.exit ?_
      refine J.seq ?_
      refine J.region ?_
      refine L.va rfl (X.move (by conv => lhs; whnf)) ?_
      refine L.va rfl (X.len rfl Try.underlying37) ?_
      refine L.va rfl (X.move (by conv => lhs; whnf)) ?_
      refine L.va rfl (X.len rfl Try.underlying37) ?_
      refine L.va rfl (X.lss rfl rfl) ?_
      refine L.va rfl (X.assign (by conv => lhs; whnf)) ?_
      refine L.nil ?_
      refine J.ret ?_
      refine fin1 ?_
      exact ⟨congrArg (fun b => Ending.returned (.bool b)) (decide_eq_decide.2 Int.ofNat_lt), he⟩
end Go.Proofs.Ytnndkepnabddgaa
namespace Go.Proofs.Ytnndkepnabddgaa
set_option maxRecDepth 100000
open Go.RowKit H
open Byts Cod Flo Odr
set_option linter.unusedVariables false
structure By where
  (A : Option Addr) (n c : Nat) (l : List Int)
namespace By
abbrev vs (k : By) : List Value := [.slice k.A k.n k.c]
structure At (k : By) (N : Nat) (w : World) : Prop where
  r : Reads w N 1 k.A k.n (nums .u8 k.l)
  m : k.n ≤ maxLen
theorem At.ext {k : By} {N : Nat} {w w' : World} (h : k.At N w) (he : Ext w w') : k.At N w' := ⟨h.r.ext he, h.m⟩
theorem At.below {k : By} {N : Nat} {w w' : World} (h : k.At N w) (he : Below N w w') : k.At N w' := ⟨h.r.below he, h.m⟩
theorem At.more {k : By} {N N' : Nat} {w : World} (h : k.At N w) (hN : N ≤ N') : k.At N' w := ⟨h.r.more hN, h.m⟩
end By
def by0 : By := ⟨none, 0, 0, []⟩
theorem by_len (k : By) : k.vs.length = 1 := rfl
theorem gtBy {l : List By} {i : Nat} (h : i < l.length) : l[i]? = some (l.getD i by0) := by rw [List.getD, List.getElem?_eq_getElem h]; rfl
theorem memBy {l : List By} {i : Nat} (h : i < l.length) : l.getD i by0 ∈ l := by rw [List.getD, List.getElem?_eq_getElem h]; exact List.getElem_mem _
structure Bys where
  (A : Option Addr) (n c : Nat) (l : List By)
namespace Bys
abbrev val (s : Bys) : Value := .slice s.A s.n s.c
structure At (s : Bys) (N : Nat) (w : World) : Prop where
  r : Reads w N 1 s.A s.n (s.l.flatMap By.vs)
  h : ∀ x ∈ s.l, x.At N w
  l : s.l.length = s.n
  m : s.n ≤ maxLen
theorem At.ext {s : Bys} {N : Nat} {w w' : World} (h : s.At N w) (he : Ext w w') : s.At N w' := ⟨h.r.ext he, fun x hx => (h.h x hx).ext he, h.l, h.m⟩
theorem At.below {s : Bys} {N : Nat} {w w' : World} (h : s.At N w) (he : Below N w w') : s.At N w' := ⟨h.r.below he, fun x hx => (h.h x hx).below he, h.l, h.m⟩
theorem At.more {s : Bys} {N N' : Nat} {w : World} (h : s.At N w) (hN : N ≤ N') : s.At N' w := ⟨h.r.more hN, fun x hx => (h.h x hx).more hN, h.l, h.m⟩
def ahead (s : Bys) (a b : Nat) : Bool := lessB (s.l.getD a by0).l (s.l.getD b by0).l || (!lessB (s.l.getD b by0).l (s.l.getD a by0).l && decide (a < b))
end Bys
theorem tahead (s : Bys) (a b : Nat) (w : World) (h : s.At w.heap.size w) (ha : a < s.n) (hb : b < s.n) : Calls Try.prog 28 #[s.val, .int .i64 (a : Int), .int .i64 (b : Int)] w fun e w' => e = .returned (.bool (s.ahead a b)) ∧ Ext w w' := by
  have hl := h.l
  have hA := h.r.some_ (by omega)
  obtain ⟨x, hx⟩ : ∃ x, x = s.l.getD a by0 := ⟨_, rfl⟩
  obtain ⟨y, hy⟩ : ∃ y, y = s.l.getD b by0 := ⟨_, rfl⟩
  have gx := gtBy (l := s.l) (i := a) (by omega)
  have gy := gtBy (l := s.l) (i := b) (by omega)
  have mx := h.h _ (memBy (l := s.l) (i := a) (by omega))
  have my := h.h _ (memBy (l := s.l) (i := b) (by omega))
  rw [← hx] at gx mx
  rw [← hy] at gy my
  have lx : ∀ (w' : World), Ext w w' → Ld w' (pA s.A a) (.slice x.A x.n x.c) := fun w' hw => by have h := Ld.flat2 by_len (h.r.ext hw) gx (r := 0) rfl; rwa [Nat.mul_one] at h
  have ly : ∀ (w' : World), Ext w w' → Ld w' (pA s.A b) (.slice y.A y.n y.c) := fun w' hw => by have h := Ld.flat2 by_len (h.r.ext hw) gy (r := 0) rfl; rwa [Nat.mul_one] at h
  have e : s.ahead a b = (lessB x.l y.l || (!lessB y.l x.l && decide (a < b))) := by unfold Bys.ahead; rw [← hx, ← hy]
  rw [e]
  have c1 := fun (w' : World) (hw : Ext w w') => code_Less x.A x.n x.c y.A y.n y.c x.l y.l w' ((mx.ext hw).more hw.le).r ((my.ext hw).more hw.le).r mx.m my.m
  have c2 := fun (w' : World) (hw : Ext w w') => code_Less y.A y.n y.c x.A x.n x.c y.l x.l w' ((my.ext hw).more hw.le).r ((mx.ext hw).more hw.le).r my.m mx.m
  refine enter Try.func28 rfl (by kernel_rfl) ?_
  refine J.seq ?_
  refine J.region ?_
  refine L.va rfl (X.assign (by conv => lhs; whnf)) ?_
  refine L.nil ?_
  refine J.seq ?_
  refine J.quiet mixed (by kernel_rfl) ?_
  refine Qt.va rfl (fun w' hw => X.move (by conv => lhs; whnf)) ?_
  refine Qt.va rfl (fun w' hw => X.move (by conv => lhs; whnf)) ?_
  refine Qt.va rfl (fun w' hw => (by first | exact X.index1n rfl rfl Try.underlying38 sz_37 (by first | exact Option.some_ne_none _ | exact hA | exact lx w' hw | exact ly w' hw) (by omega) | exact X.index1 rfl rfl Try.underlying38 sz_37 (by first | exact Option.some_ne_none _ | exact hA | exact lx w' hw | exact ly w' hw) (by omega))) ?_
  refine Qt.va rfl (fun w' hw => X.load rfl sc_37 (by first | exact hA | exact lx w' hw | exact ly w' hw)) ?_
  refine Qt.va rfl (fun w' hw => X.move (by conv => lhs; whnf)) ?_
  refine Qt.va rfl (fun w' hw => X.move (by conv => lhs; whnf)) ?_
  refine Qt.va rfl (fun w' hw => (by first | exact X.index1n rfl rfl Try.underlying38 sz_37 (by first | exact Option.some_ne_none _ | exact hA | exact lx w' hw | exact ly w' hw) (by omega) | exact X.index1 rfl rfl Try.underlying38 sz_37 (by first | exact Option.some_ne_none _ | exact hA | exact lx w' hw | exact ly w' hw) (by omega))) ?_
  refine Qt.va rfl (fun w' hw => X.load rfl sc_37 (by first | exact hA | exact lx w' hw | exact ly w' hw)) ?_
  refine Qt.call rfl en_51 rfl (fun w' hw => calls_ext hw (c1 w' hw)) ?_
  refine Qt.va rfl (fun w' hw => X.move (by conv => lhs; whnf)) ?_
  cases k1 : lessB x.l y.l
  · refine Qt.caseBF (k := 16) rfl (by rfl) ?_
    refine Qt.va rfl (fun w' hw => X.move (by conv => lhs; whnf)) ?_
    refine Qt.va rfl (fun w' hw => X.move (by conv => lhs; whnf)) ?_
    refine Qt.va rfl (fun w' hw => (by first | exact X.index1n rfl rfl Try.underlying38 sz_37 (by first | exact Option.some_ne_none _ | exact hA | exact lx w' hw | exact ly w' hw) (by omega) | exact X.index1 rfl rfl Try.underlying38 sz_37 (by first | exact Option.some_ne_none _ | exact hA | exact lx w' hw | exact ly w' hw) (by omega))) ?_
    refine Qt.va rfl (fun w' hw => X.load rfl sc_37 (by first | exact hA | exact lx w' hw | exact ly w' hw)) ?_
    refine Qt.va rfl (fun w' hw => X.move (by conv => lhs; whnf)) ?_
    refine Qt.va rfl (fun w' hw => X.move (by conv => lhs; whnf)) ?_
    refine Qt.va rfl (fun w' hw => (by first | exact X.index1n rfl rfl Try.underlying38 sz_37 (by first | exact Option.some_ne_none _ | exact hA | exact lx w' hw | exact ly w' hw) (by omega) | exact X.index1 rfl rfl Try.underlying38 sz_37 (by first | exact Option.some_ne_none _ | exact hA | exact lx w' hw | exact ly w' hw) (by omega))) ?_
    refine Qt.va rfl (fun w' hw => X.load rfl sc_37 (by first | exact hA | exact lx w' hw | exact ly w' hw)) ?_
    refine Qt.call rfl en_51 rfl (fun w' hw => calls_ext hw (c2 w' hw)) ?_
    refine Qt.va rfl (fun w' hw => X.not rfl) ?_
    refine Qt.va rfl (fun w' hw => X.move (by conv => lhs; whnf)) ?_
    cases k2 : lessB y.l x.l
    · refine Qt.caseBT (k := 27) rfl (by rfl) ?_
      refine Qt.va rfl (fun w' hw => X.move (by conv => lhs; whnf)) ?_
      refine Qt.va rfl (fun w' hw => X.move (by conv => lhs; whnf)) ?_
      refine Qt.va rfl (fun w' hw => X.lss rfl rfl) ?_
      refine Qt.va rfl (fun w' hw => X.pickT rfl (by conv => lhs; whnf)) ?_
      refine Qt.va rfl (fun w' hw => X.pickF rfl (by conv => lhs; whnf)) ?_
      refine Qt.va rfl (fun w' hw => X.assign (by conv => lhs; whnf)) ?_
      refine Qt.nil (fun w1 hq => ?_)
      refine J.ret ?_
      refine fin1 ?_
      exact ⟨congrArg (fun b => Ending.returned (.bool b)) (decide_eq_decide.2 Int.ofNat_lt), hq⟩
    · refine Qt.caseBF (k := 27) rfl (by rfl) ?_
      refine Qt.no rfl ?_
      refine Qt.no rfl ?_
      refine Qt.no rfl ?_
      refine Qt.va rfl (fun w' hw => X.pickF rfl (by conv => lhs; whnf)) ?_
      refine Qt.va rfl (fun w' hw => X.pickF rfl (by conv => lhs; whnf)) ?_
      refine Qt.va rfl (fun w' hw => X.assign (by conv => lhs; whnf)) ?_
      refine Qt.nil (fun w1 hq => ?_)
      refine J.ret ?_
      refine fin1 ?_
      exact ⟨rfl, hq⟩
  · refine Qt.caseBT (k := 16) rfl (by rfl) ?_
    refine Qt.no rfl ?_
    refine Qt.no rfl ?_
    refine Qt.no rfl ?_
    refine Qt.no rfl ?_
    refine Qt.no rfl ?_
    refine Qt.no rfl ?_
    refine Qt.no rfl ?_
    refine Qt.no rfl ?_
    refine Qt.no rfl ?_
    refine Qt.no rfl ?_
    refine Qt.no rfl ?_
    refine Qt.no rfl ?_
    refine Qt.no rfl ?_
    refine Qt.no rfl ?_
    refine Qt.no rfl ?_
    refine Qt.va rfl (fun w' hw => X.pickT rfl (by conv => lhs; whnf)) ?_
    refine Qt.va rfl (fun w' hw => X.assign (by conv => lhs; whnf)) ?_
    refine Qt.nil (fun w1 hq => ?_)
    refine J.ret ?_
    refine fin1 ?_
    exact ⟨rfl, hq⟩
end Go.Proofs.Ytnndkepnabddgaa
namespace Go.Proofs.Ytnndkepnabddgaa
set_option linter.unusedVariables false
def swp (l : List Int) (i j : Nat) : List Int := (l.set i (l.getD j 0)).set j (l.getD i 0)
theorem swp_length (l : List Int) (i j : Nat) : (swp l i j).length = l.length := by simp [swp]
theorem getD_set (l : List Int) (i j : Nat) (x : Int) (hi : i < l.length) : (l.set i x).getD j 0 = if i = j then x else l.getD j 0 := by
  simp only [List.getD, List.getElem?_set]
  split
  · rename_i h
    subst h
    simp
  · rfl
theorem swp_at (l : List Int) {i j : Nat} (hi : i < l.length) (hj : j < l.length) (k : Nat) : (swp l i j).getD k 0 = if k = j then l.getD i 0 else if k = i then l.getD j 0 else l.getD k 0 := by
  unfold swp
  rw [getD_set _ _ _ _ (by simpa using hj), getD_set _ _ _ _ hi]
  by_cases h1 : k = j
  · rw [if_pos h1.symm, if_pos h1]
  · rw [if_neg (fun h => h1 h.symm), if_neg h1]
    by_cases h2 : k = i
    · rw [if_pos h2.symm, if_pos h2]
    · rw [if_neg (fun h => h2 h.symm), if_neg h2]
theorem swp_perm (l : List Int) {i j : Nat} (hi : i < l.length) (hj : j < l.length) : (swp l i j).Perm l := by
  have e1 : l.getD j 0 = l[j] := by simp [List.getD, hj]
  have e2 : l.getD i 0 = l[i] := by simp [List.getD, hi]
  unfold swp
  rw [e1, e2]
  exact List.set_set_perm hi hj
end Go.Proofs.Ytnndkepnabddgaa
namespace Go.Proofs.Ytnndkepnabddgaa
set_option linter.unusedVariables false
namespace HeapK
def pickCk (κ : Int → Int) (l : List Int) (i n : Nat) : Nat := if 2 * i + 2 < n ∧ κ (l.getD (2 * i + 2) 0) < κ (l.getD (2 * i + 1) 0) then 2 * i + 2 else 2 * i + 1
theorem pickCk_lt {κ : Int → Int} {l : List Int} {i n : Nat} (h : 2 * i + 1 < n) : i < pickCk κ l i n ∧ pickCk κ l i n < n ∧ (pickCk κ l i n = 2 * i + 1 ∨ pickCk κ l i n = 2 * i + 2) := by
  unfold pickCk
  split <;> omega
theorem pickCk_le {κ : Int → Int} {l : List Int} {i n k : Nat} (h : 2 * i + 1 < n) (hk : k < n) (hp : (k - 1) / 2 = i) (h0 : 0 < k) : κ (l.getD (pickCk κ l i n) 0) ≤ κ (l.getD k 0) := by
  have hk2 : k = 2 * i + 1 ∨ k = 2 * i + 2 := by omega
  unfold pickCk
  split
  · rcases hk2 with rfl | rfl <;> omega
  · rename_i hh
    rcases hk2 with rfl | rfl
    · omega
    · apply Decidable.byContradiction
      intro hc
      exact hh ⟨hk, by omega⟩
def siftDk (κ : Int → Int) : Nat → List Int → Nat → Nat → List Int
  | 0, l, _, _ => l
  | f + 1, l, i, n => if n ≤ 2 * i + 1 then l else if κ (l.getD (pickCk κ l i n) 0) < κ (l.getD i 0) then siftDk κ f (swp l i (pickCk κ l i n)) (pickCk κ l i n) n else l
def siftUk (κ : Int → Int) : Nat → List Int → Nat → List Int
  | 0, l, _ => l
  | f + 1, l, j => if j = 0 ∨ ¬ κ (l.getD j 0) < κ (l.getD ((j - 1) / 2) 0) then l else siftUk κ f (swp l ((j - 1) / 2) j) ((j - 1) / 2)
theorem siftDk_length {κ : Int → Int} : ∀ (f : Nat) (l : List Int) (i n : Nat), (siftDk κ f l i n).length = l.length
  | 0, _, _, _ => rfl
  | f + 1, l, i, n => by
    unfold siftDk
    split
    · rfl
    split
    · rw [siftDk_length f, swp_length]
    · rfl
theorem siftUk_length {κ : Int → Int} : ∀ (f : Nat) (l : List Int) (j : Nat), (siftUk κ f l j).length = l.length
  | 0, _, _ => rfl
  | f + 1, l, j => by
    unfold siftUk
    split
    · rfl
    · rw [siftUk_length f, swp_length]
theorem siftDk_perm {κ : Int → Int} : ∀ (f : Nat) (l : List Int) (i n : Nat), n ≤ l.length → (siftDk κ f l i n).Perm l
  | 0, l, _, _, _ => List.Perm.refl l
  | f + 1, l, i, n, hn => by
    unfold siftDk
    split
    · exact List.Perm.refl l
    rename_i h
    have hp := pickCk_lt (κ := κ) (l := l) (show 2 * i + 1 < n by omega)
    split
    · exact (siftDk_perm f _ _ _ (by rw [swp_length]; exact hn)).trans (swp_perm l (by omega) (by omega))
    · exact List.Perm.refl l
theorem siftUk_perm {κ : Int → Int} : ∀ (f : Nat) (l : List Int) (j : Nat), j < l.length → (siftUk κ f l j).Perm l
  | 0, l, _, _ => List.Perm.refl l
  | f + 1, l, j, hj => by
    unfold siftUk
    split
    · exact List.Perm.refl l
    · exact (siftUk_perm f _ _ (by rw [swp_length]; omega)).trans (swp_perm l (by omega) hj)
theorem siftDk_past {κ : Int → Int} : ∀ (f : Nat) (l : List Int) (i n : Nat), n ≤ l.length → ∀ k, n ≤ k → (siftDk κ f l i n).getD k 0 = l.getD k 0
  | 0, l, _, _, _, _, _ => rfl
  | f + 1, l, i, n, hn, k, hk => by
    unfold siftDk
    split
    · rfl
    rename_i h
    have hp := pickCk_lt (κ := κ) (l := l) (show 2 * i + 1 < n by omega)
    split
    · rw [siftDk_past f _ _ _ (by rw [swp_length]; exact hn) k hk, swp_at l (by omega) (by omega), if_neg (by omega), if_neg (by omega)]
    · rfl
def Heapk (κ : Int → Int) (lo n : Nat) (l : List Int) : Prop := ∀ k, 0 < k → k < n → lo ≤ (k - 1) / 2 → κ (l.getD ((k - 1) / 2) 0) ≤ κ (l.getD k 0)
theorem siftDk_heap {κ : Int → Int} : ∀ (f : Nat) (l : List Int) (i n lo : Nat), n ≤ l.length → n ≤ i + f →
    (∀ k, 0 < k → k < n → lo ≤ (k - 1) / 2 → (k - 1) / 2 ≠ i → κ (l.getD ((k - 1) / 2) 0) ≤ κ (l.getD k 0)) →
    (0 < i → lo ≤ (i - 1) / 2 → ∀ k, 0 < k → k < n → (k - 1) / 2 = i → κ (l.getD ((i - 1) / 2) 0) ≤ κ (l.getD k 0)) → Heapk κ lo n (siftDk κ f l i n)
  | 0, l, i, n, lo, hn, hf, h1, h2 => fun k hk0 hkn hlo => h1 k hk0 hkn hlo (by omega)
  | f + 1, l, i, n, lo, hn, hf, h1, h2 => by
    unfold siftDk
    split
    · rename_i h
      exact fun k hk0 hkn hlo => h1 k hk0 hkn hlo (by omega)
    rename_i h
    have hc : 2 * i + 1 < n := by omega
    obtain ⟨p1, p2, p3⟩ := pickCk_lt (κ := κ) (l := l) hc
    have pm := fun k hk hp h0 => pickCk_le (κ := κ) (l := l) (i := i) (n := n) (k := k) hc hk hp h0
    generalize pickCk κ l i n = j at *
    have hji : (j - 1) / 2 = i := by omega
    split
    · rename_i hlt
      refine siftDk_heap f _ j n lo (by rw [swp_length]; exact hn) (by omega) ?_ ?_
      · intro k hk0 hkn hlo hkj
        rw [swp_at l (by omega) (by omega), swp_at l (by omega) (by omega)]
        by_cases hpi : (k - 1) / 2 = i
        · rw [if_neg (by omega), if_pos hpi]
          by_cases hkj2 : k = j
          · rw [if_pos hkj2]; omega
          · rw [if_neg hkj2, if_neg (by omega)]
            exact pm k hkn hpi hk0
        · rw [if_neg hkj, if_neg hpi]
          by_cases hki : k = i
          · subst hki
            rw [if_neg (by omega), if_pos rfl]
            exact h2 hk0 hlo j (by omega) p2 hji
          · rw [if_neg (by omega), if_neg hki]
            exact h1 k hk0 hkn hlo hpi
      · intro hj0 hlo k hk0 hkn hkj
        rw [swp_at l (by omega) (by omega), swp_at l (by omega) (by omega), hji, if_neg (by omega), if_pos rfl, if_neg (by omega), if_neg (by omega)]
        have := h1 k hk0 hkn (by omega) (by omega)
        rw [hkj] at this
        exact this
    · rename_i hge
      intro k hk0 hkn hlo
      by_cases hpi : (k - 1) / 2 = i
      · have := pm k hkn hpi hk0
        rw [hpi]
        omega
      · exact h1 k hk0 hkn hlo hpi
theorem siftUk_heap {κ : Int → Int} : ∀ (f : Nat) (l : List Int) (j : Nat), j < l.length → j < f →
    (∀ k, 0 < k → k < l.length → k ≠ j → κ (l.getD ((k - 1) / 2) 0) ≤ κ (l.getD k 0)) →
    (0 < j → ∀ k, 0 < k → k < l.length → (k - 1) / 2 = j → κ (l.getD ((j - 1) / 2) 0) ≤ κ (l.getD k 0)) → Heapk κ 0 l.length (siftUk κ f l j)
  | 0, l, j, hj, hf, _, _ => absurd hf (by omega)
  | f + 1, l, j, hj, hf, h1, h2 => by
    unfold siftUk
    split
    · rename_i h
      intro k hk0 hkn _
      by_cases hkj : k = j
      · rcases h with h | h
        · omega
        · rw [hkj]; omega
      · exact h1 k hk0 hkn hkj
    · rename_i h
      rw [not_or] at h
      have hlt : κ (l.getD j 0) < κ (l.getD ((j - 1) / 2) 0) := Decidable.of_not_not h.2
      have hi : (j - 1) / 2 < l.length := by omega
      have hij : (j - 1) / 2 < j := by omega
      have e := swp_length l ((j - 1) / 2) j
      rw [← e]
      refine siftUk_heap f _ _ (by rw [e]; exact hi) (by omega) ?_ ?_
      · intro k hk0 hkn hki
        rw [e] at hkn
        rw [swp_at l hi hj, swp_at l hi hj]
        by_cases hkj : k = j
        · subst hkj
          rw [if_neg (by omega), if_pos rfl, if_pos rfl]
          omega
        · rw [if_neg hkj, if_neg hki]
          by_cases hpj : (k - 1) / 2 = j
          · rw [if_pos hpj]
            exact h2 (by omega) k hk0 hkn hpj
          · rw [if_neg hpj]
            by_cases hpi : (k - 1) / 2 = (j - 1) / 2
            · rw [if_pos hpi]
              have := h1 k hk0 hkn hkj
              rw [hpi] at this
              omega
            · rw [if_neg hpi]
              exact h1 k hk0 hkn hkj
      · intro hi0 k hk0 hkn hki
        rw [e] at hkn
        rw [swp_at l hi hj, swp_at l hi hj, if_neg (by omega), if_neg (by omega)]
        have g1 := h1 ((j - 1) / 2) hi0 hi (by omega)
        by_cases hkj : k = j
        · rw [if_pos hkj]
          exact g1
        · rw [if_neg hkj, if_neg (by omega)]
          have := h1 k hk0 hkn hkj
          rw [hki] at this
          omega
theorem heapk_root {κ : Int → Int} {n : Nat} {l : List Int} (h : Heapk κ 0 n l) : ∀ k, k < n → κ (l.getD 0 0) ≤ κ (l.getD k 0) := by
  intro k
  induction k using Nat.strongRecOn with
  | ind k ih =>
    intro hk
    by_cases h0 : k = 0
    · rw [h0]; omega
    · have h1 := h k (by omega) hk (Nat.zero_le _)
      have h2 := ih ((k - 1) / 2) (by omega) (by omega)
      omega
def initHk (κ : Int → Int) (l : List Int) : Nat → List Int
  | 0 => l
  | i + 1 => initHk κ (siftDk κ l.length l i l.length) i
theorem initHk_length {κ : Int → Int} (l : List Int) : ∀ i, (initHk κ l i).length = l.length := by
  intro i
  induction i generalizing l with
  | zero => rfl
  | succ i ih =>
    unfold initHk
    rw [ih, siftDk_length]
theorem initHk_perm {κ : Int → Int} (l : List Int) : ∀ i, (initHk κ l i).Perm l := by
  intro i
  induction i generalizing l with
  | zero => exact List.Perm.refl l
  | succ i ih =>
    unfold initHk
    exact (ih _).trans (siftDk_perm _ _ _ _ (Nat.le_refl _))
theorem initHk_heap {κ : Int → Int} : ∀ (i : Nat) (l : List Int), Heapk κ i l.length l → Heapk κ 0 l.length (initHk κ l i)
  | 0, l, h => h
  | i + 1, l, h => by
    unfold initHk
    have e := siftDk_length (κ := κ) l.length l i l.length
    have := initHk_heap i (siftDk κ l.length l i l.length) (by
      rw [e]
      refine siftDk_heap _ _ _ _ _ (Nat.le_refl _) (by omega) (fun k hk0 hkn hlo hne => h k hk0 hkn (by omega)) (fun h0 hlo => absurd hlo (by omega)))
    rw [e] at this
    exact this
end HeapK
end Go.Proofs.Ytnndkepnabddgaa
namespace Go.Proofs.Ytnndkepnabddgaa
set_option linter.unusedVariables false
namespace Tou
open HeapK
theorem countP_lt {α : Type} {p q : α → Bool} : ∀ {l : List α}, (∀ x ∈ l, p x = true → q x = true) → (∃ x ∈ l, q x = true ∧ p x = false) → l.countP p < l.countP q
  | [], _, h => by obtain ⟨x, hx, _⟩ := h; cases hx
  | a :: l, h, h' => by
    obtain ⟨x, hx, h1, h2⟩ := h'
    have hm : l.countP p ≤ l.countP q := List.countP_mono_left fun y hy => h y (List.mem_cons_of_mem _ hy)
    rw [List.countP_cons, List.countP_cons]
    rcases List.mem_cons.1 hx with rfl | hx
    · rw [h1, h2]
      simp only [if_true, Bool.false_eq_true, if_false]
      omega
    · have := countP_lt (l := l) (fun y hy => h y (List.mem_cons_of_mem _ hy)) ⟨x, hx, h1, h2⟩
      have ha := h a (List.mem_cons_self ..)
      cases hp : p a with
      | false => simp only [Bool.false_eq_true, if_false]; omega
      | true => rw [ha hp]; simp only [if_true]; omega
theorem nodup_sub {α : Type} [DecidableEq α] : ∀ (l m : List α), l.Nodup → (∀ x ∈ l, x ∈ m) → l.length ≤ m.length
  | [], m, _, _ => Nat.zero_le _
  | a :: l, m, hd, h => by
    have hm := h a (List.mem_cons_self ..)
    have h1 := nodup_sub l (m.erase a) (List.nodup_cons.1 hd).2 (fun x hx => (List.mem_erase_of_ne (fun e : x = a => (List.nodup_cons.1 hd).1 (by rw [← e]; exact hx))).2 (h x (List.mem_cons_of_mem _ hx)))
    rw [List.length_erase_of_mem hm] at h1
    have := List.length_pos_of_mem hm
    simp only [List.length_cons]
    omega
theorem nodup_map {α β : Type} {f : α → β} : ∀ {l : List α}, l.Nodup → (∀ x ∈ l, ∀ y ∈ l, f x = f y → x = y) → (l.map f).Nodup
  | [], _, _ => List.nodup_nil
  | a :: l, hd, h => by
    rw [List.map_cons, List.nodup_cons]
    rw [List.nodup_cons] at hd
    refine ⟨fun hm => ?_, nodup_map hd.2 fun x hx y hy => h x (List.mem_cons_of_mem _ hx) y (List.mem_cons_of_mem _ hy)⟩
    obtain ⟨y, hy, e⟩ := List.mem_map.1 hm
    have := h y (List.mem_cons_of_mem _ hy) a (List.mem_cons_self ..) e
    subst this
    exact hd.1 hy
structure Ord (R : Nat → Nat → Bool) : Prop where
  irr : ∀ a, R a a = false
  tr : ∀ {a b c}, R a b = true → R b c = true → R a c = true
  tot : ∀ {a b}, a ≠ b → R a b = false → R b a = true
def pos (R : Nat → Nat → Bool) (n i : Nat) : Nat := (List.range n).countP fun j => R j i
variable {R : Nat → Nat → Bool}
theorem Ord.asym (h : Ord R) {a b : Nat} (k : R a b = true) : R b a = false := by
  cases k2 : R b a with
  | false => rfl
  | true =>
    have := h.tr k k2
    rw [h.irr] at this
    cases this
theorem Ord.pos_lt (h : Ord R) {n a b : Nat} (ha : a < n) (k : R a b = true) : pos R n a < pos R n b :=
  countP_lt (fun x _ hx => h.tr hx k) ⟨a, List.mem_range.2 ha, k, h.irr a⟩
theorem Ord.lt_iff (h : Ord R) {n a b : Nat} (ha : a < n) (hb : b < n) : pos R n a < pos R n b ↔ R a b = true := by
  constructor
  · intro k
    cases e : R a b with
    | true => rfl
    | false =>
      by_cases hab : a = b
      · subst hab; omega
      · have := h.pos_lt hb (h.tot hab e)
        omega
  · exact h.pos_lt ha
theorem Ord.inj (h : Ord R) {n a b : Nat} (ha : a < n) (hb : b < n) (e : pos R n a = pos R n b) : a = b := by
  apply Decidable.byContradiction
  intro hne
  cases k : R a b with
  | true => have := h.pos_lt ha k; omega
  | false => have := h.pos_lt hb (h.tot hne k); omega
def kap (R : Nat → Nat → Bool) (n : Nat) (x : Int) : Int := -((pos R n x.toNat : Nat) : Int)
theorem kap_lt {n : Nat} {x y : Int} : kap R n x < kap R n y ↔ pos R n y.toNat < pos R n x.toNat := by unfold kap; omega
theorem kap_le {n : Nat} {x y : Int} : kap R n x ≤ kap R n y ↔ pos R n y.toNat ≤ pos R n x.toNat := by unfold kap; omega
theorem getD_el {l : List Int} {j : Nat} (h : j < l.length) : l.getD j 0 = l[j] := by simp [List.getD, h]
theorem root_last {n : Nat} {l : List Int} (h : Heapk (kap R n) 0 l.length l) : ∀ x ∈ l, pos R n x.toNat ≤ pos R n (l.getD 0 0).toNat := by
  intro x hx
  obtain ⟨j, hj, rfl⟩ := List.getElem_of_mem hx
  have := heapk_root h j hj
  rw [kap_le, getD_el hj] at this
  exact this
structure In1 (R : Nat → Nat → Bool) (n i k : Nat) (l : List Int) : Prop where
  nd : l.Nodup
  el : ∀ x ∈ l, 0 ≤ x ∧ x < (i : Int)
  hp : Heapk (kap R n) 0 l.length l
  ln : l.length = min i k
  ou : ∀ y : Int, 0 ≤ y → y < (i : Int) → y ∈ l ∨ (l.length = k ∧ ∀ x ∈ l, pos R n x.toNat < pos R n y.toNat)
theorem In1.nil (k : Nat) (n : Nat) : In1 R n 0 k [] :=
  ⟨List.nodup_nil, (fun x hx => by cases hx), (fun k h1 h2 => absurd h2 (by simp)), by simp, fun y h0 h1 => absurd h1 (by omega)⟩
theorem In1.add {n i k : Nat} {l : List Int} (h : In1 R n i k l) (hlt : l.length < k) : In1 R n (i + 1) k (siftUk (kap R n) (l.length + 1) (l ++ [(i : Int)]) l.length) := by
  have hl : (l ++ [(i : Int)]).length = l.length + 1 := by simp
  have hat : ∀ k, k < l.length → (l ++ [(i : Int)]).getD k 0 = l.getD k 0 := fun k hk => by simp only [List.getD, List.getElem?_append_left hk]
  have hP := siftUk_perm (κ := kap R n) (l.length + 1) (l ++ [(i : Int)]) l.length (by omega)
  have hi : (i : Int) ∉ l := fun hm => by have := (h.el _ hm).2; omega
  have hm : ∀ x, x ∈ siftUk (kap R n) (l.length + 1) (l ++ [(i : Int)]) l.length ↔ x ∈ l ∨ x = (i : Int) := fun x => by
    rw [hP.mem_iff, List.mem_append, List.mem_singleton]
  have hln := h.ln
  refine ⟨?_, ?_, ?_, ?_, ?_⟩
  · rw [hP.nodup_iff, List.nodup_append]
    refine ⟨h.nd, by simp, fun a ha b hb e => ?_⟩
    rw [List.mem_singleton] at hb
    subst hb
    subst e
    exact hi ha
  · intro x hx
    rcases (hm x).1 hx with hx | rfl
    · have := h.el x hx; omega
    · omega
  · rw [siftUk_length]
    refine siftUk_heap _ _ _ (by omega) (by omega) (fun k hk0 hkn hne => ?_) (fun hj0 k hk0 hkn hp => ?_)
    · rw [hl] at hkn
      rw [hat _ (by omega), hat _ (by omega)]
      exact h.hp k hk0 (by omega) (Nat.zero_le _)
    · rw [hl] at hkn
      omega
  · rw [siftUk_length, hl]
    omega
  · intro y h0 hy
    refine .inl ((hm y).2 ?_)
    by_cases hyi : y = (i : Int)
    · exact .inr hyi
    · rcases h.ou y h0 (by omega) with k | ⟨k, _⟩
      · exact .inl k
      · omega
theorem mem_put {l : List Int} {v x : Int} (hd : l.Nodup) (hpos : 0 < l.length) : x ∈ l.set 0 v ↔ (x ∈ l ∧ x ≠ l.getD 0 0) ∨ x = v := by
  cases l with
  | nil => exact absurd hpos (by simp)
  | cons a l =>
    rw [List.nodup_cons] at hd
    rw [show (a :: l).getD 0 0 = a from rfl, List.set_cons_zero, List.mem_cons, List.mem_cons]
    constructor
    · rintro (h | h)
      · exact .inr h
      · exact .inl ⟨.inr h, fun e => hd.1 (e ▸ h)⟩
    · rintro (⟨h | h, h2⟩ | h)
      · exact absurd h h2
      · exact .inr h
      · exact .inl h
theorem nodup_put {l : List Int} {v : Int} (hd : l.Nodup) (hv : v ∉ l) : (l.set 0 v).Nodup := by
  cases l with
  | nil => simp
  | cons a l =>
    rw [List.nodup_cons] at hd
    rw [List.set_cons_zero, List.nodup_cons]
    exact ⟨fun h => hv (List.mem_cons_of_mem _ h), hd.2⟩
theorem getD_mem {l : List Int} {j : Nat} (h : j < l.length) : l.getD j 0 ∈ l := by rw [getD_el h]; exact List.getElem_mem _
theorem In1.put {n i k : Nat} {l : List Int} (hR : Ord R) (h : In1 R n i k l) (hin : i < n) (hk : l.length = k) (hk0 : 0 < k) (ha : R i (l.getD 0 0).toNat = true) : In1 R n (i + 1) k (siftDk (kap R n) l.length (l.set 0 (i : Int)) 0 l.length) := by
  have hpos : 0 < l.length := by omega
  have hP := siftDk_perm (κ := kap R n) l.length (l.set 0 (i : Int)) 0 l.length (by simp)
  have hi : (i : Int) ∉ l := fun hm => by have := (h.el _ hm).2; omega
  have hm : ∀ x, x ∈ siftDk (kap R n) l.length (l.set 0 (i : Int)) 0 l.length ↔ (x ∈ l ∧ x ≠ l.getD 0 0) ∨ x = (i : Int) := fun x => by rw [hP.mem_iff, mem_put h.nd hpos]
  have hr := root_last h.hp
  have hrm := getD_mem hpos
  have hrn := h.el _ hrm
  have hlt : pos R n i < pos R n (l.getD 0 0).toNat := hR.pos_lt hin ha
  have hln := h.ln
  have hL : (siftDk (kap R n) l.length (l.set 0 (i : Int)) 0 l.length).length = l.length := by rw [siftDk_length, List.length_set]
  have hlow : ∀ x, x ∈ siftDk (kap R n) l.length (l.set 0 (i : Int)) 0 l.length → pos R n x.toNat < pos R n (l.getD 0 0).toNat := by
    intro x hx
    rcases (hm x).1 hx with ⟨hx, hne⟩ | rfl
    · have h1 := hr x hx
      have h2 := h.el x hx
      rcases Nat.lt_or_eq_of_le h1 with h1 | h1
      · exact h1
      · have := hR.inj (n := n) (a := x.toNat) (b := (l.getD 0 0).toNat) (by omega) (by omega) h1
        omega
    · rw [Int.toNat_natCast]; exact hlt
  refine ⟨?_, ?_, ?_, ?_, ?_⟩
  · rw [hP.nodup_iff]
    exact nodup_put h.nd hi
  · intro x hx
    rcases (hm x).1 hx with ⟨hx, _⟩ | rfl
    · have := h.el x hx; omega
    · omega
  · rw [hL]
    refine siftDk_heap _ _ _ _ _ (by simp) (by omega) (fun k hk0 hkn _ hne => ?_) (fun h0 => absurd h0 (by omega))
    rw [getD_set _ _ _ _ hpos, getD_set _ _ _ _ hpos, if_neg (by omega), if_neg (by omega)]
    exact h.hp k hk0 (by omega) (Nat.zero_le _)
  · rw [hL]
    omega
  · intro y h0 hy
    by_cases hyi : y = (i : Int)
    · exact .inl ((hm y).2 (.inr hyi))
    · by_cases hyr : y = l.getD 0 0
      · refine .inr ⟨by rw [hL]; exact hk, fun x hx => ?_⟩
        rw [hyr]
        exact hlow x hx
      · rcases h.ou y h0 (by omega) with k | ⟨k1, k2⟩
        · exact .inl ((hm y).2 (.inl ⟨k, hyr⟩))
        · refine .inr ⟨by rw [hL]; exact hk, fun x hx => ?_⟩
          have := hlow x hx
          have := k2 _ hrm
          omega
theorem In1.skip {n i k : Nat} {l : List Int} (hR : Ord R) (h : In1 R n i k l) (hin : i < n) (hk : l.length = k) (hk0 : 0 < k) (ha : R i (l.getD 0 0).toNat = false) : In1 R n (i + 1) k l := by
  have hpos : 0 < l.length := by omega
  have hrm := getD_mem hpos
  have hrn := h.el _ hrm
  have hr := root_last h.hp
  have hln := h.ln
  have hlt : pos R n (l.getD 0 0).toNat < pos R n i := hR.pos_lt (by omega) (hR.tot (by omega) ha)
  refine ⟨h.nd, fun x hx => ?_, h.hp, by omega, fun y h0 hy => ?_⟩
  · have := h.el x hx; omega
  · by_cases hyi : y = (i : Int)
    · subst hyi
      refine .inr ⟨hk, fun x hx => ?_⟩
      have := hr x hx
      rw [Int.toNat_natCast]
      omega
    · exact h.ou y h0 (by omega)
structure In2 (R : Nat → Nat → Bool) (n q : Nat) (l : List Int) : Prop where
  nd : l.Nodup
  el : ∀ x ∈ l, 0 ≤ x ∧ x < (n : Int) ∧ pos R n x.toNat < q
  hp : Heapk (kap R n) 0 l.length l
  ln : l.length = q
theorem In1.last {n k : Nat} {l : List Int} (hR : Ord R) (h : In1 R n n k l) : In2 R n l.length l := by
  refine ⟨h.nd, fun x hx => ?_, h.hp, rfl⟩
  have hx2 := h.el x hx
  refine ⟨hx2.1, hx2.2, ?_⟩
  have h1 : pos R n x.toNat = ((List.range n).filter fun j => R j x.toNat).length := List.countP_eq_length_filter ..
  rw [h1]
  have h2 : (((List.range n).filter fun j => R j x.toNat).map fun j : Nat => (j : Int)).length ≤ (l.erase x).length := by
    refine nodup_sub _ _ (nodup_map (List.nodup_range.filter _) fun a _ b _ e => by omega) fun y hy => ?_
    obtain ⟨j, hj, rfl⟩ := List.mem_map.1 hy
    rw [List.mem_filter, List.mem_range] at hj
    have hjx : (j : Int) ≠ x := fun e => by
      have := hj.2
      rw [← e, Int.toNat_natCast, hR.irr] at this
      cases this
    rw [List.mem_erase_of_ne hjx]
    rcases h.ou (j : Int) (by omega) (by omega) with k | ⟨_, k⟩
    · exact k
    · have k1 := k x hx
      have k2 := hR.pos_lt (n := n) hj.1 hj.2
      rw [Int.toNat_natCast] at k1
      omega
  rw [List.length_map, List.length_erase_of_mem hx] at h2
  have := List.length_pos_of_mem hx
  omega
theorem In2.pop {n q : Nat} {l : List Int} (hR : Ord R) (h : In2 R n (q + 1) l) :
    (0 ≤ l.getD 0 0 ∧ l.getD 0 0 < (n : Int) ∧ pos R n (l.getD 0 0).toNat = q) ∧ In2 R n q ((siftDk (kap R n) l.length (swp l 0 (l.length - 1)) 0 (l.length - 1)).take (l.length - 1)) := by
  have hln := h.ln
  have hpos : 0 < l.length := by omega
  have hrm := getD_mem hpos
  have hre := h.el _ hrm
  have hr := root_last h.hp
  have hq : q + 1 ≤ pos R n (l.getD 0 0).toNat + 1 := by
    have hnd : (l.map fun x : Int => pos R n x.toNat).Nodup := nodup_map h.nd fun x hx y hy e => by
      have h1 := h.el x hx
      have h2 := h.el y hy
      have := hR.inj (n := n) (by omega) (by omega) e
      omega
    have := nodup_sub (l.map fun x : Int => pos R n x.toNat) (List.range (pos R n (l.getD 0 0).toNat + 1)) hnd (fun y hy => by
      obtain ⟨x, hx, rfl⟩ := List.mem_map.1 hy
      have := hr x hx
      rw [List.mem_range]
      omega)
    rw [List.length_map, List.length_range] at this
    omega
  have hpq : pos R n (l.getD 0 0).toNat = q := by omega
  refine ⟨⟨hre.1, hre.2.1, hpq⟩, ?_⟩
  have hl : (siftDk (kap R n) l.length (swp l 0 (l.length - 1)) 0 (l.length - 1)).length = l.length := by rw [siftDk_length, swp_length]
  have hpm : (siftDk (kap R n) l.length (swp l 0 (l.length - 1)) 0 (l.length - 1)).Perm l := (siftDk_perm _ _ _ _ (by rw [swp_length]; omega)).trans (swp_perm l hpos (by omega))
  have hlast : (siftDk (kap R n) l.length (swp l 0 (l.length - 1)) 0 (l.length - 1)).getD (l.length - 1) 0 = l.getD 0 0 := by
    rw [siftDk_past _ _ _ _ (by rw [swp_length]; omega) _ (Nat.le_refl _), swp_at l hpos (by omega), if_pos rfl]
  have hheap : Heapk (kap R n) 0 (l.length - 1) (siftDk (kap R n) l.length (swp l 0 (l.length - 1)) 0 (l.length - 1)) := by
    refine siftDk_heap _ _ _ _ _ (by rw [swp_length]; omega) (by omega) (fun k hk0 hkn _ hne => ?_) (fun h0 => absurd h0 (by omega))
    rw [swp_at l hpos (by omega), swp_at l hpos (by omega), if_neg (by omega), if_neg hne, if_neg (by omega), if_neg (by omega)]
    exact h.hp k hk0 (by omega) (Nat.zero_le _)
  generalize siftDk (kap R n) l.length (swp l 0 (l.length - 1)) 0 (l.length - 1) = F at *
  obtain ⟨r, hrr⟩ : ∃ r, r = l.getD 0 0 := ⟨_, rfl⟩
  rw [← hrr] at hlast hrm hre hr hpq
  have e : F = F.take (l.length - 1) ++ [r] := by
    conv => lhs; rw [← List.take_append_drop (l.length - 1) F]
    congr 1
    rw [List.drop_eq_getElem_cons (by omega), List.drop_eq_nil_of_le (by omega)]
    congr 1
    exact (getD_el _).symm.trans hlast
  have hnF : F.Nodup := hpm.nodup_iff.2 h.nd
  have hlt : (F.take (l.length - 1)).length = l.length - 1 := by rw [List.length_take]; omega
  rw [e, List.nodup_append] at hnF
  refine ⟨hnF.1, fun x hx => ?_, ?_, by omega⟩
  · have hxl : x ∈ l := by rw [← hpm.mem_iff, e]; exact List.mem_append_left _ hx
    have h1 := h.el x hxl
    refine ⟨h1.1, h1.2.1, ?_⟩
    have hne : x ≠ r := hnF.2.2 x hx r (by simp)
    have : pos R n x.toNat ≠ q := fun ee => by
      have := hR.inj (n := n) (a := x.toNat) (b := r.toNat) (by omega) (by omega) (by omega)
      omega
    omega
  · intro k hk0 hkn hlo
    rw [hlt] at hkn
    have := hheap k hk0 (by omega) hlo
    have t : ∀ j, j < l.length - 1 → (F.take (l.length - 1)).getD j 0 = F.getD j 0 := fun j hj => by
      simp only [List.getD, List.getElem?_take, if_pos hj]
    rw [t _ (by omega), t _ (by omega)]
    exact this
def Firsts (R : Nat → Nat → Bool) (n m : Nat) (o : List Int) : Prop := o.length = m ∧ ∀ j, j < m → 0 ≤ o.getD j 0 ∧ o.getD j 0 < (n : Int) ∧ pos R n (o.getD j 0).toNat = j
theorem Firsts.unique {n m : Nat} {a b : List Int} (hR : Ord R) (ha : Firsts R n m a) (hb : Firsts R n m b) : a = b := by
  apply List.ext_getElem (by rw [ha.1, hb.1])
  intro j h1 h2
  have k1 := ha.2 j (by rw [← ha.1]; exact h1)
  have k2 := hb.2 j (by rw [← hb.1]; exact h2)
  rw [getD_el h1] at k1
  rw [getD_el h2] at k2
  have := hR.inj (n := n) (a := (a[j]).toNat) (b := (b[j]).toNat) (by omega) (by omega) (by omega)
  omega
end Tou
end Go.Proofs.Ytnndkepnabddgaa
namespace Go.Proofs.Ytnndkepnabddgaa
set_option linter.unusedVariables false
open Odr
namespace Tou
theorem lessB_irr : ∀ u : List Int, lessB u u = false
  | [] => rfl
  | a :: u => by
    show (if a ≠ a then _ else lessB u u) = false
    rw [if_neg (fun h => h rfl)]
    exact lessB_irr u
theorem lessB_tr : ∀ {u v x : List Int}, lessB u v = true → lessB v x = true → lessB u x = true
  | _, _, [], _, h => by rw [lessB_nil] at h; cases h
  | _, [], _ :: _, h, _ => by rw [lessB_nil] at h; cases h
  | [], _ :: _, _ :: _, _, _ => rfl
  | a :: u, b :: v, c :: x, h1, h2 => by
    have e1 : (if a ≠ b then decide (a < b) else lessB u v) = true := h1
    have e2 : (if b ≠ c then decide (b < c) else lessB v x) = true := h2
    show (if a ≠ c then decide (a < c) else lessB u x) = true
    by_cases k1 : a = b
    · subst k1
      rw [if_neg (fun h => h rfl)] at e1
      by_cases k2 : a = c
      · subst k2
        rw [if_neg (fun h => h rfl)] at e2 ⊢
        exact lessB_tr e1 e2
      · rw [if_pos k2] at e2 ⊢
        exact e2
    · rw [if_pos k1] at e1
      have e1 := of_decide_eq_true e1
      by_cases k2 : b = c
      · subst k2
        rw [if_pos k1]
        exact decide_eq_true e1
      · rw [if_pos k2] at e2
        have e2 := of_decide_eq_true e2
        rw [if_pos (by omega)]
        exact decide_eq_true (by omega)
theorem lessB_tot : ∀ {u v : List Int}, lessB u v = false → lessB v u = false → u = v
  | [], [], _, _ => rfl
  | [], _ :: _, h, _ => by cases h
  | _ :: _, [], _, h => by cases h
  | a :: u, b :: v, h1, h2 => by
    have e1 : (if a ≠ b then decide (a < b) else lessB u v) = false := h1
    have e2 : (if b ≠ a then decide (b < a) else lessB v u) = false := h2
    by_cases k : a = b
    · subst k
      rw [if_neg (fun h => h rfl)] at e1 e2
      rw [lessB_tot e1 e2]
    · rw [if_pos k] at e1
      rw [if_pos (fun h => k h.symm)] at e2
      have e1 := of_decide_eq_false e1
      have e2 := of_decide_eq_false e2
      omega
def ahL (l : List (List Int)) (a b : Nat) : Bool := lessB (l.getD a []) (l.getD b []) || (!lessB (l.getD b []) (l.getD a []) && decide (a < b))
theorem ahL_iff (l : List (List Int)) (a b : Nat) : ahL l a b = true ↔ lessB (l.getD a []) (l.getD b []) = true ∨ (l.getD a [] = l.getD b [] ∧ a < b) := by
  unfold ahL
  cases k1 : lessB (l.getD a []) (l.getD b []) with
  | true => simp
  | false =>
    cases k2 : lessB (l.getD b []) (l.getD a []) with
    | true =>
      simp only [Bool.false_or, Bool.not_true, Bool.false_and, Bool.false_eq_true, false_or, false_iff]
      rintro ⟨e, _⟩
      rw [e, lessB_irr] at k2
      cases k2
    | false =>
      have e := lessB_tot k1 k2
      simp only [Bool.false_or, Bool.not_false, Bool.true_and, decide_eq_true_eq, Bool.false_eq_true, false_or]
      exact ⟨fun h => ⟨e, h⟩, fun h => h.2⟩
theorem ahL_ord (l : List (List Int)) : Ord (ahL l) := by
  refine ⟨fun a => ?_, fun {a b c} h1 h2 => ?_, fun {a b} hne h => ?_⟩
  · cases k : ahL l a a with
    | false => rfl
    | true =>
      rcases (ahL_iff l a a).1 k with h | ⟨_, h⟩
      · rw [lessB_irr] at h; cases h
      · omega
  · rw [ahL_iff] at h1 h2 ⊢
    rcases h1 with h1 | ⟨h1, k1⟩
    · rcases h2 with h2 | ⟨h2, k2⟩
      · exact .inl (lessB_tr h1 h2)
      · rw [← h2]; exact .inl h1
    · rcases h2 with h2 | ⟨h2, k2⟩
      · rw [h1]; exact .inl h2
      · exact .inr ⟨h1.trans h2, by omega⟩
  · rw [ahL_iff]
    have h1 : ¬ (lessB (l.getD a []) (l.getD b []) = true ∨ (l.getD a [] = l.getD b [] ∧ a < b)) := fun k => by
      rw [(ahL_iff l a b).2 k] at h; cases h
    rw [not_or] at h1
    cases k : lessB (l.getD b []) (l.getD a []) with
    | true => exact .inl rfl
    | false =>
      have e := lessB_tot (by simpa using h1.1) k
      refine .inr ⟨e.symm, ?_⟩
      have : ¬ a < b := fun hh => h1.2 ⟨e, hh⟩
      omega
structure Srt (R : Nat → Nat → Bool) (i : Nat) (Q : List Nat) : Prop where
  pm : Q.Perm (List.range i)
  pw : Q.Pairwise fun a b => R a b = true
variable {R : Nat → Nat → Bool}
theorem Srt.nil : Srt R 0 [] := ⟨List.Perm.refl _, List.Pairwise.nil⟩
theorem Srt.len {i : Nat} {Q : List Nat} (h : Srt R i Q) : Q.length = i := by rw [h.pm.length_eq, List.length_range]
theorem Srt.el {i : Nat} {Q : List Nat} (h : Srt R i Q) : ∀ x ∈ Q, x < i := fun x hx => List.mem_range.1 (h.pm.mem_iff.1 hx)
theorem Srt.put {i a : Nat} {Q : List Nat} (hR : Ord R) (h : Srt R i Q) (ha : a ≤ Q.length) (h1 : ∀ j, j < a → R i (Q.getD j 0) = false) (h2 : a < Q.length → R i (Q.getD a 0) = true) : Srt R (i + 1) (Q.take a ++ i :: Q.drop a) := by
  have hpw := h.pw
  rw [← List.take_append_drop a Q, List.pairwise_append] at hpw
  have t1 : ∀ x ∈ Q.take a, R x i = true := fun x hx => by
    obtain ⟨j, hj, rfl⟩ := List.getElem_of_mem hx
    rw [List.length_take] at hj
    have k := h1 j (by omega)
    have hm := h.el _ (List.mem_of_mem_take hx)
    rw [List.getElem_take] at hm ⊢
    have hj2 : j < Q.length := by omega
    rw [List.getD, List.getElem?_eq_getElem hj2] at k
    exact hR.tot (by omega) k
  have t2 : ∀ y ∈ Q.drop a, R i y = true := fun y hy => by
    by_cases hlt : a < Q.length
    · have k := h2 hlt
      rw [List.getD, List.getElem?_eq_getElem hlt] at k
      have e := List.drop_eq_getElem_cons hlt
      rw [e] at hy
      have hp := hpw.2.1
      rw [e, List.pairwise_cons] at hp
      rcases List.mem_cons.1 hy with rfl | hy
      · exact k
      · exact hR.tr k (hp.1 _ hy)
    · rw [List.drop_eq_nil_of_le (by omega)] at hy
      cases hy
  refine ⟨?_, ?_⟩
  · refine List.perm_middle.trans ?_
    rw [List.take_append_drop, List.range_succ]
    exact (h.pm.cons i).trans (List.perm_append_singleton _ _).symm
  · rw [List.pairwise_append, List.pairwise_cons]
    refine ⟨hpw.1, ⟨t2, hpw.2.1⟩, fun x hx y hy => ?_⟩
    rcases List.mem_cons.1 hy with rfl | hy
    · exact t1 x hx
    · exact hpw.2.2 x hx y hy
theorem Srt.pos {n : Nat} {Q : List Nat} (hR : Ord R) (h : Srt R n Q) {j : Nat} (hj : j < Q.length) : pos R n Q[j] = j := by
  unfold Tou.pos
  rw [← h.pm.countP_eq]
  have e : Q = Q.take j ++ Q[j] :: Q.drop (j + 1) := by
    conv => lhs; rw [← List.take_append_drop j Q]
    rw [List.drop_eq_getElem_cons hj]
  have hpw := h.pw
  generalize hx : Q[j] = x at *
  rw [e, List.pairwise_append, List.pairwise_cons] at hpw
  rw [e, List.countP_append, List.countP_cons, List.countP_eq_length.2 (fun y hy => hpw.2.2 y hy x (List.mem_cons_self ..)), List.countP_eq_zero.2 (fun y hy => by rw [hR.asym (hpw.2.1.1 y hy)]; decide)]
  rw [hR.irr, List.length_take]
  simp only [Bool.false_eq_true, if_false]
  omega
end Tou
end Go.Proofs.Ytnndkepnabddgaa
