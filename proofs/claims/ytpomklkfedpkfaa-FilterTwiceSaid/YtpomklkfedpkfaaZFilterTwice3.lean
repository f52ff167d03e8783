import Derived.Test.YtpomklkfedpkfaaZFilterTwice2
/-
  What the law leans on, part 3: WCelD, WCelF, WDiffA, WCelB, WCelK, WExaC, DifPlain, WCelG, PatPlain, WCelI, WExaD, WCelL, HeapPlain, SrtPlain, NrmPlain, SrtI, SrtIB.
-/
namespace Go.Proofs.Ytpomklkfedpkfaa
set_option maxRecDepth 100000
open Go.RowKit H
open Flo
set_option linter.unusedVariables false
theorem rsame02 (A1 : Option Addr) (n1 c1 : Nat) (A2 : Option Addr) (n2 c2 : Nat) (l1 l2 : List (Int)) (w : World) {N : Nat} (h1 : Reads w N 1 A1 n1 (nums .u32 l1)) (h2 : Reads w N 1 A2 n2 (nums .u32 l2)) (g1 : l1.length = n1) (g2 : l2.length = n2) (hn1 : n1 ≤ maxLen) (hn2 : n2 ≤ maxLen) (hN : N ≤ w.heap.size) :
    Calls Try.prog 48 #[.slice A1 n1 c1, .slice A2 n2 c2] w fun e w' => e = .returned (.bool (decide (l1 = l2))) ∧ Ext w w' := by
  unfold maxLen at hn1 hn2
  refine enter Try.func48 rfl (by kernel_rfl) ?_
  refine J.seq ?_
  refine J.region ?_
  refine L.va rfl (X.assign (by conv => lhs; whnf)) ?_
  refine L.nil ?_
  refine J.seq ?_
  refine J.seq ?_
  refine J.region ?_
  refine L.va rfl (X.move (by conv => lhs; whnf)) ?_
  refine L.va rfl (X.len rfl Try.underlying45) ?_
  refine L.va rfl (X.move (by conv => lhs; whnf)) ?_
  refine L.va rfl (X.len rfl Try.underlying45) ?_
  refine L.va rfl (X.neq rfl rfl) ?_
  refine L.nil ?_
  refine J.ndec rfl (fun hne => ?_) (fun hne => ?_)
  · rw [show decide (l1 = l2) = false from decide_eq_false (fun e => by rw [e] at g1; omega)]
    refine J.seq ?_
    refine J.region ?_
    refine L.va rfl (X.assign (by conv => lhs; whnf)) ?_
    refine L.nil ?_
    refine J.ret ?_
    refine thn_ret <| ?_
    refine fin1 ?_
    exact ⟨rfl, Ext.refl _⟩
  · obtain rfl : n1 = n2 := by omega
    refine J.skip ?_
    refine J.seq ?_
    refine J.seq ?_
    refine J.region ?_
    refine L.va rfl (X.assign (by conv => lhs; whnf)) ?_
    refine L.nil ?_
    refine J.block ?_
    refine J.loop (X := Nat) [4, 5, 11, 12, 13, 14, 15, 16, 17, 18, 19, 20, 21, 22, 23, 24, 25] (fun i => [(5, .int .i64 (i : Int))]) (fun i w' => i ≤ n1 ∧ (∀ j, j < i → l1.getD j 0 = l2.getD j 0) ∧ Ext w w') (fun i => n1 - i) (0) (At1 (by first | rfl | exact at_int rfl (by omega) | exact at_slice rfl (by omega) | exact at_int rfl (by simp))) ?_ ?_
    · exact ⟨by omega, fun j hj => absurd hj (by omega), Ext.refl _⟩
    · rintro i g w2 ⟨hi, hP, he⟩
      have k1 := h1.ext he
      have k2 := h2.ext he
      refine J.seq ?_
      refine J.seq ?_
      refine J.region ?_
      refine L.va rfl (X.move (by conv => lhs; whnf)) ?_
      refine L.va rfl (X.move (by conv => lhs; whnf)) ?_
      refine L.va rfl (X.len rfl Try.underlying45) ?_
      refine L.va rfl (X.lss rfl rfl) ?_
      refine L.nil ?_
      refine J.dec rfl (fun hlt => ?_) (fun hlt => ?_)
      · have hi1 : i < l1.length := by omega
        have hi2 : i < l2.length := by omega
        refine J.skip ?_
        refine J.seq ?_
        refine J.block ?_
        refine J.seq ?_
        refine J.quiet mixed (by kernel_rfl) ?_
        refine Qt.va rfl (fun w' hw => X.move (by conv => lhs; whnf)) ?_
        refine Qt.va rfl (fun w' hw => X.move (by conv => lhs; whnf)) ?_
        refine Qt.va rfl (fun w' hw => (by first | exact X.index1n rfl rfl Try.underlying45 sz_53 (by first | exact Option.some_ne_none _ | exact k1.some_ (by omega) | exact k2.some_ (by omega)) (by omega) | exact X.index1 rfl rfl Try.underlying45 sz_53 (by first | exact Option.some_ne_none _ | exact k1.some_ (by omega) | exact k2.some_ (by omega)) (by omega))) ?_
        refine Qt.va rfl (fun w' hw => X.load rfl sc_53 (by first | exact Ld.num (k1.ext hw) (by omega) | exact Ld.num (k2.ext hw) (by omega))) ?_
        refine Qt.va rfl (fun w' hw => X.move (by conv => lhs; whnf)) ?_
        refine Qt.va rfl (fun w' hw => X.move (by conv => lhs; whnf)) ?_
        refine Qt.va rfl (fun w' hw => (by first | exact X.index1n rfl rfl Try.underlying45 sz_53 (by first | exact Option.some_ne_none _ | exact k1.some_ (by omega) | exact k2.some_ (by omega)) (by omega) | exact X.index1 rfl rfl Try.underlying45 sz_53 (by first | exact Option.some_ne_none _ | exact k1.some_ (by omega) | exact k2.some_ (by omega)) (by omega))) ?_
        refine Qt.va rfl (fun w' hw => X.load rfl sc_53 (by first | exact Ld.num (k1.ext hw) (by omega) | exact Ld.num (k2.ext hw) (by omega))) ?_
        refine Qt.va rfl (fun w' hw => X.neq rfl rfl) ?_
        refine Qt.nil (fun w3 hq => ?_)
        replace k1 := k1.ext hq
        replace k2 := k2.ext hq
        by_cases hd : l1.getD i 0 = l2.getD i 0
        · refine J.ndecF rfl (by simpa using hd) ?_
          refine J.skip ?_
          refine J.region ?_
          refine L.va rfl (X.move (by conv => lhs; whnf)) ?_
          refine L.va rfl (X.add rfl rfl (by omega)) ?_
          refine L.va rfl (X.assign (by conv => lhs; whnf)) ?_
          refine L.nil ?_
          refine ⟨i + 1, At1 (by first | rfl | exact at_int rfl (by omega) | exact at_slice rfl (by omega) | exact at_int rfl (by simp)), (by (iterate 16 refine Agr.lk rfl ?_); exact Agr.lk rfl (Agr.hav rfl Agr.rfl')), ?_⟩
          refine ⟨⟨by omega, fun j hj => ?_, he.trans hq⟩, by omega⟩
          rcases Nat.lt_or_ge j i with h | h
          · exact hP j h
          · obtain rfl : j = i := by omega
            exact hd
        · rw [show decide (l1 = l2) = false from decide_eq_false (lst_ne 0 hd)]
          refine J.ndecT rfl (by simpa using hd) ?_
          refine J.seq ?_
          refine J.region ?_
          refine L.va rfl (X.assign (by conv => lhs; whnf)) ?_
          refine L.nil ?_
          refine J.ret ?_
          refine inB_ret <|  thn_ret <|  thn_ret <|  inB_ret <|  thn_ret <| ?_
          refine fin1 ?_
          exact ⟨rfl, he.trans hq⟩
      · rw [show decide (l1 = l2) = true from decide_eq_true (lst_eq 0 (by omega) (fun j hj => hP j (by omega)))]
        refine J.exit ?_
        refine J.seq ?_
        refine J.region ?_
        refine L.va rfl (X.assign (by conv => lhs; whnf)) ?_
        refine L.nil ?_
        refine J.ret ?_
        refine fin1 ?_
        exact ⟨rfl, he⟩
theorem rsame14 {x y : Ce} {w : World} {N : Nat} (hx : x.At N w) (hy : y.At N w) (hN : N ≤ w.heap.size) (hb : x.ni ≤ 1000000 ∧ x.nr ≤ 1000000) : Calls Try.prog 26 #[x.val, y.val] w fun e w' => e = .returned (.bool (sameC x.con y.con)) ∧ Ext w w' := by
  have z0 : (x.k : Int) = (y.k : Int) ↔ x.k = y.k := by omega
  have lxi := hx.li
  have lyi := hy.li
  have lxr := hx.lr
  have lyr := hy.lr
  refine enter Try.func26 rfl (by kernel_rfl) ?_
  refine J.seq ?_
  refine J.region ?_
  refine L.boxA (l := [_, _, _, _]) rfl rfl ?_
  intro b1 w1 hb1 hs1 hk1 he1
  refine L.boxA (l := [_, _, _, _]) rfl rfl ?_
  intro b2 w2 hb2 hs2 hk2 he2
  have hk12 := hk1.ext he2
  have he := he1.trans he2
  refine L.va rfl (X.assign (by conv => lhs; whnf)) ?_
  refine L.nil ?_
  refine J.seq ?_
  refine J.seq ?_
  refine J.region ?_
  refine L.va rfl (X.fieldAddr rfl Try.underlying61 rfl sz_36 (by decide)) ?_
  refine L.va rfl (X.load rfl sc_36 (by first | exact Ld.blk hk12 rfl | exact Ld.blk hk2 rfl)) ?_
  refine L.va rfl (X.fieldAddr rfl Try.underlying61 rfl sz_36 (by decide)) ?_
  refine L.va rfl (X.load rfl sc_36 (by first | exact Ld.blk hk12 rfl | exact Ld.blk hk2 rfl)) ?_
  refine L.va rfl (X.neq rfl rfl) ?_
  refine L.va rfl (X.move (by conv => lhs; whnf)) ?_
  refine L.caseNdec (k := 16) rfl (fun h1 => ?_) (fun h1 => ?_)
  · have e : sameC x.con y.con = false := by
      unfold sameC
      rw [show decide (x.con.k = y.con.k) = false from decide_eq_false (fun e => h1 (z0.2 e))]
      rfl
    rw [e]
    refine L.no rfl ?_
    refine L.no rfl ?_
    refine L.no rfl ?_
    refine L.no rfl ?_
    refine L.no rfl ?_
    refine L.va rfl (X.pickT rfl (by conv => lhs; whnf)) ?_
    refine L.va rfl (X.move (by conv => lhs; whnf)) ?_
    refine L.no rfl ?_
    refine L.no rfl ?_
    refine L.no rfl ?_
    refine L.no rfl ?_
    refine L.no rfl ?_
    refine L.no rfl ?_
    refine L.no rfl ?_
    refine L.va rfl (X.pickT rfl (by conv => lhs; whnf)) ?_
    refine L.va rfl (X.move (by conv => lhs; whnf)) ?_
    refine L.no rfl ?_
    refine L.no rfl ?_
    refine L.no rfl ?_
    refine L.no rfl ?_
    refine L.no rfl ?_
    refine L.no rfl ?_
    refine L.no rfl ?_
    refine L.va rfl (X.pickT rfl (by conv => lhs; whnf)) ?_
    refine L.nil ?_
    refine J.iteT rfl ?_
    refine J.seq ?_
    refine J.region ?_
    refine L.va rfl (X.assign (by conv => lhs; whnf)) ?_
    refine L.nil ?_
    refine J.ret ?_
    refine thn_ret <| ?_
    refine fin1 ?_
    exact ⟨rfl, he⟩
  · refine L.va rfl (X.fieldAddr rfl Try.underlying61 rfl sz_2 (by decide)) ?_
    refine L.va rfl (X.load rfl sc_2 (by first | exact Ld.blk hk12 rfl | exact Ld.blk hk2 rfl)) ?_
    refine L.va rfl (X.fieldAddr rfl Try.underlying61 rfl sz_2 (by decide)) ?_
    refine L.va rfl (X.load rfl sc_2 (by first | exact Ld.blk hk12 rfl | exact Ld.blk hk2 rfl)) ?_
    refine L.va rfl (X.neq rfl rfl) ?_
    refine L.va rfl (X.pickF rfl (by conv => lhs; whnf)) ?_
    refine L.va rfl (X.move (by conv => lhs; whnf)) ?_
    refine L.caseNdec (k := 23) rfl (fun h2 => ?_) (fun h2 => ?_)
    · have e : sameC x.con y.con = false := by
        unfold sameC
        rw [show decide (x.con.t = y.con.t) = false from decide_eq_false h2, Bool.false_and, Bool.and_false]
      rw [e]
      refine L.no rfl ?_
      refine L.no rfl ?_
      refine L.no rfl ?_
      refine L.no rfl ?_
      refine L.no rfl ?_
      refine L.no rfl ?_
      refine L.no rfl ?_
      refine L.va rfl (X.pickT rfl (by conv => lhs; whnf)) ?_
      refine L.va rfl (X.move (by conv => lhs; whnf)) ?_
      refine L.no rfl ?_
      refine L.no rfl ?_
      refine L.no rfl ?_
      refine L.no rfl ?_
      refine L.no rfl ?_
      refine L.no rfl ?_
      refine L.no rfl ?_
      refine L.va rfl (X.pickT rfl (by conv => lhs; whnf)) ?_
      refine L.nil ?_
      refine J.iteT rfl ?_
      refine J.seq ?_
      refine J.region ?_
      refine L.va rfl (X.assign (by conv => lhs; whnf)) ?_
      refine L.nil ?_
      refine J.ret ?_
      refine thn_ret <| ?_
      refine fin1 ?_
      exact ⟨rfl, he⟩
    · have h1 : (x.k : Int) = (y.k : Int) := h1
      have h2 : x.t = y.t := h2
      have e1 : sameC x.con y.con = (eqL sameW wc0 x.con.is y.con.is && eqL sameR rc0 x.con.rs y.con.rs) := by
        unfold sameC
        rw [decide_eq_true (show x.con.k = y.con.k from z0.1 h1), decide_eq_true (show x.con.t = y.con.t from h2)]
        rfl
      rw [e1]
      refine L.va rfl (X.fieldAddr rfl Try.underlying61 rfl sz_58 (by decide)) ?_
      refine L.va rfl (X.load rfl sc_58 (by first | exact Ld.blk hk12 rfl | exact Ld.blk hk2 rfl)) ?_
      refine L.va rfl (X.len rfl Try.underlying58) ?_
      refine L.va rfl (X.fieldAddr rfl Try.underlying61 rfl sz_58 (by decide)) ?_
      refine L.va rfl (X.load rfl sc_58 (by first | exact Ld.blk hk12 rfl | exact Ld.blk hk2 rfl)) ?_
      refine L.va rfl (X.len rfl Try.underlying58) ?_
      refine L.va rfl (X.neq rfl rfl) ?_
      refine L.va rfl (X.pickF rfl (by conv => lhs; whnf)) ?_
      refine L.va rfl (X.move (by conv => lhs; whnf)) ?_
      refine L.caseNdec (k := 32) rfl (fun h3 => ?_) (fun h3 => ?_)
      · rw [eqL_len (R := sameW) (d := wc0) (by show (x.is.map Wh.con).length ≠ (y.is.map Wh.con).length; rw [List.length_map, List.length_map]; omega)]
        refine L.no rfl ?_
        refine L.no rfl ?_
        refine L.no rfl ?_
        refine L.no rfl ?_
        refine L.no rfl ?_
        refine L.no rfl ?_
        refine L.no rfl ?_
        refine L.va rfl (X.pickT rfl (by conv => lhs; whnf)) ?_
        refine L.nil ?_
        refine J.iteT rfl ?_
        refine J.seq ?_
        refine J.region ?_
        refine L.va rfl (X.assign (by conv => lhs; whnf)) ?_
        refine L.nil ?_
        refine J.ret ?_
        refine thn_ret <| ?_
        refine fin1 ?_
        exact ⟨rfl, he⟩
      · refine L.va rfl (X.fieldAddr rfl Try.underlying61 rfl sz_59 (by decide)) ?_
        refine L.va rfl (X.load rfl sc_59 (by first | exact Ld.blk hk12 rfl | exact Ld.blk hk2 rfl)) ?_
        refine L.va rfl (X.len rfl Try.underlying59) ?_
        refine L.va rfl (X.fieldAddr rfl Try.underlying61 rfl sz_59 (by decide)) ?_
        refine L.va rfl (X.load rfl sc_59 (by first | exact Ld.blk hk12 rfl | exact Ld.blk hk2 rfl)) ?_
        refine L.va rfl (X.len rfl Try.underlying59) ?_
        refine L.va rfl (X.neq rfl rfl) ?_
        refine L.va rfl (X.pickF rfl (by conv => lhs; whnf)) ?_
        refine L.nil ?_
        refine J.ndec rfl (fun h4 => ?_) (fun h4 => ?_)
        · rw [eqL_len (R := sameR) (d := rc0) (by show (x.rs.map Re.con).length ≠ (y.rs.map Re.con).length; rw [List.length_map, List.length_map]; omega), Bool.and_false]
          refine J.seq ?_
          refine J.region ?_
          refine L.va rfl (X.assign (by conv => lhs; whnf)) ?_
          refine L.nil ?_
          refine J.ret ?_
          refine thn_ret <| ?_
          refine fin1 ?_
          exact ⟨rfl, he⟩
        · have hni : x.ni = y.ni := by omega
          refine J.skip ?_
          refine J.cut (X := Unit) [4, 5, 6, 7, 41, 42, 43, 44, 45, 46, 47, 48, 49, 50, 51, 52, 53, 54, 55, 56, 57, 58, 59, 60, 61, 62, 63, 64, 65, 66, 67, 68, 69, 70, 71, 72, 73, 74, 75, 76, 77, 78, 79, 80, 81, 82, 83, 84, 85, 86, 87, 88, 89, 90, 91] (fun _ => []) (fun _ w' => eqL sameW wc0 x.con.is y.con.is = true ∧ Ext w2 w') ?_ ?_
          · refine J.seq ?_
            refine J.region ?_
            refine L.va rfl (X.assign (by conv => lhs; whnf)) ?_
            refine L.nil ?_
            refine J.block ?_
            refine J.loop (X := Nat) [4, 5, 6, 7, 41, 42, 43, 44, 45, 46, 47, 48, 49, 50, 51, 52, 53, 54, 55, 56, 57, 58, 59, 60, 61, 62, 63, 64, 65, 66, 67, 68, 69, 70, 71, 72, 73, 74, 75, 76, 77, 78, 79, 80, 81, 82, 83, 84, 85, 86, 87, 88, 89, 90, 91] (fun i => [(5, .int .i64 (i : Int))]) (fun i w' => i ≤ x.ni ∧ (∀ j, j < i → sameW (x.is.getD j wh0).con (y.is.getD j wh0).con = true) ∧ Ext w2 w') (fun i => x.ni - i) (0) (At1 (by first | rfl | exact at_int rfl (by omega) | exact at_slice rfl (by omega) | exact at_int rfl (by simp))) ?_ ?_
            · exact ⟨Nat.zero_le _, fun j hj => absurd hj (by omega), Ext.refl _⟩
            · rintro i g w3 ⟨hi, hP, he3⟩
              have hk13 := hk12.ext he3
              have hk3 := hk2.ext he3
              have he03 := he.trans he3
              have z3 := he03.le
              refine J.seq ?_
              refine J.seq ?_
              refine J.region ?_
              refine L.va rfl (X.move (by conv => lhs; whnf)) ?_
              refine L.va rfl (X.fieldAddr rfl Try.underlying61 rfl sz_58 (by decide)) ?_
              refine L.va rfl (X.load rfl sc_58 (by first | exact Ld.blk hk13 rfl | exact Ld.blk hk3 rfl)) ?_
              refine L.va rfl (X.len rfl Try.underlying58) ?_
              refine L.va rfl (X.lss rfl rfl) ?_
              refine L.nil ?_
              refine J.dec rfl (fun hlt => ?_) (fun hlt => ?_)
              · have hin : i < x.ni := by omega
                have hra := hx.i.ext he03
                have hrb := hy.i.ext he03
                have hA := hra.some_ (by omega)
                have hB := hrb.some_ (by omega)
                have gx := gtW (l := x.is) (i := i) (by omega)
                have gy := gtW (l := y.is) (i := i) (by omega)
                have hX := (hx.wh (i := i) hin).ext he03
                have hY := (hy.wh (i := i) (by omega)).ext he03
                generalize ex : x.is.getD i wh0 = p at gx hX
                generalize ey : y.is.getD i wh0 = q at gy hY
                refine J.skip ?_
                refine J.seq ?_
                refine J.block ?_
                refine J.cut (X := Nat × Nat) [6, 7, 48, 49, 50, 51, 52, 53, 54, 55, 56, 57] (fun (b6, b7) => [(6, .pointer (some ⟨b6, 0, none⟩)), (7, .pointer (some ⟨b7, 0, none⟩))]) (fun (b6, b7) w' => Blk w' b6 90 p.vs.toArray ∧ Blk w' b7 90 q.vs.toArray ∧ Ext w3 w') ?_ ?_
                · skip
                  refine J.draw (ℓ := 1000000) (S := Ext w3) mixed (fun w4 hS hS_h => ?_)
                  refine D.va 0 rfl (by kernel_rfl) (fun _ _ _ h => h) rfl (fun w' hw => X.fieldAddr rfl Try.underlying61 rfl sz_58 (by decide)) hS ?_
                  refine D.va 1 rfl (by kernel_rfl) (fun _ _ _ h => h) rfl (fun w' hw => X.load rfl sc_58 (by first | exact Ld.blk (hk13.ext hw) rfl | exact Ld.blk (hk3.ext hw) rfl | exact hA | exact hB)) hS ?_
                  refine D.va 2 rfl (by kernel_rfl) (fun _ _ _ h => h) rfl (fun w' hw => X.move (by conv => lhs; whnf)) hS ?_
                  refine D.va 3 rfl (by kernel_rfl) (fun _ _ _ h => h) rfl (fun w' hw => (by first | exact X.indexAddrn rfl rfl Try.underlying58 sz_90 (by first | exact Option.some_ne_none _ | exact hA | exact hB) (by omega) | exact X.indexAddr rfl rfl Try.underlying58 sz_90 (by first | exact Option.some_ne_none _ | exact hA | exact hB) (by omega))) hS ?_
                  refine D.va 4 rfl (by kernel_rfl) (fun _ _ _ h => h) rfl (fun w' hw => X.loadRow (cs := p.vs) rfl (hra.ext hw) (fun r u hu => flat_row wh_len gx r u hu) (Nat.zero_lt_succ _) Try.underlying90 rfl (by kernel_rfl)) hS ?_
                  refine D.va 5 rfl (by kernel_rfl) (fun _ _ _ h => h) rfl (fun w' hw => X.fieldAddr rfl Try.underlying61 rfl sz_58 (by decide)) hS ?_
                  refine D.va 6 rfl (by kernel_rfl) (fun _ _ _ h => h) rfl (fun w' hw => X.load rfl sc_58 (by first | exact Ld.blk (hk13.ext hw) rfl | exact Ld.blk (hk3.ext hw) rfl | exact hA | exact hB)) hS ?_
                  refine D.va 7 rfl (by kernel_rfl) (fun _ _ _ h => h) rfl (fun w' hw => X.move (by conv => lhs; whnf)) hS ?_
                  refine D.va 8 rfl (by kernel_rfl) (fun _ _ _ h => h) rfl (fun w' hw => (by first | exact X.indexAddrn rfl rfl Try.underlying58 sz_90 (by first | exact Option.some_ne_none _ | exact hA | exact hB) (by omega) | exact X.indexAddr rfl rfl Try.underlying58 sz_90 (by first | exact Option.some_ne_none _ | exact hA | exact hB) (by omega))) hS ?_
                  refine D.va 9 rfl (by kernel_rfl) (fun _ _ _ h => h) rfl (fun w' hw => X.loadRow (cs := q.vs) rfl (hrb.ext hw) (fun r u hu => flat_row wh_len gy r u hu) (Nat.zero_lt_succ _) Try.underlying90 rfl (by kernel_rfl)) hS ?_
                  refine D.two 10 11 (by kernel_rfl) rfl rfl ?_ ?_
                  · refine L.alloc rfl zr_90 ?_
                    intro b6 w6 hb6 hs6 hk6 he6
                    have hS1 := hS.trans he6
                    refine L.nil ?_
                    refine ⟨fun _ => hS1, ?_⟩
                    refine D.one 11 (by kernel_rfl) rfl ?_
                    refine L.alloc rfl zr_90 ?_
                    intro b7 w7 hb7 hs7 hk7 he7
                    have hS2 := hS1.trans he7
                    refine L.nil ?_
                    refine ⟨fun _ => hS2, ?_⟩
                    have hk67 := hk6.ext he7
                    have zS := hS.le
                    refine D.one 12 (by kernel_rfl) rfl ?_
                    refine L.storeAgg (vs := [_, _, _, _, _]) rfl rfl rfl rfl sz_90 (hk67) rfl ?_
                    intro w8 hk8 hg8 hs8
                    have hS3 := hS2.grw hg8 (by intro g hg; injection hg with hg; omega)
                    refine L.nil ?_
                    refine ⟨fun _ => hS3, ?_⟩
                    have hk78 := hk7.grown hg8 (by intro e; injection e with e; omega)
                    refine D.one 13 (by kernel_rfl) rfl ?_
                    refine L.storeAgg (vs := [_, _, _, _, _]) rfl rfl rfl rfl sz_90 (hk78) rfl ?_
                    intro w9 hk9 hg9 hs9
                    have hS4 := hS3.grw hg9 (by intro g hg; injection hg with hg; omega)
                    refine L.nil ?_
                    refine ⟨fun _ => hS4, ?_⟩
                    have hk89 := hk8.grown hg9 (by intro e; injection e with e; omega)
                    refine D.done (by kernel_rfl) ?_
                    replace hk13 := hk13.ext hS4
                    replace hk3 := hk3.ext hS4
                    refine ⟨(b6, b7), At2 (by first | rfl | exact at_int rfl (by omega) | exact at_slice rfl (by omega) | exact at_int rfl (by simp)) (by first | rfl | exact at_int rfl (by omega) | exact at_slice rfl (by omega) | exact at_int rfl (by simp)), (by (iterate 12 refine Agr.lk rfl ?_); exact Agr.rfl'), ?_⟩
                    exact ⟨hk89, hk9, hS4⟩
                  · refine L.alloc rfl zr_90 ?_
                    intro b7 w7 hb7 hs7 hk7 he7
                    have hS1 := hS.trans he7
                    refine L.nil ?_
                    refine ⟨fun _ => hS1, ?_⟩
                    refine D.one 10 (by kernel_rfl) rfl ?_
                    refine L.alloc rfl zr_90 ?_
                    intro b6 w6 hb6 hs6 hk6 he6
                    have hS2 := hS1.trans he6
                    refine L.nil ?_
                    refine ⟨fun _ => hS2, ?_⟩
                    have hk76 := hk7.ext he6
                    have zS := hS.le
                    refine D.one 12 (by kernel_rfl) rfl ?_
                    refine L.storeAgg (vs := [_, _, _, _, _]) rfl rfl rfl rfl sz_90 (hk6) rfl ?_
                    intro w8 hk8 hg8 hs8
                    have hS3 := hS2.grw hg8 (by intro g hg; injection hg with hg; omega)
                    refine L.nil ?_
                    refine ⟨fun _ => hS3, ?_⟩
                    have hk78 := hk76.grown hg8 (by intro e; injection e with e; omega)
                    refine D.one 13 (by kernel_rfl) rfl ?_
                    refine L.storeAgg (vs := [_, _, _, _, _]) rfl rfl rfl rfl sz_90 (hk78) rfl ?_
                    intro w9 hk9 hg9 hs9
                    have hS4 := hS3.grw hg9 (by intro g hg; injection hg with hg; omega)
                    refine L.nil ?_
                    refine ⟨fun _ => hS4, ?_⟩
                    have hk89 := hk8.grown hg9 (by intro e; injection e with e; omega)
                    refine D.done (by kernel_rfl) ?_
                    replace hk13 := hk13.ext hS4
                    replace hk3 := hk3.ext hS4
                    refine ⟨(b6, b7), At2 (by first | rfl | exact at_int rfl (by omega) | exact at_slice rfl (by omega) | exact at_int rfl (by simp)) (by first | rfl | exact at_int rfl (by omega) | exact at_slice rfl (by omega) | exact at_int rfl (by simp)), (by (iterate 12 refine Agr.lk rfl ?_); exact Agr.rfl'), ?_⟩
                    exact ⟨hk89, hk9, hS4⟩
                · rintro ⟨b6, b7⟩ g w4 ⟨kp, kq, he4⟩
                  have z4 := he4.le
                  have hk14 := hk13.ext he4
                  have hk4 := hk3.ext he4
                  have hP4 := hX.ext he4
                  have hQ4 := hY.ext he4
                  have he04 := he03.trans he4
                  have eNo : sameW p.con q.con = false → eqL sameW wc0 x.con.is y.con.is = false := fun h => eqL_no (i := i) (by show i < (x.is.map Wh.con).length; rw [List.length_map]; omega) (by
                    show sameW ((x.is.map Wh.con).getD i wc0) ((y.is.map Wh.con).getD i wc0) = false
                    rw [con_atWh, con_atWh, ex, ey]
                    exact h)
                  refine J.seq ?_
                  refine J.region ?_
                  refine L.va rfl (X.fieldAddr rfl Try.underlying90 rfl sz_2 (by decide)) ?_
                  refine L.va rfl (X.load rfl sc_2 (by first | exact Ld.blk kp rfl | exact Ld.blk kq rfl)) ?_
                  refine L.va rfl (X.fieldAddr rfl Try.underlying90 rfl sz_2 (by decide)) ?_
                  refine L.va rfl (X.load rfl sc_2 (by first | exact Ld.blk kp rfl | exact Ld.blk kq rfl)) ?_
                  refine L.va rfl (X.neq rfl rfl) ?_
                  refine L.va rfl (X.move (by conv => lhs; whnf)) ?_
                  refine L.caseNdec (k := 63) rfl (fun g1 => ?_) (fun g1 => ?_)
                  · rw [eNo (by unfold sameW; exact decide_eq_false (fun h => g1 (congrArg (fun z : WC => z.1) h))), Bool.false_and]
                    refine L.no rfl ?_
                    refine L.no rfl ?_
                    refine L.no rfl ?_
                    refine L.no rfl ?_
                    refine L.no rfl ?_
                    refine L.va rfl (X.pickT rfl (by conv => lhs; whnf)) ?_
                    refine L.va rfl (X.move (by conv => lhs; whnf)) ?_
                    refine L.no rfl ?_
                    refine L.no rfl ?_
                    refine L.no rfl ?_
                    refine L.no rfl ?_
                    refine L.no rfl ?_
                    refine L.va rfl (X.pickT rfl (by conv => lhs; whnf)) ?_
                    refine L.va rfl (X.move (by conv => lhs; whnf)) ?_
                    refine L.no rfl ?_
                    refine L.no rfl ?_
                    refine L.no rfl ?_
                    refine L.no rfl ?_
                    refine L.no rfl ?_
                    refine L.va rfl (X.pickT rfl (by conv => lhs; whnf)) ?_
                    refine L.va rfl (X.move (by conv => lhs; whnf)) ?_
                    refine L.no rfl ?_
                    refine L.no rfl ?_
                    refine L.no rfl ?_
                    refine L.no rfl ?_
                    refine L.no rfl ?_
                    refine L.no rfl ?_
                    refine L.va rfl (X.pickT rfl (by conv => lhs; whnf)) ?_
                    refine L.nil ?_
                    refine J.iteT rfl ?_
                    refine J.seq ?_
                    refine J.region ?_
                    refine L.va rfl (X.assign (by conv => lhs; whnf)) ?_
                    refine L.nil ?_
                    refine J.ret ?_
                    refine inB_ret <|  thn_ret <|  thn_ret <|  inB_ret <|  thn_ret <| ?_
                    refine fin1 ?_
                    exact ⟨rfl, he04⟩
                  · refine L.va rfl (X.fieldAddr rfl Try.underlying90 rfl sz_2 (by decide)) ?_
                    refine L.va rfl (X.load rfl sc_2 (by first | exact Ld.blk kp rfl | exact Ld.blk kq rfl)) ?_
                    refine L.va rfl (X.fieldAddr rfl Try.underlying90 rfl sz_2 (by decide)) ?_
                    refine L.va rfl (X.load rfl sc_2 (by first | exact Ld.blk kp rfl | exact Ld.blk kq rfl)) ?_
                    refine L.va rfl (X.neq rfl rfl) ?_
                    refine L.va rfl (X.pickF rfl (by conv => lhs; whnf)) ?_
                    refine L.va rfl (X.move (by conv => lhs; whnf)) ?_
                    refine L.caseNdec (k := 70) rfl (fun g2 => ?_) (fun g2 => ?_)
                    · rw [eNo (by unfold sameW; exact decide_eq_false (fun h => g2 (congrArg (fun z : WC => z.2.1) h))), Bool.false_and]
                      refine L.no rfl ?_
                      refine L.no rfl ?_
                      refine L.no rfl ?_
                      refine L.no rfl ?_
                      refine L.no rfl ?_
                      refine L.va rfl (X.pickT rfl (by conv => lhs; whnf)) ?_
                      refine L.va rfl (X.move (by conv => lhs; whnf)) ?_
                      refine L.no rfl ?_
                      refine L.no rfl ?_
                      refine L.no rfl ?_
                      refine L.no rfl ?_
                      refine L.no rfl ?_
                      refine L.va rfl (X.pickT rfl (by conv => lhs; whnf)) ?_
                      refine L.va rfl (X.move (by conv => lhs; whnf)) ?_
                      refine L.no rfl ?_
                      refine L.no rfl ?_
                      refine L.no rfl ?_
                      refine L.no rfl ?_
                      refine L.no rfl ?_
                      refine L.no rfl ?_
                      refine L.va rfl (X.pickT rfl (by conv => lhs; whnf)) ?_
                      refine L.nil ?_
                      refine J.iteT rfl ?_
                      refine J.seq ?_
                      refine J.region ?_
                      refine L.va rfl (X.assign (by conv => lhs; whnf)) ?_
                      refine L.nil ?_
                      refine J.ret ?_
                      refine inB_ret <|  thn_ret <|  thn_ret <|  inB_ret <|  thn_ret <| ?_
                      refine fin1 ?_
                      exact ⟨rfl, he04⟩
                    · refine L.va rfl (X.fieldAddr rfl Try.underlying90 rfl sz_2 (by decide)) ?_
                      refine L.va rfl (X.load rfl sc_2 (by first | exact Ld.blk kp rfl | exact Ld.blk kq rfl)) ?_
                      refine L.va rfl (X.fieldAddr rfl Try.underlying90 rfl sz_2 (by decide)) ?_
                      refine L.va rfl (X.load rfl sc_2 (by first | exact Ld.blk kp rfl | exact Ld.blk kq rfl)) ?_
                      refine L.va rfl (X.neq rfl rfl) ?_
                      refine L.va rfl (X.pickF rfl (by conv => lhs; whnf)) ?_
                      refine L.va rfl (X.move (by conv => lhs; whnf)) ?_
                      refine L.caseNdec (k := 77) rfl (fun g3 => ?_) (fun g3 => ?_)
                      · rw [eNo (by unfold sameW; exact decide_eq_false (fun h => g3 (congrArg (fun z : WC => z.2.2.2.1) h))), Bool.false_and]
                        refine L.no rfl ?_
                        refine L.no rfl ?_
                        refine L.no rfl ?_
                        refine L.no rfl ?_
                        refine L.no rfl ?_
                        refine L.va rfl (X.pickT rfl (by conv => lhs; whnf)) ?_
                        refine L.va rfl (X.move (by conv => lhs; whnf)) ?_
                        refine L.no rfl ?_
                        refine L.no rfl ?_
                        refine L.no rfl ?_
                        refine L.no rfl ?_
                        refine L.no rfl ?_
                        refine L.no rfl ?_
                        refine L.va rfl (X.pickT rfl (by conv => lhs; whnf)) ?_
                        refine L.nil ?_
                        refine J.iteT rfl ?_
                        refine J.seq ?_
                        refine J.region ?_
                        refine L.va rfl (X.assign (by conv => lhs; whnf)) ?_
                        refine L.nil ?_
                        refine J.ret ?_
                        refine inB_ret <|  thn_ret <|  thn_ret <|  inB_ret <|  thn_ret <| ?_
                        refine fin1 ?_
                        exact ⟨rfl, he04⟩
                      · refine L.va rfl (X.fieldAddr rfl Try.underlying90 rfl sz_2 (by decide)) ?_
                        refine L.va rfl (X.load rfl sc_2 (by first | exact Ld.blk kp rfl | exact Ld.blk kq rfl)) ?_
                        refine L.va rfl (X.fieldAddr rfl Try.underlying90 rfl sz_2 (by decide)) ?_
                        refine L.va rfl (X.load rfl sc_2 (by first | exact Ld.blk kp rfl | exact Ld.blk kq rfl)) ?_
                        refine L.va rfl (X.neq rfl rfl) ?_
                        refine L.va rfl (X.pickF rfl (by conv => lhs; whnf)) ?_
                        refine L.va rfl (X.move (by conv => lhs; whnf)) ?_
                        refine L.caseNdec (k := 84) rfl (fun g4 => ?_) (fun g4 => ?_)
                        · rw [eNo (by unfold sameW; exact decide_eq_false (fun h => g4 (congrArg (fun z : WC => z.2.2.2.2) h))), Bool.false_and]
                          refine L.no rfl ?_
                          refine L.no rfl ?_
                          refine L.no rfl ?_
                          refine L.no rfl ?_
                          refine L.no rfl ?_
                          refine L.no rfl ?_
                          refine L.va rfl (X.pickT rfl (by conv => lhs; whnf)) ?_
                          refine L.nil ?_
                          refine J.iteT rfl ?_
                          refine J.seq ?_
                          refine J.region ?_
                          refine L.va rfl (X.assign (by conv => lhs; whnf)) ?_
                          refine L.nil ?_
                          refine J.ret ?_
                          refine inB_ret <|  thn_ret <|  thn_ret <|  inB_ret <|  thn_ret <| ?_
                          refine fin1 ?_
                          exact ⟨rfl, he04⟩
                        · refine L.va rfl (X.fieldAddr rfl Try.underlying90 rfl sz_45 (by decide)) ?_
                          refine L.va rfl (X.load rfl sc_45 (by first | exact Ld.blk kp rfl | exact Ld.blk kq rfl)) ?_
                          refine L.va rfl (X.fieldAddr rfl Try.underlying90 rfl sz_45 (by decide)) ?_
                          refine L.va rfl (X.load rfl sc_45 (by first | exact Ld.blk kp rfl | exact Ld.blk kq rfl)) ?_
                          have cS := rsame02 p.A p.n p.c q.A q.n q.c p.q q.q w4 hP4.r hQ4.r hP4.len hQ4.len hP4.m hQ4.m (by omega)
                          by_cases g5 : p.q = q.q
                          · rw [decide_eq_true g5] at cS
                            refine L.call rfl en_48 rfl (cS) ?_
                            rintro e w5 ⟨rfl, he5⟩
                            refine ⟨_, rfl, ?_⟩
                            have hk15 := hk14.ext he5
                            have hk5 := hk4.ext he5
                            refine L.va rfl (X.not rfl) ?_
                            refine L.va rfl (X.pickF rfl (by conv => lhs; whnf)) ?_
                            refine L.nil ?_
                            refine J.iteF rfl ?_
                            refine J.skip ?_
                            refine J.region ?_
                            refine L.va rfl (X.move (by conv => lhs; whnf)) ?_
                            refine L.va rfl (X.add rfl rfl (by omega)) ?_
                            refine L.va rfl (X.assign (by conv => lhs; whnf)) ?_
                            refine L.nil ?_
                            refine ⟨i + 1, At1 (by first | rfl | exact at_int rfl (by omega) | exact at_slice rfl (by omega) | exact at_int rfl (by simp)), (by (iterate 41 refine Agr.lk rfl ?_); refine Agr.lk rfl ?_; refine Agr.hav rfl ?_; (iterate 5 refine Agr.lk rfl ?_); exact Agr.lk rfl (Agr.hav rfl Agr.rfl')), ?_⟩
                            have e : p.con = q.con := by
                              show (p.s, p.a, p.q, p.lo, p.hi) = (q.s, q.a, q.q, q.lo, q.hi)
                              rw [show p.s = q.s from g1, show p.a = q.a from g2, show p.lo = q.lo from g3, show p.hi = q.hi from g4, g5]
                            refine ⟨⟨by omega, fun j hj => ?_, (he3.trans he4).trans he5⟩, by omega⟩
                            rcases Nat.lt_or_ge j i with h | h
                            · exact hP j h
                            · obtain rfl : j = i := by omega
                              rw [ex, ey, e]
                              exact decide_eq_true rfl
                          · rw [decide_eq_false g5] at cS
                            rw [eNo (by unfold sameW; exact decide_eq_false (fun h => g5 (congrArg (fun z : WC => z.2.2.1) h))), Bool.false_and]
                            refine L.call rfl en_48 rfl (cS) ?_
                            rintro e w5 ⟨rfl, he5⟩
                            refine ⟨_, rfl, ?_⟩
                            refine L.va rfl (X.not rfl) ?_
                            refine L.va rfl (X.pickF rfl (by conv => lhs; whnf)) ?_
                            refine L.nil ?_
                            refine J.iteT rfl ?_
                            refine J.seq ?_
                            refine J.region ?_
                            refine L.va rfl (X.assign (by conv => lhs; whnf)) ?_
                            refine L.nil ?_
                            refine J.ret ?_
                            refine inB_ret <|  thn_ret <|  thn_ret <|  inB_ret <|  thn_ret <| ?_
                            refine fin1 ?_
                            exact ⟨rfl, he04.trans he5⟩
              · refine J.exit ?_
                refine ⟨(), At0 , (by (iterate 5 refine Agr.lk rfl ?_); refine Agr.lk rfl ?_; refine Agr.hav rfl ?_; (iterate 1 refine Agr.lk rfl ?_); exact Agr.rfl'), ?_⟩
                obtain rfl : i = x.ni := by omega
                refine ⟨eqL_yes (by show (x.is.map Wh.con).length = (y.is.map Wh.con).length; rw [List.length_map, List.length_map]; omega) (fun j hj => ?_), he3⟩
                show sameW ((x.is.map Wh.con).getD j wc0) ((y.is.map Wh.con).getD j wc0) = true
                rw [con_atWh, con_atWh]
                exact hP j (by have : j < (x.is.map Wh.con).length := hj; rw [List.length_map] at this; omega)
          · rintro _ g w3 ⟨hE1, he3⟩
            rw [hE1, Bool.true_and]
            have hnr : x.nr = y.nr := by omega
            have hk13 := hk12.ext he3
            have hk3 := hk2.ext he3
            have he03 := he.trans he3
            have z3 := he03.le
            refine J.seq ?_
            refine J.seq ?_
            refine J.region ?_
            refine L.va rfl (X.assign (by conv => lhs; whnf)) ?_
            refine L.nil ?_
            refine J.block ?_
            refine J.loop (X := Nat) [4, 8, 9, 10, 92, 93, 94, 95, 96, 97, 98, 99, 100, 101, 102, 103, 104, 105, 106, 107, 108, 109, 110, 111, 112, 113, 114, 115, 116, 117, 118, 119, 120, 121, 122, 123, 124, 125, 126, 127, 128, 129, 130, 131] (fun i => [(8, .int .i64 (i : Int))]) (fun i w' => i ≤ x.nr ∧ (∀ j, j < i → sameR (x.rs.getD j re0).con (y.rs.getD j re0).con = true) ∧ Ext w3 w') (fun i => x.nr - i) (0) (At1 (by first | rfl | exact at_int rfl (by omega) | exact at_slice rfl (by omega) | exact at_int rfl (by simp))) ?_ ?_
            · exact ⟨Nat.zero_le _, fun j hj => absurd hj (by omega), Ext.refl _⟩
            · rintro i g w4 ⟨hi, hP, he4⟩
              have hk14 := hk13.ext he4
              have hk4 := hk3.ext he4
              have he04 := he03.trans he4
              have z4 := he04.le
              refine J.seq ?_
              refine J.seq ?_
              refine J.region ?_
              refine L.va rfl (X.move (by conv => lhs; whnf)) ?_
              refine L.va rfl (X.fieldAddr rfl Try.underlying61 rfl sz_59 (by decide)) ?_
              refine L.va rfl (X.load rfl sc_59 (by first | exact Ld.blk hk14 rfl | exact Ld.blk hk4 rfl)) ?_
              refine L.va rfl (X.len rfl Try.underlying59) ?_
              refine L.va rfl (X.lss rfl rfl) ?_
              refine L.nil ?_
              refine J.dec rfl (fun hlt => ?_) (fun hlt => ?_)
              · have hin : i < x.nr := by omega
                have hra := hx.r.ext he04
                have hrb := hy.r.ext he04
                have hA := hra.some_ (by omega)
                have hB := hrb.some_ (by omega)
                have gx := gtR (l := x.rs) (i := i) (by omega)
                have gy := gtR (l := y.rs) (i := i) (by omega)
                have hX := (hx.re (i := i) hin).ext he04
                have hY := (hy.re (i := i) (by omega)).ext he04
                generalize ex : x.rs.getD i re0 = p at gx hX
                generalize ey : y.rs.getD i re0 = q at gy hY
                refine J.skip ?_
                refine J.seq ?_
                refine J.block ?_
                refine J.cut (X := Nat × Nat) [9, 10, 99, 100, 101, 102, 103, 104, 105, 106, 107, 108] (fun (b6, b7) => [(9, .pointer (some ⟨b6, 0, none⟩)), (10, .pointer (some ⟨b7, 0, none⟩))]) (fun (b6, b7) w' => Blk w' b6 94 p.vs.toArray ∧ Blk w' b7 94 q.vs.toArray ∧ Ext w4 w') ?_ ?_
                · skip
                  refine J.draw (ℓ := 1000000) (S := Ext w4) mixed (fun w5 hS hS_h => ?_)
                  refine D.va 0 rfl (by kernel_rfl) (fun _ _ _ h => h) rfl (fun w' hw => X.fieldAddr rfl Try.underlying61 rfl sz_59 (by decide)) hS ?_
                  refine D.va 1 rfl (by kernel_rfl) (fun _ _ _ h => h) rfl (fun w' hw => X.load rfl sc_59 (by first | exact Ld.blk (hk14.ext hw) rfl | exact Ld.blk (hk4.ext hw) rfl | exact hA | exact hB)) hS ?_
                  refine D.va 2 rfl (by kernel_rfl) (fun _ _ _ h => h) rfl (fun w' hw => X.move (by conv => lhs; whnf)) hS ?_
                  refine D.va 3 rfl (by kernel_rfl) (fun _ _ _ h => h) rfl (fun w' hw => (by first | exact X.indexAddrn rfl rfl Try.underlying59 sz_94 (by first | exact Option.some_ne_none _ | exact hA | exact hB) (by omega) | exact X.indexAddr rfl rfl Try.underlying59 sz_94 (by first | exact Option.some_ne_none _ | exact hA | exact hB) (by omega))) hS ?_
                  refine D.va 4 rfl (by kernel_rfl) (fun _ _ _ h => h) rfl (fun w' hw => X.loadRow (cs := p.vs) rfl (hra.ext hw) (fun r u hu => flat_row re_len gx r u hu) (Nat.zero_lt_succ _) Try.underlying94 rfl (by kernel_rfl)) hS ?_
                  refine D.va 5 rfl (by kernel_rfl) (fun _ _ _ h => h) rfl (fun w' hw => X.fieldAddr rfl Try.underlying61 rfl sz_59 (by decide)) hS ?_
                  refine D.va 6 rfl (by kernel_rfl) (fun _ _ _ h => h) rfl (fun w' hw => X.load rfl sc_59 (by first | exact Ld.blk (hk14.ext hw) rfl | exact Ld.blk (hk4.ext hw) rfl | exact hA | exact hB)) hS ?_
                  refine D.va 7 rfl (by kernel_rfl) (fun _ _ _ h => h) rfl (fun w' hw => X.move (by conv => lhs; whnf)) hS ?_
                  refine D.va 8 rfl (by kernel_rfl) (fun _ _ _ h => h) rfl (fun w' hw => (by first | exact X.indexAddrn rfl rfl Try.underlying59 sz_94 (by first | exact Option.some_ne_none _ | exact hA | exact hB) (by omega) | exact X.indexAddr rfl rfl Try.underlying59 sz_94 (by first | exact Option.some_ne_none _ | exact hA | exact hB) (by omega))) hS ?_
                  refine D.va 9 rfl (by kernel_rfl) (fun _ _ _ h => h) rfl (fun w' hw => X.loadRow (cs := q.vs) rfl (hrb.ext hw) (fun r u hu => flat_row re_len gy r u hu) (Nat.zero_lt_succ _) Try.underlying94 rfl (by kernel_rfl)) hS ?_
                  refine D.two 10 11 (by kernel_rfl) rfl rfl ?_ ?_
                  · refine L.alloc rfl zr_94 ?_
                    intro b6 w6 hb6 hs6 hk6 he6
                    have hS1 := hS.trans he6
                    refine L.nil ?_
                    refine ⟨fun _ => hS1, ?_⟩
                    refine D.one 11 (by kernel_rfl) rfl ?_
                    refine L.alloc rfl zr_94 ?_
                    intro b7 w7 hb7 hs7 hk7 he7
                    have hS2 := hS1.trans he7
                    refine L.nil ?_
                    refine ⟨fun _ => hS2, ?_⟩
                    have hk67 := hk6.ext he7
                    have zS := hS.le
                    refine D.one 12 (by kernel_rfl) rfl ?_
                    refine L.storeAgg (vs := [_, _, _]) rfl rfl rfl rfl sz_94 (hk67) rfl ?_
                    intro w8 hk8 hg8 hs8
                    have hS3 := hS2.grw hg8 (by intro g hg; injection hg with hg; omega)
                    refine L.nil ?_
                    refine ⟨fun _ => hS3, ?_⟩
                    have hk78 := hk7.grown hg8 (by intro e; injection e with e; omega)
                    refine D.one 13 (by kernel_rfl) rfl ?_
                    refine L.storeAgg (vs := [_, _, _]) rfl rfl rfl rfl sz_94 (hk78) rfl ?_
                    intro w9 hk9 hg9 hs9
                    have hS4 := hS3.grw hg9 (by intro g hg; injection hg with hg; omega)
                    refine L.nil ?_
                    refine ⟨fun _ => hS4, ?_⟩
                    have hk89 := hk8.grown hg9 (by intro e; injection e with e; omega)
                    refine D.done (by kernel_rfl) ?_
                    replace hk14 := hk14.ext hS4
                    replace hk4 := hk4.ext hS4
                    refine ⟨(b6, b7), At2 (by first | rfl | exact at_int rfl (by omega) | exact at_slice rfl (by omega) | exact at_int rfl (by simp)) (by first | rfl | exact at_int rfl (by omega) | exact at_slice rfl (by omega) | exact at_int rfl (by simp)), (by (iterate 12 refine Agr.lk rfl ?_); exact Agr.rfl'), ?_⟩
                    exact ⟨hk89, hk9, hS4⟩
                  · refine L.alloc rfl zr_94 ?_
                    intro b7 w7 hb7 hs7 hk7 he7
                    have hS1 := hS.trans he7
                    refine L.nil ?_
                    refine ⟨fun _ => hS1, ?_⟩
                    refine D.one 10 (by kernel_rfl) rfl ?_
                    refine L.alloc rfl zr_94 ?_
                    intro b6 w6 hb6 hs6 hk6 he6
                    have hS2 := hS1.trans he6
                    refine L.nil ?_
                    refine ⟨fun _ => hS2, ?_⟩
                    have hk76 := hk7.ext he6
                    have zS := hS.le
                    refine D.one 12 (by kernel_rfl) rfl ?_
                    refine L.storeAgg (vs := [_, _, _]) rfl rfl rfl rfl sz_94 (hk6) rfl ?_
                    intro w8 hk8 hg8 hs8
                    have hS3 := hS2.grw hg8 (by intro g hg; injection hg with hg; omega)
                    refine L.nil ?_
                    refine ⟨fun _ => hS3, ?_⟩
                    have hk78 := hk76.grown hg8 (by intro e; injection e with e; omega)
                    refine D.one 13 (by kernel_rfl) rfl ?_
                    refine L.storeAgg (vs := [_, _, _]) rfl rfl rfl rfl sz_94 (hk78) rfl ?_
                    intro w9 hk9 hg9 hs9
                    have hS4 := hS3.grw hg9 (by intro g hg; injection hg with hg; omega)
                    refine L.nil ?_
                    refine ⟨fun _ => hS4, ?_⟩
                    have hk89 := hk8.grown hg9 (by intro e; injection e with e; omega)
                    refine D.done (by kernel_rfl) ?_
                    replace hk14 := hk14.ext hS4
                    replace hk4 := hk4.ext hS4
                    refine ⟨(b6, b7), At2 (by first | rfl | exact at_int rfl (by omega) | exact at_slice rfl (by omega) | exact at_int rfl (by simp)) (by first | rfl | exact at_int rfl (by omega) | exact at_slice rfl (by omega) | exact at_int rfl (by simp)), (by (iterate 12 refine Agr.lk rfl ?_); exact Agr.rfl'), ?_⟩
                    exact ⟨hk89, hk9, hS4⟩
                · rintro ⟨b6, b7⟩ g w5 ⟨kp, kq, he5⟩
                  have z5 := he5.le
                  have hk15 := hk14.ext he5
                  have hk5 := hk4.ext he5
                  have hP5 := hX.ext he5
                  have hQ5 := hY.ext he5
                  have he05 := he04.trans he5
                  have eNo : sameR p.con q.con = false → eqL sameR rc0 x.con.rs y.con.rs = false := fun h => eqL_no (i := i) (by show i < (x.rs.map Re.con).length; rw [List.length_map]; omega) (by
                    show sameR ((x.rs.map Re.con).getD i rc0) ((y.rs.map Re.con).getD i rc0) = false
                    rw [con_atRe, con_atRe, ex, ey]
                    exact h)
                  have r1 : sameR p.con q.con = (decide (p.b = q.b) && (sameF p.lo q.lo && sameF p.hi q.hi)) := rfl
                  refine J.seq ?_
                  refine J.region ?_
                  refine L.va rfl (X.fieldAddr rfl Try.underlying94 rfl sz_91 (by decide)) ?_
                  refine L.va rfl (X.load rfl sc_91 (by first | exact Ld.blk kp rfl | exact Ld.blk kq rfl)) ?_
                  refine L.va rfl (X.conv rfl (hP5.r.conv Try.underlying91 Try.underlying5 Try.underlying9)) ?_
                  refine L.va rfl (X.fieldAddr rfl Try.underlying94 rfl sz_91 (by decide)) ?_
                  refine L.va rfl (X.load rfl sc_91 (by first | exact Ld.blk kp rfl | exact Ld.blk kq rfl)) ?_
                  refine L.va rfl (X.conv rfl (hQ5.r.conv Try.underlying91 Try.underlying5 Try.underlying9)) ?_
                  refine L.va rfl (X.neqS rfl rfl) ?_
                  refine L.va rfl (X.move (by conv => lhs; whnf)) ?_
                  refine L.caseNdec (k := 116) rfl (fun g1 => ?_) (fun g1 => ?_)
                  · rw [eNo (by rw [r1, decide_eq_false (fun h => g1 (by rw [h]))]; rfl)]
                    refine L.no rfl ?_
                    refine L.no rfl ?_
                    refine L.no rfl ?_
                    refine L.no rfl ?_
                    refine L.no rfl ?_
                    refine L.no rfl ?_
                    refine L.va rfl (X.pickT rfl (by conv => lhs; whnf)) ?_
                    refine L.va rfl (X.move (by conv => lhs; whnf)) ?_
                    refine L.no rfl ?_
                    refine L.no rfl ?_
                    refine L.no rfl ?_
                    refine L.no rfl ?_
                    refine L.no rfl ?_
                    refine L.no rfl ?_
                    refine L.va rfl (X.pickT rfl (by conv => lhs; whnf)) ?_
                    refine L.nil ?_
                    refine J.iteT rfl ?_
                    refine J.seq ?_
                    refine J.region ?_
                    refine L.va rfl (X.assign (by conv => lhs; whnf)) ?_
                    refine L.nil ?_
                    refine J.ret ?_
                    refine inB_ret <|  thn_ret <|  thn_ret <|  inB_ret <|  thn_ret <| ?_
                    refine fin1 ?_
                    exact ⟨rfl, he05⟩
                  · have eb : p.b = q.b := strOfNums_inj hP5.o.b hQ5.o.b (by rw [g1])
                    have cL := same03 p.lo q.lo w5 hP5.o.lo hQ5.o.lo
                    refine L.va rfl (X.fieldAddr rfl Try.underlying94 rfl sz_92 (by decide)) ?_
                    refine L.va rfl (X.load rfl sc_92 (by first | exact Ld.blk kp rfl | exact Ld.blk kq rfl)) ?_
                    refine L.va rfl (X.fieldAddr rfl Try.underlying94 rfl sz_92 (by decide)) ?_
                    refine L.va rfl (X.load rfl sc_92 (by first | exact Ld.blk kp rfl | exact Ld.blk kq rfl)) ?_
                    cases hlo : sameF p.lo q.lo
                    · rw [hlo] at cL
                      rw [eNo (by rw [r1, hlo, Bool.false_and, Bool.and_false])]
                      refine L.call rfl en_49 rfl (cL) ?_
                      rintro e w6 ⟨rfl, he6⟩
                      refine ⟨_, rfl, ?_⟩
                      refine L.va rfl (X.not rfl) ?_
                      refine L.va rfl (X.pickF rfl (by conv => lhs; whnf)) ?_
                      refine L.va rfl (X.move (by conv => lhs; whnf)) ?_
                      refine L.caseBT (k := 124) rfl (by rfl) ?_
                      refine L.no rfl ?_
                      refine L.no rfl ?_
                      refine L.no rfl ?_
                      refine L.no rfl ?_
                      refine L.no rfl ?_
                      refine L.no rfl ?_
                      refine L.va rfl (X.pickT rfl (by conv => lhs; whnf)) ?_
                      refine L.nil ?_
                      refine J.iteT rfl ?_
                      refine J.seq ?_
                      refine J.region ?_
                      refine L.va rfl (X.assign (by conv => lhs; whnf)) ?_
                      refine L.nil ?_
                      refine J.ret ?_
                      refine inB_ret <|  thn_ret <|  thn_ret <|  inB_ret <|  thn_ret <| ?_
                      refine fin1 ?_
                      exact ⟨rfl, he05.trans he6⟩
                    · rw [hlo] at cL
                      refine L.call rfl en_49 rfl (cL) ?_
                      rintro e w6 ⟨rfl, he6⟩
                      refine ⟨_, rfl, ?_⟩
                      have he6 : Ext w5 w6 := he6
                      have he06 := he05.trans he6
                      have hk16 := hk15.ext he6
                      have hk6 := hk5.ext he6
                      replace kp := kp.ext he6
                      replace kq := kq.ext he6
                      have cH := same03 p.hi q.hi w6 hP5.o.hi hQ5.o.hi
                      refine L.va rfl (X.not rfl) ?_
                      refine L.va rfl (X.pickF rfl (by conv => lhs; whnf)) ?_
                      refine L.va rfl (X.move (by conv => lhs; whnf)) ?_
                      refine L.caseBF (k := 124) rfl (by rfl) ?_
                      refine L.va rfl (X.fieldAddr rfl Try.underlying94 rfl sz_92 (by decide)) ?_
                      refine L.va rfl (X.load rfl sc_92 (by first | exact Ld.blk kp rfl | exact Ld.blk kq rfl)) ?_
                      refine L.va rfl (X.fieldAddr rfl Try.underlying94 rfl sz_92 (by decide)) ?_
                      refine L.va rfl (X.load rfl sc_92 (by first | exact Ld.blk kp rfl | exact Ld.blk kq rfl)) ?_
                      cases hhi : sameF p.hi q.hi
                      · rw [hhi] at cH
                        rw [eNo (by rw [r1, hhi, Bool.and_false, Bool.and_false])]
                        refine L.call rfl en_49 rfl (cH) ?_
                        rintro e w7 ⟨rfl, he7⟩
                        refine ⟨_, rfl, ?_⟩
                        refine L.va rfl (X.not rfl) ?_
                        refine L.va rfl (X.pickF rfl (by conv => lhs; whnf)) ?_
                        refine L.nil ?_
                        refine J.iteT rfl ?_
                        refine J.seq ?_
                        refine J.region ?_
                        refine L.va rfl (X.assign (by conv => lhs; whnf)) ?_
                        refine L.nil ?_
                        refine J.ret ?_
                        refine inB_ret <|  thn_ret <|  thn_ret <|  inB_ret <|  thn_ret <| ?_
                        refine fin1 ?_
                        exact ⟨rfl, he06.trans he7⟩
                      · rw [hhi] at cH
                        refine L.call rfl en_49 rfl (cH) ?_
                        rintro e w7 ⟨rfl, he7⟩
                        refine ⟨_, rfl, ?_⟩
                        have he7 : Ext w6 w7 := he7
                        have hk17 := hk16.ext he7
                        have hk7 := hk6.ext he7
                        refine L.va rfl (X.not rfl) ?_
                        refine L.va rfl (X.pickF rfl (by conv => lhs; whnf)) ?_
                        refine L.nil ?_
                        refine J.iteF rfl ?_
                        refine J.skip ?_
                        refine J.region ?_
                        refine L.va rfl (X.move (by conv => lhs; whnf)) ?_
                        refine L.va rfl (X.add rfl rfl (by omega)) ?_
                        refine L.va rfl (X.assign (by conv => lhs; whnf)) ?_
                        refine L.nil ?_
                        refine ⟨i + 1, At1 (by first | rfl | exact at_int rfl (by omega) | exact at_slice rfl (by omega) | exact at_int rfl (by simp)), (by (iterate 28 refine Agr.lk rfl ?_); refine Agr.lk rfl ?_; refine Agr.hav rfl ?_; (iterate 5 refine Agr.lk rfl ?_); exact Agr.lk rfl (Agr.hav rfl Agr.rfl')), ?_⟩
                        refine ⟨⟨by omega, fun j hj => ?_, ((he4.trans he5).trans he6).trans he7⟩, by omega⟩
                        rcases Nat.lt_or_ge j i with h | h
                        · exact hP j h
                        · obtain rfl : j = i := by omega
                          rw [ex, ey, r1, decide_eq_true eb, hlo, hhi]
                          rfl
              · refine J.exit ?_
                refine J.seq ?_
                refine J.region ?_
                refine L.va rfl (X.assign (by conv => lhs; whnf)) ?_
                refine L.nil ?_
                refine J.ret ?_
                refine fin1 ?_
                obtain rfl : i = x.nr := by omega
                have e2 : eqL sameR rc0 x.con.rs y.con.rs = true := eqL_yes (by show (x.rs.map Re.con).length = (y.rs.map Re.con).length; rw [List.length_map, List.length_map]; omega) (fun j hj => by
                  show sameR ((x.rs.map Re.con).getD j rc0) ((y.rs.map Re.con).getD j rc0) = true
                  rw [con_atRe, con_atRe]
                  exact hP j (by have : j < (x.rs.map Re.con).length := hj; rw [List.length_map] at this; omega))
                rw [e2]
                exact ⟨rfl, he04⟩
end Go.Proofs.Ytpomklkfedpkfaa
namespace Go.Proofs.Ytpomklkfedpkfaa
set_option maxRecDepth 100000
open Go.RowKit H
set_option linter.unusedVariables false
structure Ce.Lt (x : Ce) : Prop where
  i : x.ni ≤ 10
  r : x.nr ≤ 10
  li : ∀ y ∈ x.is, y.n ≤ 20
  lr : ∀ y ∈ x.rs, y.n ≤ 300
theorem rlight14 {x : Ce} {w : World} {N : Nat} (hx : x.At N w) (hN : N ≤ w.heap.size) : Calls Try.prog 19 #[x.val] w fun e w' => Ext w w' ∧ ∃ z : Bool, e = .returned (.bool z) ∧ (z = true → x.Lt) := by
  have lxi := hx.li
  have lxr := hx.lr
  have mi := hx.mi
  have mr := hx.mr
  unfold maxLen at mi mr
  refine enter Try.func19 rfl (by kernel_rfl) ?_
  refine J.seq ?_
  refine J.region ?_
  refine L.boxA (l := [_, _, _, _]) rfl rfl ?_
  intro b1 w1 hb1 hs1 hk1 he1
  have hra := hx.i.ext he1
  have hrb := hx.r.ext he1
  refine L.va rfl (X.assign (by conv => lhs; whnf)) ?_
  refine L.nil ?_
  refine J.seq ?_
  refine J.seq ?_
  refine J.region ?_
  refine L.va rfl (X.fieldAddr rfl Try.underlying61 rfl sz_58 (by decide)) ?_
  refine L.va rfl (X.load rfl sc_58 (by first | exact Ld.blk hk1 rfl)) ?_
  refine L.va rfl (X.len rfl Try.underlying58) ?_
  refine L.va rfl (X.gtr rfl rfl) ?_
  refine L.va rfl (X.move (by conv => lhs; whnf)) ?_
  refine L.caseDec (k := 9) rfl (fun h1 => ?_) (fun h1 => ?_)
  · refine L.no rfl ?_
    refine L.no rfl ?_
    refine L.no rfl ?_
    refine L.no rfl ?_
    refine L.va rfl (X.pickT rfl (by conv => lhs; whnf)) ?_
    refine L.nil ?_
    refine J.iteT rfl ?_
    refine J.seq ?_
    refine J.region ?_
    refine L.va rfl (X.assign (by conv => lhs; whnf)) ?_
    refine L.nil ?_
    refine J.ret ?_
    refine thn_ret <| ?_
    refine fin1 ?_
    exact ⟨he1, _, rfl, fun h => by cases h⟩
  · refine L.va rfl (X.fieldAddr rfl Try.underlying61 rfl sz_59 (by decide)) ?_
    refine L.va rfl (X.load rfl sc_59 (by first | exact Ld.blk hk1 rfl)) ?_
    refine L.va rfl (X.len rfl Try.underlying59) ?_
    refine L.va rfl (X.gtr rfl rfl) ?_
    refine L.va rfl (X.pickF rfl (by conv => lhs; whnf)) ?_
    refine L.nil ?_
    refine J.dec rfl (fun h2 => ?_) (fun h2 => ?_)
    · refine J.seq ?_
      refine J.region ?_
      refine L.va rfl (X.assign (by conv => lhs; whnf)) ?_
      refine L.nil ?_
      refine J.ret ?_
      refine thn_ret <| ?_
      refine fin1 ?_
      exact ⟨he1, _, rfl, fun h => by cases h⟩
    · refine J.skip ?_
      refine J.cut (X := Unit) [2, 3, 15, 16, 17, 18, 19, 20, 21, 22, 23, 24, 25, 26, 27, 28, 29] (fun _ => []) (fun _ w' => (∀ y ∈ x.is, y.n ≤ 20) ∧ w1 = w') ?_ ?_
      · refine J.seq ?_
        refine J.region ?_
        refine L.va rfl (X.assign (by conv => lhs; whnf)) ?_
        refine L.nil ?_
        refine J.block ?_
        refine J.loop (X := Nat) [2, 3, 15, 16, 17, 18, 19, 20, 21, 22, 23, 24, 25, 26, 27, 28, 29] (fun i => [(3, .int .i64 (i : Int))]) (fun i w' => i ≤ x.ni ∧ (∀ j, j < i → (x.is.getD j wh0).n ≤ 20) ∧ w1 = w') (fun i => x.ni - i) (0) (At1 (by first | rfl | exact at_int rfl (by omega) | exact at_slice rfl (by omega) | exact at_int rfl (by simp))) ?_ ?_
        · exact ⟨Nat.zero_le _, fun j hj => absurd hj (by omega), rfl⟩
        · rintro i g w2 ⟨hi, hP, rfl⟩
          refine J.seq ?_
          refine J.seq ?_
          refine J.region ?_
          refine L.va rfl (X.move (by conv => lhs; whnf)) ?_
          refine L.va rfl (X.fieldAddr rfl Try.underlying61 rfl sz_58 (by decide)) ?_
          refine L.va rfl (X.load rfl sc_58 (by first | exact Ld.blk hk1 rfl)) ?_
          refine L.va rfl (X.len rfl Try.underlying58) ?_
          refine L.va rfl (X.lss rfl rfl) ?_
          refine L.nil ?_
          refine J.dec rfl (fun hlt => ?_) (fun hlt => ?_)
          · have hA := hra.some_ (by omega)
            have gx := gtW (l := x.is) (i := i) (by omega)
            refine J.skip ?_
            refine J.seq ?_
            refine J.block ?_
            refine J.seq ?_
            refine J.region ?_
            refine L.va rfl (X.fieldAddr rfl Try.underlying61 rfl sz_58 (by decide)) ?_
            refine L.va rfl (X.load rfl sc_58 (by first | exact Ld.blk hk1 rfl | exact hA | exact Ld.flat2 wh_len hra gx (r := 2) rfl)) ?_
            refine L.va rfl (X.move (by conv => lhs; whnf)) ?_
            refine L.va rfl ((by first | exact X.indexAddrn rfl rfl Try.underlying58 sz_90 (by first | exact Option.some_ne_none _ | exact hA) (by omega) | exact X.indexAddr rfl rfl Try.underlying58 sz_90 (by first | exact Option.some_ne_none _ | exact hA) (by omega))) ?_
            refine L.va rfl (X.fieldP rfl Try.underlying90 rfl sz_45 (by decide) (by first | exact Option.some_ne_none _ | exact hA)) ?_
            refine L.va rfl (X.load rfl sc_45 (by first | exact Ld.blk hk1 rfl | exact hA | exact Ld.flat2 wh_len hra gx (r := 2) rfl)) ?_
            refine L.va rfl (X.len rfl Try.underlying45) ?_
            refine L.va rfl (X.gtr rfl rfl) ?_
            refine L.nil ?_
            refine J.dec rfl (fun h3 => ?_) (fun h3 => ?_)
            · refine J.seq ?_
              refine J.region ?_
              refine L.va rfl (X.assign (by conv => lhs; whnf)) ?_
              refine L.nil ?_
              refine J.ret ?_
              refine inB_ret <|  thn_ret <|  thn_ret <|  inB_ret <|  thn_ret <| ?_
              refine fin1 ?_
              exact ⟨he1, _, rfl, fun h => by cases h⟩
            · refine J.skip ?_
              refine J.region ?_
              refine L.va rfl (X.move (by conv => lhs; whnf)) ?_
              refine L.va rfl (X.add rfl rfl (by omega)) ?_
              refine L.va rfl (X.assign (by conv => lhs; whnf)) ?_
              refine L.nil ?_
              refine ⟨i + 1, At1 (by first | rfl | exact at_int rfl (by omega) | exact at_slice rfl (by omega) | exact at_int rfl (by simp)), (by (iterate 16 refine Agr.lk rfl ?_); exact Agr.lk rfl (Agr.hav rfl Agr.rfl')), ?_⟩
              refine ⟨⟨by omega, fun j hj => ?_, rfl⟩, by omega⟩
              rcases Nat.lt_or_ge j i with h | h
              · exact hP j h
              · obtain rfl : j = i := by omega
                omega
          · refine J.exit ?_
            refine ⟨(), At0 , (by (iterate 5 refine Agr.lk rfl ?_); refine Agr.lk rfl ?_; refine Agr.hav rfl ?_; (iterate 1 refine Agr.lk rfl ?_); exact Agr.rfl'), ?_⟩
            refine ⟨fun y hy => ?_, rfl⟩
            obtain ⟨j, hj, rfl⟩ := List.getElem_of_mem hy
            have := hP j (by omega)
            rwa [List.getD, List.getElem?_eq_getElem hj] at this
      · rintro _ g w2 ⟨hI, rfl⟩
        refine J.seq ?_
        refine J.seq ?_
        refine J.region ?_
        refine L.va rfl (X.assign (by conv => lhs; whnf)) ?_
        refine L.nil ?_
        refine J.block ?_
        refine J.loop (X := Nat) [2, 4, 30, 31, 32, 33, 34, 35, 36, 37, 38, 39, 40, 41, 42, 43, 44] (fun i => [(4, .int .i64 (i : Int))]) (fun i w' => i ≤ x.nr ∧ (∀ j, j < i → (x.rs.getD j re0).n ≤ 300) ∧ w1 = w') (fun i => x.nr - i) (0) (At1 (by first | rfl | exact at_int rfl (by omega) | exact at_slice rfl (by omega) | exact at_int rfl (by simp))) ?_ ?_
        · exact ⟨Nat.zero_le _, fun j hj => absurd hj (by omega), rfl⟩
        · rintro i g w2 ⟨hi, hP, rfl⟩
          refine J.seq ?_
          refine J.seq ?_
          refine J.region ?_
          refine L.va rfl (X.move (by conv => lhs; whnf)) ?_
          refine L.va rfl (X.fieldAddr rfl Try.underlying61 rfl sz_59 (by decide)) ?_
          refine L.va rfl (X.load rfl sc_59 (by first | exact Ld.blk hk1 rfl)) ?_
          refine L.va rfl (X.len rfl Try.underlying59) ?_
          refine L.va rfl (X.lss rfl rfl) ?_
          refine L.nil ?_
          refine J.dec rfl (fun hlt => ?_) (fun hlt => ?_)
          · have hA := hrb.some_ (by omega)
            have gx := gtR (l := x.rs) (i := i) (by omega)
            have h0 := Ld.flat2 re_len hrb gx (r := 0) rfl
            rw [Nat.add_zero] at h0
            refine J.skip ?_
            refine J.seq ?_
            refine J.block ?_
            refine J.seq ?_
            refine J.region ?_
            refine L.va rfl (X.fieldAddr rfl Try.underlying61 rfl sz_59 (by decide)) ?_
            refine L.va rfl (X.load rfl sc_59 (by first | exact Ld.blk hk1 rfl | exact hA | exact h0 | exact Ld.flat2 re_len hrb gx (r := 0) rfl)) ?_
            refine L.va rfl (X.move (by conv => lhs; whnf)) ?_
            refine L.va rfl ((by first | exact X.indexAddrn rfl rfl Try.underlying59 sz_94 (by first | exact Option.some_ne_none _ | exact hA | exact h0) (by omega) | exact X.indexAddr rfl rfl Try.underlying59 sz_94 (by first | exact Option.some_ne_none _ | exact hA | exact h0) (by omega))) ?_
            refine L.va rfl (X.fieldP rfl Try.underlying94 rfl sz_91 (by decide) (by first | exact Option.some_ne_none _ | exact hA | exact h0)) ?_
            refine L.va rfl (X.load rfl sc_91 (by first | exact Ld.blk hk1 rfl | exact hA | exact h0 | exact Ld.flat2 re_len hrb gx (r := 0) rfl)) ?_
            refine L.va rfl (X.len rfl Try.underlying91) ?_
            refine L.va rfl (X.gtr rfl rfl) ?_
            refine L.nil ?_
            refine J.dec rfl (fun h3 => ?_) (fun h3 => ?_)
            · refine J.seq ?_
              refine J.region ?_
              refine L.va rfl (X.assign (by conv => lhs; whnf)) ?_
              refine L.nil ?_
              refine J.ret ?_
              refine inB_ret <|  thn_ret <|  thn_ret <|  inB_ret <|  thn_ret <| ?_
              refine fin1 ?_
              exact ⟨he1, _, rfl, fun h => by cases h⟩
            · refine J.skip ?_
              refine J.region ?_
              refine L.va rfl (X.move (by conv => lhs; whnf)) ?_
              refine L.va rfl (X.add rfl rfl (by omega)) ?_
              refine L.va rfl (X.assign (by conv => lhs; whnf)) ?_
              refine L.nil ?_
              refine ⟨i + 1, At1 (by first | rfl | exact at_int rfl (by omega) | exact at_slice rfl (by omega) | exact at_int rfl (by simp)), (by (iterate 16 refine Agr.lk rfl ?_); exact Agr.lk rfl (Agr.hav rfl Agr.rfl')), ?_⟩
              refine ⟨⟨by omega, fun j hj => ?_, rfl⟩, by omega⟩
              rcases Nat.lt_or_ge j i with h | h
              · exact hP j h
              · obtain rfl : j = i := by omega
                omega
          · refine J.exit ?_
            refine J.seq ?_
            refine J.region ?_
            refine L.va rfl (X.assign (by conv => lhs; whnf)) ?_
            refine L.nil ?_
            refine J.ret ?_
            refine fin1 ?_
            refine ⟨he1, _, rfl, fun _ => ⟨by omega, by omega, hI, fun y hy => ?_⟩⟩
            obtain ⟨j, hj, rfl⟩ := List.getElem_of_mem hy
            have := hP j (by omega)
            rwa [List.getD, List.getElem?_eq_getElem hj] at this
theorem rlight15 {s : Ces} {w : World} {N : Nat} (hs : s.At N w) (hN : N ≤ w.heap.size) : Calls Try.prog 6 #[s.val] w fun e w' => Ext w w' ∧ ∃ z : Bool, e = .returned (.bool z) ∧ (z = true → s.n ≤ 60 ∧ ∀ x ∈ s.l, x.Lt) := by
  have ls := hs.l
  have ms := hs.m
  unfold maxLen at ms
  refine enter Try.func6 rfl (by kernel_rfl) ?_
  refine J.seq ?_
  refine J.region ?_
  refine L.va rfl (X.assign (by conv => lhs; whnf)) ?_
  refine L.nil ?_
  refine J.seq ?_
  refine J.seq ?_
  refine J.region ?_
  refine L.va rfl (X.move (by conv => lhs; whnf)) ?_
  refine L.va rfl (X.len rfl Try.underlying22) ?_
  refine L.va rfl (X.gtr rfl rfl) ?_
  refine L.nil ?_
  refine J.dec rfl (fun h1 => ?_) (fun h1 => ?_)
  · refine J.seq ?_
    refine J.region ?_
    refine L.va rfl (X.assign (by conv => lhs; whnf)) ?_
    refine L.nil ?_
    refine J.ret ?_
    refine thn_ret <| ?_
    refine fin1 ?_
    exact ⟨Ext.refl _, _, rfl, fun h => by cases h⟩
  · refine J.skip ?_
    refine J.seq ?_
    refine J.seq ?_
    refine J.region ?_
    refine L.va rfl (X.assign (by conv => lhs; whnf)) ?_
    refine L.nil ?_
    refine J.block ?_
    refine J.loop (X := Nat) [2, 3, 7, 8, 9, 10, 11, 12, 13, 14, 15, 16, 17, 18] (fun i => [(3, .int .i64 (i : Int))]) (fun i w' => i ≤ s.n ∧ (∀ j, j < i → (s.l.getD j ce0).Lt) ∧ Ext w w') (fun i => s.n - i) (0) (At1 (by first | rfl | exact at_int rfl (by omega) | exact at_slice rfl (by omega) | exact at_int rfl (by simp))) ?_ ?_
    · exact ⟨Nat.zero_le _, fun j hj => absurd hj (by omega), Ext.refl _⟩
    · rintro i g w2 ⟨hi, hP, he⟩
      have z := he.le
      have hr2 := hs.r.ext he
      refine J.seq ?_
      refine J.seq ?_
      refine J.region ?_
      refine L.va rfl (X.move (by conv => lhs; whnf)) ?_
      refine L.va rfl (X.move (by conv => lhs; whnf)) ?_
      refine L.va rfl (X.len rfl Try.underlying22) ?_
      refine L.va rfl (X.lss rfl rfl) ?_
      refine L.nil ?_
      refine J.dec rfl (fun hlt => ?_) (fun hlt => ?_)
      · have hA := hr2.some_ (by omega)
        have gi := gtX (l := s.l) (i := i) (by omega)
        have hX := (hs.one (i := i) (by omega)).ext he
        generalize ex : s.l.getD i ce0 = p at gi hX
        refine J.skip ?_
        refine J.seq ?_
        refine J.block ?_
        refine J.seq ?_
        refine J.region ?_
        refine L.va rfl (X.move (by conv => lhs; whnf)) ?_
        refine L.va rfl (X.move (by conv => lhs; whnf)) ?_
        refine L.va rfl ((by first | exact X.indexAddrn rfl rfl Try.underlying22 sz_61 (by first | exact Option.some_ne_none _ | exact hA) (by omega) | exact X.indexAddr rfl rfl Try.underlying22 sz_61 (by first | exact Option.some_ne_none _ | exact hA) (by omega))) ?_
        refine L.va rfl (X.loadRow (cs := p.vs) rfl hr2 (fun r u hu => flat_row ce_len gi r u hu) (Nat.zero_lt_succ _) Try.underlying61 rfl (by kernel_rfl)) ?_
        refine L.call rfl en_19 rfl (rlight14 hX (by omega)) ?_
        rintro e w3 ⟨he3, z, rfl, hz⟩
        refine ⟨_, rfl, ?_⟩
        have he03 := he.trans he3
        refine L.va rfl (X.not rfl) ?_
        refine L.nil ?_
        cases z
        · refine J.iteT rfl ?_
          refine J.seq ?_
          refine J.region ?_
          refine L.va rfl (X.assign (by conv => lhs; whnf)) ?_
          refine L.nil ?_
          refine J.ret ?_
          refine inB_ret <|  thn_ret <|  thn_ret <|  inB_ret <|  thn_ret <| ?_
          refine fin1 ?_
          exact ⟨he03, _, rfl, fun h => by cases h⟩
        · refine J.iteF rfl ?_
          refine J.skip ?_
          refine J.region ?_
          refine L.va rfl (X.move (by conv => lhs; whnf)) ?_
          refine L.va rfl (X.add rfl rfl (by omega)) ?_
          refine L.va rfl (X.assign (by conv => lhs; whnf)) ?_
          refine L.nil ?_
          refine ⟨i + 1, At1 (by first | rfl | exact at_int rfl (by omega) | exact at_slice rfl (by omega) | exact at_int rfl (by simp)), (by (iterate 13 refine Agr.lk rfl ?_); exact Agr.lk rfl (Agr.hav rfl Agr.rfl')), ?_⟩
          refine ⟨⟨by omega, fun j hj => ?_, he03⟩, by omega⟩
          rcases Nat.lt_or_ge j i with h | h
          · exact hP j h
          · obtain rfl : j = i := by omega
            rw [ex]
            exact hz rfl
      · refine J.exit ?_
        refine J.seq ?_
        refine J.region ?_
        refine L.va rfl (X.assign (by conv => lhs; whnf)) ?_
        refine L.nil ?_
        refine J.ret ?_
        refine fin1 ?_
        refine ⟨he, _, rfl, fun _ => ⟨by omega, fun x hx => ?_⟩⟩
        obtain ⟨j, hj, rfl⟩ := List.getElem_of_mem hx
        have := hP j (by omega)
        rwa [List.getD, List.getElem?_eq_getElem hj] at this
end Go.Proofs.Ytpomklkfedpkfaa
namespace Go.Proofs.Ytpomklkfedpkfaa
set_option maxRecDepth 100000
open Go.RowKit H
set_option linter.unusedVariables false
abbrev Ce.key (x : Ce) : Int := (x.k : Int)
abbrev Ce.vals (x : Ce) : List Value := x.vs
abbrev Ce.v (x : Ce) : Value := x.val
def rise (l : List Ce) : Bool := (List.range (l.length - 1)).all fun i => decide ((l.getD i ce0).key < (l.getD (i + 1) ce0).key)
theorem rise_at {l : List Ce} : rise l = true ↔ ∀ i, i + 1 < l.length → (l.getD i ce0).key < (l.getD (i + 1) ce0).key := by
  unfold rise
  rw [List.all_eq_true]
  constructor
  · intro h i hi
    exact of_decide_eq_true (h i (List.mem_range.2 (by omega)))
  · intro h i hi
    have := List.mem_range.1 hi
    exact decide_eq_true (h i (by omega))
def mergeD (sm : Ce → Ce → Bool) : List Ce → List Ce → List (Int × Int)
  | [], [] => []
  | x :: a, [] => (x.key, 1) :: mergeD sm a []
  | [], y :: b => (y.key, 2) :: mergeD sm [] b
  | x :: a, y :: b => if x.key < y.key then (x.key, 1) :: mergeD sm a (y :: b) else if y.key < x.key then (y.key, 2) :: mergeD sm (x :: a) b else (if sm x y = true then [] else [(x.key, 3)]) ++ mergeD sm a b
  termination_by a b => a.length + b.length
end Go.Proofs.Ytpomklkfedpkfaa
namespace Go.Proofs.Ytpomklkfedpkfaa
set_option maxRecDepth 100000
open Go.RowKit H
set_option linter.unusedVariables false
theorem own_lowB {w : World} {base base' e sz n : Nat} {v : Value} {xs : List Value} (h : w.ownsRow base e sz v n xs) (hb : base' ≤ base) : w.ownsRow base' e sz v n xs := by
  refine ⟨h.1, ?_⟩
  rcases h.2 with h1 | ⟨b, cap, cur, h1, h2, h3⟩
  · exact .inl h1
  · exact .inr ⟨b, cap, cur, h1, Nat.le_trans hb h2, h3⟩
end Go.Proofs.Ytpomklkfedpkfaa
namespace Go.Proofs.Ytpomklkfedpkfaa
set_option maxRecDepth 100000
open Go.RowKit H
set_option linter.unusedVariables false
theorem clone32 (A : Option Addr) (n c : Nat) (l : List Int) (w : World) (hr : Reads w w.heap.size 1 A n (nums .u32 l)) (hn : n ≤ 5000) : Calls Try.prog 65 #[.slice A n c] w fun e w' => ∃ A' c', e = .returned (.slice A' n c') ∧ w'.ownsRow w.heap.size 53 1 (.slice A' n c') n (nums .u32 l) ∧ Ext w w' := by
  have hl : l.length = n := by have := hr.1; simpa [nums] using this
  refine enter Try.func65 rfl (by kernel_rfl) ?_
  refine J.seq ?_
  refine J.region ?_
  refine L.va rfl (X.assign (by conv => lhs; whnf)) ?_
  refine L.nil ?_
  refine J.seq ?_
  refine J.seq ?_
  refine J.region ?_
  refine L.va rfl (X.move (by conv => lhs; whnf)) ?_
  refine L.va rfl (X.eqlNil rfl rfl Try.underlying45) ?_
  refine L.nil ?_
  rcases A with _ | a
  · obtain rfl : n = 0 := by
      apply Decidable.byContradiction
      intro h
      exact hr.some_ (by omega) rfl
    obtain rfl : l = [] := List.length_eq_zero_iff.1 hl
    refine J.iteT rfl ?_
    refine J.seq ?_
    refine J.region ?_
    refine L.va rfl (X.assign (by conv => lhs; whnf)) ?_
    refine L.nil ?_
    refine J.ret ?_
    refine thn_ret <| ?_
    refine fin1 ?_
    exact ⟨none, 0, rfl, own_nil _ _ _ _, Ext.refl _⟩
  · refine J.iteF rfl ?_
    refine J.skip ?_
    refine J.seq ?_
    refine J.region ?_
    refine L.bslice (vs := []) rfl Evs.nil rfl rfl rfl rfl Try.underlying45 sz_53 zr_53 (by decide) ?_
    intro b1 w1 hb1 hs1 hk1 he1
    have ho1 : w1.ownsRow w.heap.size 53 1 (.slice (some ⟨b1, 0, none⟩) 0 0) 0 (nums .u32 []) := blk_own1 (q := 0) (l := []) hk1 (by omega) (Nat.zero_le _) rfl
    have z1 := he1.le
    refine L.va rfl (X.move (by conv => lhs; whnf)) ?_
    refine L.appendQ (q := n) (ys := l) rfl rfl rfl Try.underlying45 el_53 (ho1) (hr.ext he1) (by omega) (by simp) (by unfold maxLen; omega) (by omega) ?_
    intro A2 c2 w2 ho2 hg2 hb2 hor2
    refine L.va rfl (X.assign (by conv => lhs; whnf)) ?_
    refine L.nil ?_
    refine J.ret ?_
    refine fin1 ?_
    exact ⟨A2, c2, rfl, ho2, he1.grw hg2 (by intro g hg; injection hg with hg; subst hg; show w.heap.size ≤ b1; omega)⟩
structure Wh.Own (x : Wh) (N : Nat) (w : World) : Prop where
  r : Reads w N 1 x.A x.n (nums .u32 x.q) ∨ w.ownsRow N 53 1 (.slice x.A x.n x.c) x.n (nums .u32 x.q)
  m : x.n ≤ maxLen
  o : x.Ok
  cp : x.n ≤ x.c
structure Re.Own (x : Re) (N : Nat) (w : World) : Prop where
  r : Reads w N 1 x.A x.n (nums .u8 x.b) ∨ w.ownsRow N 5 1 (.slice x.A x.n x.c) x.n (nums .u8 x.b)
  m : x.n ≤ maxLen
  o : x.Ok
section
variable {N : Nat} {w w' : World}
theorem Wh.Own.ext {x : Wh} (h : x.Own N w) (he : Ext w w') : x.Own N w' := ⟨h.r.imp (fun r => r.ext he) (fun r => r.ext he), h.m, h.o, h.cp⟩
theorem Re.Own.ext {x : Re} (h : x.Own N w) (he : Ext w w') : x.Own N w' := ⟨h.r.imp (fun r => r.ext he) (fun r => r.ext he), h.m, h.o⟩
theorem Wh.Own.put {x : Wh} (h : x.Own N w) {t : Nat} (hb : Below N w w') (hC : TCh t w w') (hne : 53 ≠ t) : x.Own N w' := ⟨h.r.imp (fun r => r.low hb (Nat.le_refl _)) (fun r => hC.own r hne), h.m, h.o, h.cp⟩
theorem Re.Own.put {x : Re} (h : x.Own N w) {t : Nat} (hb : Below N w w') (hC : TCh t w w') (hne : 5 ≠ t) : x.Own N w' := ⟨h.r.imp (fun r => r.low hb (Nat.le_refl _)) (fun r => hC.own r hne), h.m, h.o⟩
theorem Wh.Own.at {x : Wh} (h : x.Own N w) (hN : N ≤ w.heap.size) : x.At w.heap.size w := ⟨h.r.elim (fun r => r.more hN) (fun r => Reads.of_own r), h.m, h.o, h.cp⟩
theorem Re.Own.at {x : Re} (h : x.Own N w) (hN : N ≤ w.heap.size) : x.At w.heap.size w := ⟨h.r.elim (fun r => r.more hN) (fun r => Reads.of_own r), h.m, h.o⟩
end
theorem map_setD {α β : Type} {f : α → β} {l : List α} {d : α} {i : Nat} {y : α} (hi : i < l.length) (h : f y = f (l.getD i d)) : (l.set i y).map f = l.map f := by
  apply List.ext_getElem (by simp)
  intro j h1 h2
  rw [List.getElem_map, List.getElem_map, List.getElem_set]
  by_cases e : i = j
  · subst e
    rw [if_pos rfl, h, List.getD, List.getElem?_eq_getElem hi]
    rfl
  · rw [if_neg e]
structure Ce.Own (x : Ce) (N : Nat) (w : World) : Prop where
  k : x.k < 18446744073709551616
  t : In64 x.t
  i : w.ownsRow N 90 5 (.slice x.Ai x.ni x.ci) x.ni (x.is.flatMap Wh.vs)
  hi : ∀ y ∈ x.is, y.Own N w
  li : x.is.length = x.ni
  r : w.ownsRow N 94 3 (.slice x.Ar x.nr x.cr) x.nr (x.rs.flatMap Re.vs)
  hr : ∀ y ∈ x.rs, y.Own N w
  lr : x.rs.length = x.nr
  L : x.Lt
section
variable {x : Ce} {N : Nat} {w w' : World}
theorem Ce.Own.ext (h : x.Own N w) (he : Ext w w') : x.Own N w' := ⟨h.k, h.t, h.i.ext he, fun y hy => (h.hi y hy).ext he, h.li, h.r.ext he, fun y hy => (h.hr y hy).ext he, h.lr, h.L⟩
theorem Ce.Own.put (h : x.Own N w) {t : Nat} (hb : Below N w w') (hC : TCh t w w') (hne : 53 ≠ t ∧ 5 ≠ t ∧ 90 ≠ t ∧ 94 ≠ t) : x.Own N w' := ⟨h.k, h.t, hC.own h.i hne.2.2.1, fun y hy => (h.hi y hy).put hb hC hne.1, h.li, hC.own h.r hne.2.2.2, fun y hy => (h.hr y hy).put hb hC hne.2.1, h.lr, h.L⟩
theorem Ce.Own.at (h : x.Own N w) (hN : N ≤ w.heap.size) : x.At w.heap.size w := ⟨h.k, h.t, Reads.of_own h.i, fun y hy => (h.hi y hy).at hN, h.li, by have := h.L.i; unfold maxLen; omega, Reads.of_own h.r, fun y hy => (h.hr y hy).at hN, h.lr, by have := h.L.r; unfold maxLen; omega⟩
end
theorem copied (x : Ce) {N : Nat} (w : World) (hN : N ≤ w.heap.size) (hx : x.At N w) (hL : x.Lt) : Calls Try.prog 51 #[x.val] w fun e w' => ∃ y : Ce, e = .returned y.val ∧ y.con = x.con ∧ y.Own N w' ∧ Ext w w' := by
  obtain ⟨k, t, Ai, ni, ci, is, Ar, nr, cr, rs⟩ := x
  have li : is.length = ni := hx.li
  have lr : rs.length = nr := hx.lr
  have Li : ni ≤ 10 := hL.i
  have Lr : nr ≤ 10 := hL.r
  have hri : Reads w w.heap.size 5 Ai ni (is.flatMap Wh.vs) := hx.i.more hN
  have hrr : Reads w w.heap.size 3 Ar nr (rs.flatMap Re.vs) := hx.r.more hN
  refine enter Try.func51 rfl (by kernel_rfl) ?_
  refine J.seq ?_
  refine J.region ?_
  refine L.boxA (l := [_, _, _, _]) rfl rfl ?_
  intro b1 w1 hb1 hs1 hk1 he1
  have hk1 : Blk w1 b1 61 (Ce.mk k t Ai ni ci is Ar nr cr rs).vs.toArray := hk1
  refine L.alloc rfl zr_61 ?_
  intro b2 w2 hb2 hs2 hk2 he2
  have he02 := he1.trans he2
  have hk1 := hk1.ext he2
  have z2 := he02.le
  refine L.nil ?_
  refine J.seq ?_
  refine J.region ?_
  refine L.va rfl (X.fieldAddr rfl Try.underlying61 rfl sz_58 (by decide)) ?_
  refine L.va rfl (X.load rfl sc_58 (by first | exact Ld.blk hk1 rfl)) ?_
  have c1 := cloneWh Ai ni ci is w2 ((hri.ext he02).more z2) (by omega) li
  refine L.call rfl en_64 rfl (c1) ?_
  rintro e w3 ⟨A3, c3, rfl, ho3, he3⟩
  refine ⟨_, rfl, ?_⟩
  have z3 := he3.le
  have hk1 := hk1.ext he3
  have hk2 := hk2.ext he3
  refine L.va rfl (X.fieldAddr rfl Try.underlying61 rfl sz_58 (by decide)) ?_
  refine L.store rfl rfl (by conv => lhs; whnf) rfl sz_58 (hk1) (by first | decide | exact Nat.le_of_ble_eq_true rfl) ?_
  intro w4 hk4 hg4 hs4
  have hk4 : Blk w4 b1 61 (Ce.mk k t A3 ni c3 is Ar nr cr rs).vs.toArray := hk4
  have ho4 := own_lowB (ho3.kept hg4 (.inr (own_blk_ne ho3 hk1 (by decide)))) z2
  have hk2 := hk2.grown hg4 (fun e => by injection e with e; omega)
  have he04 : Ext w w4 := (he02.trans he3).grw hg4 (by intro g hg; injection hg with hg; omega)
  have z4 := he04.le
  refine L.nil ?_
  refine J.seq ?_
  refine J.seq ?_
  refine J.region ?_
  refine L.va rfl (X.fieldAddr rfl Try.underlying61 rfl sz_58 (by decide)) ?_
  refine L.va rfl (X.load rfl sc_58 (by first | exact Ld.blk hk4 rfl)) ?_
  refine L.va rfl (X.len rfl Try.underlying58) ?_
  refine L.va rfl (X.move (by conv => lhs; whnf)) ?_
  refine L.nil ?_
  refine J.block ?_
  refine J.loop (X := Nat × List Wh) [3, 12, 13, 14, 15, 16, 17, 18, 19, 20, 21, 22, 23, 24, 25, 26, 27] (fun (i, js) => [(12, .int .i64 (i : Int))]) (fun (i, js) w' => i ≤ ni ∧ js.length = ni ∧ js.map Wh.con = is.map Wh.con ∧ (∀ y ∈ js, y.Own N w' ∧ y.n ≤ 20) ∧ w'.ownsRow w.heap.size 90 5 (.slice A3 ni c3) ni (js.flatMap Wh.vs) ∧ Blk w' b1 61 (Ce.mk k t A3 ni c3 is Ar nr cr rs).vs.toArray ∧ Blk w' b2 61 #[.int .u64 0, .int .i64 0, .slice none 0 0, .slice none 0 0] ∧ Ext w w' ∧ w.heap.size ≤ w'.heap.size) (fun (i, _) => ni - i) ((0, is)) (At1 (by first | rfl | exact at_int rfl (by omega) | exact at_slice rfl (by omega) | exact at_int rfl (by simp))) ?_ ?_
  · refine ⟨Nat.zero_le _, li, rfl, fun y hy => ⟨⟨.inl ?_, (hx.hi y hy).m, (hx.hi y hy).o, (hx.hi y hy).cp⟩, hL.li y hy⟩, ho4, hk4, hk2, he04, by omega⟩
    exact (hx.hi y hy).r.ext he04
  · rintro ⟨i, js⟩ g w5 ⟨hi, hl5, hc5, hj5, ho5, hk5, hq5, he5, z5⟩
    refine J.seq ?_
    refine J.region ?_
    refine L.va rfl (X.lss rfl rfl) ?_
    refine L.nil ?_
    refine J.seq ?_
    refine J.dec rfl (fun hlt => ?_) (fun hlt => ?_)
    · have hlt : (i : Int) < (ni : Int) := hlt
      have hin : i < js.length := by omega
      obtain ⟨x, hx5⟩ : ∃ x, x = js.getD i wh0 := ⟨_, rfl⟩
      have gx := gtW (l := js) (i := i) hin
      have mx := memD (l := js) (i := i) (d := wh0) hin
      rw [← hx5] at gx mx
      have xO := (hj5 x mx).1
      have xn := (hj5 x mx).2
      have hA := own_ne ho5 (by omega)
      refine J.skip ?_
      refine J.seq ?_
      refine J.block ?_
      refine J.seq ?_
      refine J.region ?_
      refine L.va rfl (X.move (by conv => lhs; whnf)) ?_
      refine L.va rfl (X.assign (by conv => lhs; whnf)) ?_
      refine L.nil ?_
      refine J.draw (ℓ := 12) (S := Ext w5) mixed (fun w6 hS hS_h => ?_)
      refine D.va 0 rfl (by kernel_rfl) (fun _ _ _ h => h) rfl (fun w' hw => X.fieldAddr rfl Try.underlying61 rfl sz_58 (by decide)) hS ?_
      refine D.va 1 rfl (by kernel_rfl) (fun _ _ _ h => h) rfl (fun w' hw => X.load rfl sc_58 (by first | exact Ld.blk (hk5.ext hw) rfl | exact hA | exact Ld.flat2 wh_len (Reads.of_own (ho5.ext hw)) gx (r := 2) rfl)) hS ?_
      refine D.va 2 rfl (by kernel_rfl) (fun _ _ _ h => h) rfl (fun w' hw => X.move (by conv => lhs; whnf)) hS ?_
      refine D.va 3 rfl (by kernel_rfl) (fun _ _ _ h => h) rfl (fun w' hw => X.fieldAddr rfl Try.underlying61 rfl sz_58 (by decide)) hS ?_
      refine D.va 4 rfl (by kernel_rfl) (fun _ _ _ h => h) rfl (fun w' hw => X.load rfl sc_58 (by first | exact Ld.blk (hk5.ext hw) rfl | exact hA | exact Ld.flat2 wh_len (Reads.of_own (ho5.ext hw)) gx (r := 2) rfl)) hS ?_
      refine D.va 5 rfl (by kernel_rfl) (fun _ _ _ h => h) rfl (fun w' hw => X.move (by conv => lhs; whnf)) hS ?_
      refine D.va 6 rfl (by kernel_rfl) (fun _ _ _ h => h) rfl (fun w' hw => (by first | exact X.indexAddrn rfl rfl Try.underlying58 sz_90 (by first | exact Option.some_ne_none _ | exact hA) (by omega) | exact X.indexAddr rfl rfl Try.underlying58 sz_90 (by first | exact Option.some_ne_none _ | exact hA) (by omega))) hS ?_
      refine D.va 7 rfl (by kernel_rfl) (fun _ _ _ h => h) rfl (fun w' hw => X.fieldP rfl Try.underlying90 rfl sz_45 (by decide) (by first | exact Option.some_ne_none _ | exact hA)) hS ?_
      refine D.va 8 rfl (by kernel_rfl) (fun _ _ _ h => h) rfl (fun w' hw => X.load rfl sc_45 (by first | exact Ld.blk (hk5.ext hw) rfl | exact hA | exact Ld.flat2 wh_len (Reads.of_own (ho5.ext hw)) gx (r := 2) rfl)) hS ?_
      have zS := hS.le
      have c2 := clone32 x.A x.n x.c x.q _ ((xO.ext hS).at (by omega)).r (by omega)
      refine D.one 9 (by kernel_rfl) rfl ?_
      refine L.call rfl en_65 rfl (c2) ?_
      rintro e w7 ⟨A7, c7, rfl, ho7, he7⟩
      refine ⟨_, rfl, ?_⟩
      have hS1 := hS.trans he7
      refine L.nil ?_
      refine ⟨fun _ => hS1, ?_⟩
      have z7 := he7.le
      have ho57 := (ho5.ext hS).ext he7
      refine D.va 10 rfl (by kernel_rfl) (fun _ _ _ h => h) rfl (fun w' hw => (by first | exact X.indexAddrn rfl rfl Try.underlying58 sz_90 (by first | exact Option.some_ne_none _ | exact hA) (by omega) | exact X.indexAddr rfl rfl Try.underlying58 sz_90 (by first | exact Option.some_ne_none _ | exact hA) (by omega))) hS1 ?_
      refine D.va 11 rfl (by kernel_rfl) (fun _ _ _ h => h) rfl (fun w' hw => X.fieldP rfl Try.underlying90 rfl sz_45 (by decide) (by first | exact Option.some_ne_none _ | exact hA)) hS1 ?_
      refine D.one 12 (by kernel_rfl) rfl ?_
      refine L.storeO rfl rfl (by conv => lhs; whnf) rfl sz_45 (ho57) (by first | omega | (simp; omega)) ?_
      intro w8 ho8 hg8 hb8 hs8
      refine L.nil ?_
      refine ⟨fun h => absurd rfl h, ?_⟩
      have hC8 : TCh 90 w7 w8 := TCh.row ho57 hg8
      obtain ⟨y, hy⟩ : ∃ y : Wh, y = ⟨x.s, x.a, A7, x.n, c7, x.q, x.lo, x.hi⟩ := ⟨_, rfl⟩
      have hset := flat_set (f := Wh.vs) (r := 2) (v := .slice A7 x.n c7) (y := y) wh_len js i hin (by omega) (by
        have e : js[i]'hin = x := by
          have := gx
          rw [List.getElem?_eq_getElem hin] at this
          injection this
        rw [e, hy]
        rfl)
      have ho8 : w8.ownsRow w.heap.size 90 5 (.slice A3 ni c3) ni ((js.set i y).flatMap Wh.vs) := by
        rw [← hset]
        exact ho8
      have hcy : y.con = (js.getD i wh0).con := by rw [hy, ← hx5]
      have hN7 : w.heap.size ≤ w7.heap.size := by omega
      have yO : y.Own N w8 := by
        rw [hy]
        exact Wh.Own.put ⟨.inr (own_lowB ho7 (by omega)), xO.m, ⟨xO.o.s, xO.o.a, xO.o.q, xO.o.lo, xO.o.hi⟩, own_le' ho7⟩ (Below.mono hb8 hN) hC8 (by decide)
      have hk8 := hC8.blk ((hk5.ext hS).ext he7) (by decide)
      have hq8 := ((hq5.ext hS).ext he7)
      have e8 : Ext w w8 := ((he5.trans hS).trans he7).grw hg8 (fun g hg => by have := (ho57.lt g hg).1; omega)
      have hq8' := hC8.blk hq8 (by decide)
      refine D.done (by kernel_rfl) ?_
      replace hk5 := hk5.ext hS1
      refine J.region ?_
      refine L.va rfl (X.add rfl rfl (by omega)) ?_
      refine L.va rfl (X.move (by conv => lhs; whnf)) ?_
      refine L.nil ?_
      refine ⟨(i + 1, js.set i y), At1 (by first | rfl | exact at_int rfl (by omega) | exact at_slice rfl (by omega) | exact at_int rfl (by simp)), (by (iterate 17 refine Agr.lk rfl ?_); exact Agr.lk rfl (Agr.hav rfl Agr.rfl')), ?_⟩
      refine ⟨⟨by omega, by rw [List.length_set]; exact hl5, by rw [map_setD hin hcy]; exact hc5, fun z hz => ?_, ho8, hk8, hq8', e8, by omega⟩, by show ni - (i + 1) < ni - i; omega⟩
      rcases List.mem_or_eq_of_mem_set hz with hz | rfl
      · exact ⟨(((hj5 z hz).1.ext hS).ext he7).put (Below.mono hb8 hN) hC8 (by decide), (hj5 z hz).2⟩
      · exact ⟨yO, by rw [hy]; exact xn⟩
    · have hlt : ¬ (i : Int) < (ni : Int) := hlt
      obtain rfl : i = ni := by omega
      have c6 := cloneRe Ar nr cr rs w5 ((hrr.ext he5).more he5.le) (by omega) lr
      refine J.exit ?_
      refine J.seq ?_
      refine J.region ?_
      refine L.va rfl (X.fieldAddr rfl Try.underlying61 rfl sz_59 (by decide)) ?_
      refine L.va rfl (X.load rfl sc_59 (by first | exact Ld.blk hk5 rfl)) ?_
      refine L.call rfl en_66 rfl (c6) ?_
      rintro e w6 ⟨A6, c6', rfl, ho6, he6⟩
      refine ⟨_, rfl, ?_⟩
      have z6 := he6.le
      have hk6 := hk5.ext he6
      have hq6 := hq5.ext he6
      refine L.va rfl (X.fieldAddr rfl Try.underlying61 rfl sz_59 (by decide)) ?_
      refine L.store rfl rfl (by conv => lhs; whnf) rfl sz_59 (hk6) (by first | decide | exact Nat.le_of_ble_eq_true rfl) ?_
      intro w7 hk7 hg7 hs7
      have hk7 : Blk w7 b1 61 (Ce.mk k t A3 i c3 js A6 nr c6' rs).vs.toArray := hk7
      have hC7 : TCh 61 w6 w7 := TCh.put hk6 hg7
      have ho7 := hC7.own ho6 (by decide)
      have hw7 := hC7.own (ho5.ext he6) (by decide)
      have hq7 := hq6.grown hg7 (fun e => by injection e with e; omega)
      have e7 : Ext w w7 := (he5.trans he6).grw hg7 (by intro g hg; injection hg with hg; omega)
      have z7 := e7.le
      have b7 : Below w.heap.size w6 w7 := Chg.below (.of_grown hg7 (S := fun g => g = b1) (fun g hg => by injection hg with hg; exact hg.symm)) (by omega) (fun g hg => by omega)
      have hw8 : ∀ y ∈ js, y.Own N w7 ∧ y.n ≤ 20 := fun y hy => ⟨((hj5 y hy).1.ext he6).put (Below.mono b7 hN) hC7 (by decide), (hj5 y hy).2⟩
      have ho7 := own_lowB ho7 z5
      refine L.nil ?_
      refine J.seq ?_
      refine J.seq ?_
      refine J.region ?_
      refine L.va rfl (X.fieldAddr rfl Try.underlying61 rfl sz_59 (by decide)) ?_
      refine L.va rfl (X.load rfl sc_59 (by first | exact Ld.blk hk7 rfl)) ?_
      refine L.va rfl (X.len rfl Try.underlying59) ?_
      refine L.va rfl (X.move (by conv => lhs; whnf)) ?_
      refine L.nil ?_
      refine J.block ?_
      refine J.loop (X := Nat × List Re) [4, 35, 36, 37, 38, 39, 40, 41, 42, 43, 44, 45, 46, 47, 48, 49, 50] (fun (i, js) => [(35, .int .i64 (i : Int))]) (fun (j, ks) w' => j ≤ nr ∧ ks.length = nr ∧ ks.map Re.con = rs.map Re.con ∧ (∀ y ∈ ks, y.Own N w' ∧ y.n ≤ 300) ∧ (∀ y ∈ js, y.Own N w' ∧ y.n ≤ 20) ∧ w'.ownsRow w.heap.size 94 3 (.slice A6 nr c6') nr (ks.flatMap Re.vs) ∧ w'.ownsRow w.heap.size 90 5 (.slice A3 i c3) i (js.flatMap Wh.vs) ∧ Blk w' b1 61 (Ce.mk k t A3 i c3 js A6 nr c6' rs).vs.toArray ∧ Blk w' b2 61 #[.int .u64 0, .int .i64 0, .slice none 0 0, .slice none 0 0] ∧ Ext w w' ∧ w.heap.size ≤ w'.heap.size) (fun (i, _) => nr - i) ((0, rs)) (At1 (by first | rfl | exact at_int rfl (by omega) | exact at_slice rfl (by omega) | exact at_int rfl (by simp))) ?_ ?_
      · refine ⟨Nat.zero_le _, lr, rfl, fun y hy => ⟨⟨.inl ((hx.hr y hy).r.ext e7), (hx.hr y hy).m, (hx.hr y hy).o⟩, hL.lr y hy⟩, hw8, ho7, hw7, hk7, hq7, e7, z7⟩
      · rintro ⟨j, ks⟩ g w9 ⟨hj, hl9, hc9, hk9, hj9, ho9, hi9, hb9, hq9, e9, z9⟩
        refine J.seq ?_
        refine J.region ?_
        refine L.va rfl (X.lss rfl rfl) ?_
        refine L.nil ?_
        refine J.seq ?_
        refine J.dec rfl (fun hlt2 => ?_) (fun hlt2 => ?_)
        · have hlt2 : (j : Int) < (nr : Int) := hlt2
          have hin : j < ks.length := by omega
          obtain ⟨x, hx9⟩ : ∃ x, x = ks.getD j re0 := ⟨_, rfl⟩
          have gx := gtR (l := ks) (i := j) hin
          have mx := memD (l := ks) (i := j) (d := re0) hin
          rw [← hx9] at gx mx
          have xO := (hk9 x mx).1
          have xn := (hk9 x mx).2
          have hA := own_ne ho9 (by omega)
          refine J.skip ?_
          refine J.seq ?_
          refine J.block ?_
          refine J.seq ?_
          refine J.region ?_
          refine L.va rfl (X.move (by conv => lhs; whnf)) ?_
          refine L.va rfl (X.assign (by conv => lhs; whnf)) ?_
          refine L.nil ?_
          refine J.draw (ℓ := 12) (S := Ext w9) mixed (fun w10 hS hS_h => ?_)
          refine D.va 0 rfl (by kernel_rfl) (fun _ _ _ h => h) rfl (fun w' hw => X.fieldAddr rfl Try.underlying61 rfl sz_59 (by decide)) hS ?_
          refine D.va 1 rfl (by kernel_rfl) (fun _ _ _ h => h) rfl (fun w' hw => X.load rfl sc_59 (by first | exact Ld.blk (hb9.ext hw) rfl | exact hA | exact Ld.flat2 re_len (Reads.of_own (ho9.ext hw)) gx (r := 0) rfl)) hS ?_
          refine D.va 2 rfl (by kernel_rfl) (fun _ _ _ h => h) rfl (fun w' hw => X.move (by conv => lhs; whnf)) hS ?_
          refine D.va 3 rfl (by kernel_rfl) (fun _ _ _ h => h) rfl (fun w' hw => X.fieldAddr rfl Try.underlying61 rfl sz_59 (by decide)) hS ?_
          refine D.va 4 rfl (by kernel_rfl) (fun _ _ _ h => h) rfl (fun w' hw => X.load rfl sc_59 (by first | exact Ld.blk (hb9.ext hw) rfl | exact hA | exact Ld.flat2 re_len (Reads.of_own (ho9.ext hw)) gx (r := 0) rfl)) hS ?_
          refine D.va 5 rfl (by kernel_rfl) (fun _ _ _ h => h) rfl (fun w' hw => X.move (by conv => lhs; whnf)) hS ?_
          refine D.va 6 rfl (by kernel_rfl) (fun _ _ _ h => h) rfl (fun w' hw => (by first | exact X.indexAddrn rfl rfl Try.underlying59 sz_94 (by first | exact Option.some_ne_none _ | exact hA) (by omega) | exact X.indexAddr rfl rfl Try.underlying59 sz_94 (by first | exact Option.some_ne_none _ | exact hA) (by omega))) hS ?_
          refine D.va 7 rfl (by kernel_rfl) (fun _ _ _ h => h) rfl (fun w' hw => X.fieldP rfl Try.underlying94 rfl sz_91 (by decide) (by first | exact Option.some_ne_none _ | exact hA)) hS ?_
          refine D.va 8 rfl (by kernel_rfl) (fun _ _ _ h => h) rfl (fun w' hw => X.load rfl sc_91 (by first | exact Ld.blk (hb9.ext hw) rfl | exact hA | exact Ld.flat2 re_len (Reads.of_own (ho9.ext hw)) gx (r := 0) rfl)) hS ?_
          have zS := hS.le
          have c2 := cloneBy x.A x.n x.c x.b _ ((xO.ext hS).at (by omega)).r (by omega)
          refine D.one 9 (by kernel_rfl) rfl ?_
          refine L.call rfl en_67 rfl (c2) ?_
          rintro e w11 ⟨A11, c11, rfl, ho11, he11⟩
          refine ⟨_, rfl, ?_⟩
          have hS1 := hS.trans he11
          refine L.nil ?_
          refine ⟨fun _ => hS1, ?_⟩
          have z11 := he11.le
          have hoA := (ho9.ext hS).ext he11
          refine D.va 10 rfl (by kernel_rfl) (fun _ _ _ h => h) rfl (fun w' hw => (by first | exact X.indexAddrn rfl rfl Try.underlying59 sz_94 (by first | exact Option.some_ne_none _ | exact hA) (by omega) | exact X.indexAddr rfl rfl Try.underlying59 sz_94 (by first | exact Option.some_ne_none _ | exact hA) (by omega))) hS1 ?_
          refine D.va 11 rfl (by kernel_rfl) (fun _ _ _ h => h) rfl (fun w' hw => X.fieldP rfl Try.underlying94 rfl sz_91 (by decide) (by first | exact Option.some_ne_none _ | exact hA)) hS1 ?_
          refine D.one 12 (by kernel_rfl) rfl ?_
          refine L.storeO rfl rfl (by conv => lhs; whnf) rfl sz_91 (hoA) (by first | omega | (simp; omega)) ?_
          intro w12 ho12 hg12 hb12 hs12
          refine L.nil ?_
          refine ⟨fun h => absurd rfl h, ?_⟩
          have hC12 : TCh 94 w11 w12 := TCh.row hoA hg12
          obtain ⟨y, hy⟩ : ∃ y : Re, y = ⟨A11, x.n, c11, x.b, x.lo, x.hi⟩ := ⟨_, rfl⟩
          have hset := flat_set (f := Re.vs) (r := 0) (v := .slice A11 x.n c11) (y := y) re_len ks j hin (by omega) (by
            have e : ks[j]'hin = x := by
              have := gx
              rw [List.getElem?_eq_getElem hin] at this
              injection this
            rw [e, hy]
            rfl)
          have ho12 : w12.ownsRow w.heap.size 94 3 (.slice A6 nr c6') nr ((ks.set j y).flatMap Re.vs) := by
            rw [← hset]
            exact ho12
          have hcy : y.con = (ks.getD j re0).con := by rw [hy, ← hx9]
          have yO : y.Own N w12 := by
            rw [hy]
            exact Re.Own.put ⟨.inr (own_lowB ho11 (by omega)), xO.m, ⟨xO.o.b, xO.o.lo, xO.o.hi⟩⟩ (Below.mono hb12 hN) hC12 (by decide)
          have hk12 := hC12.blk ((hb9.ext hS).ext he11) (by decide)
          have hq12 := hC12.blk ((hq9.ext hS).ext he11) (by decide)
          have hi12 := hC12.own ((hi9.ext hS).ext he11) (by decide)
          have e12 : Ext w w12 := ((e9.trans hS).trans he11).grw hg12 (fun g hg => (hoA.lt g hg).1)
          refine D.done (by kernel_rfl) ?_
          replace hb9 := hb9.ext hS1
          refine J.region ?_
          refine L.va rfl (X.add rfl rfl (by omega)) ?_
          refine L.va rfl (X.move (by conv => lhs; whnf)) ?_
          refine L.nil ?_
          refine ⟨(j + 1, ks.set j y), At1 (by first | rfl | exact at_int rfl (by omega) | exact at_slice rfl (by omega) | exact at_int rfl (by simp)), (by (iterate 17 refine Agr.lk rfl ?_); exact Agr.lk rfl (Agr.hav rfl Agr.rfl')), ?_⟩
          refine ⟨⟨by omega, by rw [List.length_set]; exact hl9, by rw [map_setD hin hcy]; exact hc9, fun z hz => ?_, fun z hz => ⟨(((hj9 z hz).1.ext hS).ext he11).put (Below.mono hb12 hN) hC12 (by decide), (hj9 z hz).2⟩, ho12, hi12, hk12, hq12, e12, by omega⟩, by show nr - (j + 1) < nr - j; omega⟩
          rcases List.mem_or_eq_of_mem_set hz with hz | rfl
          · exact ⟨(((hk9 z hz).1.ext hS).ext he11).put (Below.mono hb12 hN) hC12 (by decide), (hk9 z hz).2⟩
          · exact ⟨yO, by rw [hy]; exact xn⟩
        · have hlt2 : ¬ (j : Int) < (nr : Int) := hlt2
          obtain rfl : j = nr := by omega
          refine J.exit ?_
          refine J.seq ?_
          refine J.region ?_
          refine L.va rfl ((by first | exact X.loadAgg rfl (range_l hb9) Try.underlying61 rfl (by kernel_rfl) | exact X.loadAgg rfl (range_blk hb9) Try.underlying61 rfl (by kernel_rfl))) ?_
          refine L.storeAgg (vs := [_, _, _, _]) rfl rfl rfl rfl sz_61 (hq9) rfl ?_
          intro w10 hk10 hg10 hs10
          have hk10 : Blk w10 b2 61 (Ce.mk k t A3 i c3 js A6 j c6' rs).vs.toArray := hk10
          have hC10 : TCh 61 w9 w10 := TCh.put hq9 hg10
          have b10 : Below w.heap.size w9 w10 := Chg.below (.of_grown hg10 (S := fun g => g = b2) (fun g hg => by injection hg with hg; exact hg.symm)) (by omega) (fun g hg => by omega)
          have e10 : Ext w w10 := e9.grw hg10 (by intro g hg; injection hg with hg; omega)
          have z10 := e10.le
          refine L.nil ?_
          refine J.ret ?_
          refine finC rfl (run_cell hk10 Try.underlying61 rfl (by kernel_rfl)) ?_
          refine ⟨⟨k, t, A3, i, c3, js, A6, j, c6', ks⟩, rfl, ?_, ⟨hx.k, hx.t, own_lowB (hC10.own hi9 (by decide)) hN, fun y hy => (hj9 y hy).1.put (Below.mono b10 hN) hC10 (by decide), hl5, own_lowB (hC10.own ho9 (by decide)) hN, fun y hy => (hk9 y hy).1.put (Below.mono b10 hN) hC10 (by decide), hl9, ⟨Li, Lr, fun y hy => (hj9 y hy).2, fun y hy => (hk9 y hy).2⟩⟩, e10⟩
          show Con.mk k t _ _ = Con.mk k t _ _
          rw [hc5, hc9]
end Go.Proofs.Ytpomklkfedpkfaa
namespace Go.Proofs.Ytpomklkfedpkfaa
set_option maxRecDepth 100000
open Go.RowKit H
open Exa Flo
set_option linter.unusedVariables false
def okQ (q : List Int) : Bool := decide (q.length ≤ 7) && decide (0 < q.length → q.getD (q.length - 1) 0 ≠ 0)
def okW (x : WC) : Bool := decide (0 ≤ x.2.1 ∧ x.1 ≤ x.2.1 ∧ -x.2.1 ≤ x.1 ∧ x.2.2.2.1 ≤ x.2.2.2.2) && okQ x.2.2.1
def okR (x : RC) : Bool := decide (readE x.1 = 0) && decide (¬ keyF x.2.2 < keyF x.2.1)
def rightC (s : Sch) (m : Nat) (x : Con) : Bool := (s.kb m && decide ((x.k : Int) < s.kv m ∧ 1 ≤ x.t ∧ x.is.length = s.n1 ∧ x.rs.length = s.n2)) && (x.is.all okW && x.rs.all okR)
section
variable {s : Sch} {m : Nat} {x : Ce}
theorem all_no {α : Type} {p : α → Bool} {l : List α} {d : α} {i : Nat} (hi : i < l.length) (h : p (l.getD i d) = false) : l.all p = false := by
  rw [← Bool.not_eq_true, List.all_eq_true]
  intro h2
  rw [h2 _ (memD hi)] at h
  cases h
theorem all_yes {α : Type} {p : α → Bool} {l : List α} {d : α} (h : ∀ i, i < l.length → p (l.getD i d) = true) : l.all p = true := by
  rw [List.all_eq_true]
  intro q hq
  obtain ⟨i, hi, rfl⟩ := List.getElem_of_mem hq
  have := h i hi
  rwa [List.getD, List.getElem?_eq_getElem hi] at this
theorem rightC_kb (h : s.kb m = false) : rightC s m x.con = false := by unfold rightC; rw [h]; rfl
theorem rightC_h (h : ¬ ((x.k : Int) < s.kv m ∧ 1 ≤ x.t ∧ x.is.length = s.n1 ∧ x.rs.length = s.n2)) : rightC s m x.con = false := by
  unfold rightC
  rw [decide_eq_false (by simpa [Ce.con] using h), Bool.and_false]
  rfl
theorem rightC_i {i : Nat} (hi : i < x.is.length) (h : okW (x.is.getD i wh0).con = false) : rightC s m x.con = false := by
  unfold rightC
  rw [show (x.con.is.all okW) = false from by
    show (x.is.map Wh.con).all okW = false
    rw [List.all_map]
    exact all_no (d := wh0) hi h]
  simp
theorem rightC_r {i : Nat} (hi : i < x.rs.length) (h : okR (x.rs.getD i re0).con = false) : rightC s m x.con = false := by
  unfold rightC
  rw [show (x.con.rs.all okR) = false from by
    show (x.rs.map Re.con).all okR = false
    rw [List.all_map]
    exact all_no (d := re0) hi h]
  simp
theorem rightC_yes (h0 : s.kb m = true) (h1 : (x.k : Int) < s.kv m ∧ 1 ≤ x.t ∧ x.is.length = s.n1 ∧ x.rs.length = s.n2) (h2 : ∀ i, i < x.is.length → okW (x.is.getD i wh0).con = true) (h3 : ∀ i, i < x.rs.length → okR (x.rs.getD i re0).con = true) : rightC s m x.con = true := by
  unfold rightC
  rw [h0, decide_eq_true (by simpa [Ce.con] using h1), show (x.con.is.all okW) = true from by
    show (x.is.map Wh.con).all okW = true
    rw [List.all_map]
    exact all_yes (d := wh0) h2, show (x.con.rs.all okR) = true from by
    show (x.rs.map Re.con).all okR = true
    rw [List.all_map]
    exact all_yes (d := re0) h3]
  rfl
theorem okW_no {y : Wh} (h : y.a < 0 ∨ y.a < y.s ∨ y.s < -y.a ∨ y.hi < y.lo) : okW y.con = false := by
  unfold okW
  rw [decide_eq_false]
  · rfl
  · show ¬ (0 ≤ y.a ∧ y.s ≤ y.a ∧ -y.a ≤ y.s ∧ y.lo ≤ y.hi)
    omega
theorem okW_q {y : Wh} (h : okQ y.q = false) : okW y.con = false := by
  unfold okW
  rw [show okQ y.con.2.2.1 = false from h, Bool.and_false]
theorem okW_yes {y : Wh} (h : 0 ≤ y.a ∧ y.s ≤ y.a ∧ -y.a ≤ y.s ∧ y.lo ≤ y.hi) (hq : okQ y.q = true) : okW y.con = true := by
  unfold okW
  rw [decide_eq_true (show 0 ≤ y.con.2.1 ∧ y.con.1 ≤ y.con.2.1 ∧ -y.con.2.1 ≤ y.con.1 ∧ y.con.2.2.2.1 ≤ y.con.2.2.2.2 from h), show okQ y.con.2.2.1 = true from hq]
  rfl
theorem okQ_siz {q : List Int} {k : Nat} (hs : SizN q k) (h7 : q.length ≤ 7) : okQ q = decide (k = q.length) := by
  unfold okQ
  rw [decide_eq_true h7, Bool.true_and]
  by_cases h : k = q.length
  · rw [decide_eq_true h, decide_eq_true]
    intro h0
    subst h
    exact hs.nz h0
  · rw [decide_eq_false h, decide_eq_false]
    intro h0
    have := hs.le
    exact h0 (by omega) (hs.z _ (by omega) (by omega))
end
theorem aright {s : Sch} {m : Nat} {x : Ce} {w : World} {N : Nat} (H : s.Here w) (hm : m < 4294967296) (hN : N ≤ w.heap.size) (hx : x.At N w) (hL : x.Lt) : Calls Try.prog 58 #[s.val, .int .u32 (m : Int), x.val] w fun e w' => e = .returned (.bool (rightC s m x.con)) ∧ Ext w w' := by
  have li := hx.li
  have lr := hx.lr
  have Li := hL.i
  have Lr := hL.r
  have hle := H.hle
  have no : ∀ w' : World, rightC s m x.con = false → Ext w w' → Ending.returned (.bool false) = .returned (.bool (rightC s m x.con)) ∧ Ext w w' := fun w' h he => ⟨by rw [h], he⟩
  refine enter Try.func58 rfl (by kernel_rfl) ?_
  refine J.seq ?_
  refine J.region ?_
  refine L.boxA (l := [_, _, _, _]) rfl rfl ?_
  intro b1 w1 hb1 hs1 hk1 he1
  refine L.boxA (l := [_, _, _, _]) rfl rfl ?_
  intro b2 w2 hb2 hs2 hk2 he2
  have he02 := he1.trans he2
  have hk1 := hk1.ext he2
  have hk2 : Blk w2 b2 61 x.vs.toArray := hk2
  refine L.va rfl (X.assign (by conv => lhs; whnf)) ?_
  refine L.nil ?_
  refine J.seq ?_
  refine J.region ?_
  refine L.va rfl ((by first | exact X.loadAgg rfl (range_l hk1) Try.underlying47 rfl (by kernel_rfl) | exact X.loadAgg rfl (range_blk hk1) Try.underlying47 rfl (by kernel_rfl))) ?_
  refine L.va rfl (X.move (by conv => lhs; whnf)) ?_
  refine L.call rfl en_57 rfl ((H.ext he02).keys hm) ?_
  rintro e w3 ⟨rfl, he3⟩
  refine ⟨_, rfl, ?_⟩
  have he3 : Ext w2 w3 := he3
  have he03 := he02.trans he3
  have hk1 := hk1.ext he3
  have hk2 := hk2.ext he3
  have ek : x.con.k = x.k := rfl
  refine L.va rfl (X.move (by conv => lhs; whnf)) ?_
  refine L.va rfl (X.extract rfl rfl) ?_
  refine L.va rfl (X.extract rfl rfl) ?_
  refine L.va rfl (X.assign (by conv => lhs; whnf)) ?_
  refine L.va rfl (X.assign (by conv => lhs; whnf)) ?_
  refine L.nil ?_
  refine J.seq ?_
  refine J.seq ?_
  refine J.region ?_
  refine L.va rfl (X.move (by conv => lhs; whnf)) ?_
  refine L.va rfl (X.not rfl) ?_
  refine L.va rfl (X.move (by conv => lhs; whnf)) ?_
  cases hkb : s.kb m
  · refine L.caseBT (k := 23) rfl (by rfl) ?_
    refine L.no rfl ?_
    refine L.no rfl ?_
    refine L.no rfl ?_
    refine L.no rfl ?_
    refine L.va rfl (X.pickT rfl (by conv => lhs; whnf)) ?_
    refine L.va rfl (X.move (by conv => lhs; whnf)) ?_
    refine L.no rfl ?_
    refine L.no rfl ?_
    refine L.no rfl ?_
    refine L.va rfl (X.pickT rfl (by conv => lhs; whnf)) ?_
    refine L.va rfl (X.move (by conv => lhs; whnf)) ?_
    refine L.no rfl ?_
    refine L.no rfl ?_
    refine L.no rfl ?_
    refine L.no rfl ?_
    refine L.no rfl ?_
    refine L.no rfl ?_
    refine L.no rfl ?_
    refine L.va rfl (X.pickT rfl (by conv => lhs; whnf)) ?_
    refine L.va rfl (X.move (by conv => lhs; whnf)) ?_
    refine L.no rfl ?_
    refine L.no rfl ?_
    refine L.no rfl ?_
    refine L.no rfl ?_
    refine L.no rfl ?_
    refine L.no rfl ?_
    refine L.no rfl ?_
    refine L.va rfl (X.pickT rfl (by conv => lhs; whnf)) ?_
    refine L.nil ?_
    refine J.iteT rfl ?_
    refine J.seq ?_
    refine J.region ?_
    refine L.va rfl (X.assign (by conv => lhs; whnf)) ?_
    refine L.nil ?_
    refine J.ret ?_
    refine thn_ret <| ?_
    refine fin1 ?_
    exact no _ (rightC_kb hkb) he03
  · refine L.caseBF (k := 23) rfl (by rfl) ?_
    refine L.va rfl (X.fieldAddr rfl Try.underlying61 rfl sz_36 (by decide)) ?_
    refine L.va rfl (X.load rfl sc_36 (by first | exact Ld.blk hk1 rfl | exact Ld.blk hk2 rfl)) ?_
    refine L.va rfl (X.move (by conv => lhs; whnf)) ?_
    refine L.va rfl (X.geq rfl rfl) ?_
    refine L.va rfl (X.pickF rfl (by conv => lhs; whnf)) ?_
    refine L.va rfl (X.move (by conv => lhs; whnf)) ?_
    refine L.caseDec (k := 29) rfl (fun h1 => ?_) (fun h1 => ?_)
    · refine L.no rfl ?_
      refine L.no rfl ?_
      refine L.no rfl ?_
      refine L.va rfl (X.pickT rfl (by conv => lhs; whnf)) ?_
      refine L.va rfl (X.move (by conv => lhs; whnf)) ?_
      refine L.no rfl ?_
      refine L.no rfl ?_
      refine L.no rfl ?_
      refine L.no rfl ?_
      refine L.no rfl ?_
      refine L.no rfl ?_
      refine L.no rfl ?_
      refine L.va rfl (X.pickT rfl (by conv => lhs; whnf)) ?_
      refine L.va rfl (X.move (by conv => lhs; whnf)) ?_
      refine L.no rfl ?_
      refine L.no rfl ?_
      refine L.no rfl ?_
      refine L.no rfl ?_
      refine L.no rfl ?_
      refine L.no rfl ?_
      refine L.no rfl ?_
      refine L.va rfl (X.pickT rfl (by conv => lhs; whnf)) ?_
      refine L.nil ?_
      refine J.iteT rfl ?_
      refine J.seq ?_
      refine J.region ?_
      refine L.va rfl (X.assign (by conv => lhs; whnf)) ?_
      refine L.nil ?_
      refine J.ret ?_
      refine thn_ret <| ?_
      refine fin1 ?_
      exact no _ (rightC_h (by omega)) he03
    refine L.va rfl (X.fieldAddr rfl Try.underlying61 rfl sz_2 (by decide)) ?_
    refine L.va rfl (X.load rfl sc_2 (by first | exact Ld.blk hk1 rfl | exact Ld.blk hk2 rfl)) ?_
    refine L.va rfl (X.lss rfl rfl) ?_
    refine L.va rfl (X.pickF rfl (by conv => lhs; whnf)) ?_
    refine L.va rfl (X.move (by conv => lhs; whnf)) ?_
    refine L.caseDec (k := 34) rfl (fun h2 => ?_) (fun h2 => ?_)
    · refine L.no rfl ?_
      refine L.no rfl ?_
      refine L.no rfl ?_
      refine L.no rfl ?_
      refine L.no rfl ?_
      refine L.no rfl ?_
      refine L.no rfl ?_
      refine L.va rfl (X.pickT rfl (by conv => lhs; whnf)) ?_
      refine L.va rfl (X.move (by conv => lhs; whnf)) ?_
      refine L.no rfl ?_
      refine L.no rfl ?_
      refine L.no rfl ?_
      refine L.no rfl ?_
      refine L.no rfl ?_
      refine L.no rfl ?_
      refine L.no rfl ?_
      refine L.va rfl (X.pickT rfl (by conv => lhs; whnf)) ?_
      refine L.nil ?_
      refine J.iteT rfl ?_
      refine J.seq ?_
      refine J.region ?_
      refine L.va rfl (X.assign (by conv => lhs; whnf)) ?_
      refine L.nil ?_
      refine J.ret ?_
      refine thn_ret <| ?_
      refine fin1 ?_
      exact no _ (rightC_h (by omega)) he03
    refine L.va rfl (X.fieldAddr rfl Try.underlying61 rfl sz_58 (by decide)) ?_
    refine L.va rfl (X.load rfl sc_58 (by first | exact Ld.blk hk1 rfl | exact Ld.blk hk2 rfl)) ?_
    refine L.va rfl (X.len rfl Try.underlying58) ?_
    refine L.va rfl (X.fieldAddr rfl Try.underlying47 rfl sz_44 (by decide)) ?_
    refine L.va rfl (X.load rfl sc_44 (by first | exact Ld.blk hk1 rfl | exact Ld.blk hk2 rfl)) ?_
    refine L.va rfl (X.len rfl Try.underlying44) ?_
    refine L.va rfl (X.neq rfl rfl) ?_
    refine L.va rfl (X.pickF rfl (by conv => lhs; whnf)) ?_
    refine L.va rfl (X.move (by conv => lhs; whnf)) ?_
    refine L.caseNdec (k := 43) rfl (fun h3 => ?_) (fun h3 => ?_)
    · refine L.no rfl ?_
      refine L.no rfl ?_
      refine L.no rfl ?_
      refine L.no rfl ?_
      refine L.no rfl ?_
      refine L.no rfl ?_
      refine L.no rfl ?_
      refine L.va rfl (X.pickT rfl (by conv => lhs; whnf)) ?_
      refine L.nil ?_
      refine J.iteT rfl ?_
      refine J.seq ?_
      refine J.region ?_
      refine L.va rfl (X.assign (by conv => lhs; whnf)) ?_
      refine L.nil ?_
      refine J.ret ?_
      refine thn_ret <| ?_
      refine fin1 ?_
      exact no _ (rightC_h (by omega)) he03
    refine L.va rfl (X.fieldAddr rfl Try.underlying61 rfl sz_59 (by decide)) ?_
    refine L.va rfl (X.load rfl sc_59 (by first | exact Ld.blk hk1 rfl | exact Ld.blk hk2 rfl)) ?_
    refine L.va rfl (X.len rfl Try.underlying59) ?_
    refine L.va rfl (X.fieldAddr rfl Try.underlying47 rfl sz_44 (by decide)) ?_
    refine L.va rfl (X.load rfl sc_44 (by first | exact Ld.blk hk1 rfl | exact Ld.blk hk2 rfl)) ?_
    refine L.va rfl (X.len rfl Try.underlying44) ?_
    refine L.va rfl (X.neq rfl rfl) ?_
    refine L.va rfl (X.pickF rfl (by conv => lhs; whnf)) ?_
    refine L.nil ?_
    refine J.ndec rfl (fun h4 => ?_) (fun h4 => ?_)
    · refine J.seq ?_
      refine J.region ?_
      refine L.va rfl (X.assign (by conv => lhs; whnf)) ?_
      refine L.nil ?_
      refine J.ret ?_
      refine thn_ret <| ?_
      refine fin1 ?_
      exact no _ (rightC_h (by omega)) he03
    have hh : (x.k : Int) < s.kv m ∧ 1 ≤ x.t ∧ x.is.length = s.n1 ∧ x.rs.length = s.n2 := by omega
    refine J.skip ?_
    refine J.cut (X := Unit) [6, 10, 52, 53, 54, 55, 56, 57, 58, 59, 60, 61, 62, 63, 64, 65, 66, 67, 68, 69, 70, 71, 72, 73, 74, 75, 76, 77, 78, 79, 80, 81, 82, 83, 84, 85, 86, 87, 88, 89, 90, 91, 92, 93, 94, 95, 96, 97, 98, 99, 100] (fun _ => []) (fun _ w' => (∀ i, i < x.is.length → okW (x.is.getD i wh0).con = true) ∧ Ext w3 w') ?_ ?_
    · refine J.seq ?_
      refine J.region ?_
      refine L.va rfl (X.fieldAddr rfl Try.underlying61 rfl sz_58 (by decide)) ?_
      refine L.va rfl (X.load rfl sc_58 (by first | exact Ld.blk hk1 rfl | exact Ld.blk hk2 rfl)) ?_
      refine L.va rfl (X.len rfl Try.underlying58) ?_
      refine L.va rfl (X.move (by conv => lhs; whnf)) ?_
      refine L.nil ?_
      refine J.block ?_
      refine J.loop (X := Nat) [6, 10, 55, 56, 57, 58, 59, 60, 61, 62, 63, 64, 65, 66, 67, 68, 69, 70, 71, 72, 73, 74, 75, 76, 77, 78, 79, 80, 81, 82, 83, 84, 85, 86, 87, 88, 89, 90, 91, 92, 93, 94, 95, 96, 97, 98, 99, 100] (fun i => [(55, .int .i64 (i : Int))]) (fun i w' => i ≤ x.ni ∧ (∀ j, j < i → okW (x.is.getD j wh0).con = true) ∧ Ext w3 w') (fun i => x.ni - i) (0) (At1 (by first | rfl | exact at_int rfl (by omega) | exact at_slice rfl (by omega) | exact at_int rfl (by simp))) ?_ ?_
      · exact ⟨Nat.zero_le _, fun j hj => absurd hj (by omega), Ext.refl _⟩
      · rintro i g w4 ⟨hi, hP, he34⟩
        have he4 := he03.trans he34
        have z4 := he4.le
        refine J.seq ?_
        refine J.region ?_
        refine L.va rfl (X.lss rfl rfl) ?_
        refine L.nil ?_
        refine J.seq ?_
        refine J.dec rfl (fun hlt => ?_) (fun hlt => ?_)
        · have hin : i < x.is.length := by omega
          have hr4 := hx.i.ext he4
          have hA := hr4.some_ (by omega)
          have gy := gtW hin
          have my := memD (l := x.is) (i := i) (d := wh0) hin
          obtain ⟨y, hy⟩ : ∃ y, y = x.is.getD i wh0 := ⟨_, rfl⟩
          rw [← hy] at gy my
          have hbad : okW y.con = false → rightC s m x.con = false := fun h => rightC_i hin (by rw [← hy]; exact h)
          have y4 := (hx.hi y my).ext he4
          have yo := y4.o
          have ya := yo.a
          have ycp := y4.cp
          have y20 := hL.li y my
          have yl := y4.len
          refine J.skip ?_
          refine J.seq ?_
          refine J.block ?_
          refine J.seq ?_
          refine J.region ?_
          refine L.va rfl ((by first | exact X.indexAddrn rfl rfl Try.underlying58 sz_90 (by first | exact Option.some_ne_none _ | exact hA) (by omega) | exact X.indexAddr rfl rfl Try.underlying58 sz_90 (by first | exact Option.some_ne_none _ | exact hA) (by omega))) ?_
          refine L.va rfl (X.loadRow (cs := y.vs) rfl hr4 (fun r u hu => flat_row wh_len gy r u hu) (Nat.zero_lt_succ _) Try.underlying90 rfl (by kernel_rfl)) ?_
          refine L.alloc rfl zr_90 ?_
          intro b5 w5 hb5 hs5 hk5 he5
          refine L.storeAgg (vs := [_, _, _, _, _]) rfl rfl rfl rfl sz_90 (hk5) rfl ?_
          intro w6 hk6 hg6 hs6
          have he46 : Ext w4 w6 := he5.grw hg6 (by intro g hg; injection hg with hg; omega)
          have hk6 : Blk w6 b5 90 y.vs.toArray := hk6
          have he06 := he4.trans he46
          refine L.nil ?_
          refine J.seq ?_
          refine J.draw (ℓ := 1000000) (S := Ext w6) mixed (fun w7 hS hS_h => ?_)
          refine D.va 0 rfl (by kernel_rfl) (fun _ _ _ h => h) rfl (fun w' hw => X.fieldAddr rfl Try.underlying90 rfl sz_2 (by decide)) hS ?_
          refine D.va 1 rfl (by kernel_rfl) (fun _ _ _ h => h) rfl (fun w' hw => X.load rfl sc_2 (by first | exact Ld.blk (hk6.ext hw) rfl)) hS ?_
          refine D.va 2 rfl (by kernel_rfl) (fun _ _ _ h => h) rfl (fun w' hw => X.lss rfl rfl) hS ?_
          refine D.va 3 rfl (by kernel_rfl) (fun _ _ _ h => h) rfl (fun w' hw => X.move (by conv => lhs; whnf)) hS ?_
          have he07 := he06.trans hS
          refine D.caseDec (k := 62) rfl (fun h1 => ?_) (fun h1 => ?_)
          · refine D.no 4 rfl (by kernel_rfl) (fun _ _ _ h => h) rfl hS ?_
            refine D.no 5 rfl (by kernel_rfl) (fun _ _ _ h => h) rfl hS ?_
            refine D.no 6 rfl (by kernel_rfl) (fun _ _ _ h => h) rfl hS ?_
            refine D.no 7 rfl (by kernel_rfl) (fun _ _ _ h => h) rfl hS ?_
            refine D.no 8 rfl (by kernel_rfl) (fun _ _ _ h => h) rfl hS ?_
            refine D.va 9 rfl (by kernel_rfl) (fun _ _ _ h => h) rfl (fun w' hw => X.pickT rfl (by conv => lhs; whnf)) hS ?_
            refine D.va 10 rfl (by kernel_rfl) (fun _ _ _ h => h) rfl (fun w' hw => X.move (by conv => lhs; whnf)) hS ?_
            refine D.no 11 rfl (by kernel_rfl) (fun _ _ _ h => h) rfl hS ?_
            refine D.no 12 rfl (by kernel_rfl) (fun _ _ _ h => h) rfl hS ?_
            refine D.no 13 rfl (by kernel_rfl) (fun _ _ _ h => h) rfl hS ?_
            refine D.no 14 rfl (by kernel_rfl) (fun _ _ _ h => h) rfl hS ?_
            refine D.no 15 rfl (by kernel_rfl) (fun _ _ _ h => h) rfl hS ?_
            refine D.no 16 rfl (by kernel_rfl) (fun _ _ _ h => h) rfl hS ?_
            refine D.va 17 rfl (by kernel_rfl) (fun _ _ _ h => h) rfl (fun w' hw => X.pickT rfl (by conv => lhs; whnf)) hS ?_
            refine D.va 18 rfl (by kernel_rfl) (fun _ _ _ h => h) rfl (fun w' hw => X.move (by conv => lhs; whnf)) hS ?_
            refine D.no 19 rfl (by kernel_rfl) (fun _ _ _ h => h) rfl hS ?_
            refine D.no 20 rfl (by kernel_rfl) (fun _ _ _ h => h) rfl hS ?_
            refine D.no 21 rfl (by kernel_rfl) (fun _ _ _ h => h) rfl hS ?_
            refine D.no 22 rfl (by kernel_rfl) (fun _ _ _ h => h) rfl hS ?_
            refine D.no 23 rfl (by kernel_rfl) (fun _ _ _ h => h) rfl hS ?_
            refine D.va 24 rfl (by kernel_rfl) (fun _ _ _ h => h) rfl (fun w' hw => X.pickT rfl (by conv => lhs; whnf)) hS ?_
            refine D.va 25 rfl (by kernel_rfl) (fun _ _ _ h => h) rfl (fun w' hw => X.move (by conv => lhs; whnf)) hS ?_
            refine D.no 26 rfl (by kernel_rfl) (fun _ _ _ h => h) rfl hS ?_
            refine D.no 27 rfl (by kernel_rfl) (fun _ _ _ h => h) rfl hS ?_
            refine D.no 28 rfl (by kernel_rfl) (fun _ _ _ h => h) rfl hS ?_
            refine D.no 29 rfl (by kernel_rfl) (fun _ _ _ h => h) rfl hS ?_
            refine D.va 30 rfl (by kernel_rfl) (fun _ _ _ h => h) rfl (fun w' hw => X.pickT rfl (by conv => lhs; whnf)) hS ?_
            refine D.va 31 rfl (by kernel_rfl) (fun _ _ _ h => h) rfl (fun w' hw => X.move (by conv => lhs; whnf)) hS ?_
            refine D.no 32 rfl (by kernel_rfl) (fun _ _ _ h => h) rfl hS ?_
            refine D.no 33 rfl (by kernel_rfl) (fun _ _ _ h => h) rfl hS ?_
            refine D.no 34 rfl (by kernel_rfl) (fun _ _ _ h => h) rfl hS ?_
            refine D.no 35 rfl (by kernel_rfl) (fun _ _ _ h => h) rfl hS ?_
            refine D.no 36 rfl (by kernel_rfl) (fun _ _ _ h => h) rfl hS ?_
            refine D.no 37 rfl (by kernel_rfl) (fun _ _ _ h => h) rfl hS ?_
            refine D.no 38 rfl (by kernel_rfl) (fun _ _ _ h => h) rfl hS ?_
            refine D.no 39 rfl (by kernel_rfl) (fun _ _ _ h => h) rfl hS ?_
            refine D.va 40 rfl (by kernel_rfl) (fun _ _ _ h => h) rfl (fun w' hw => X.pickT rfl (by conv => lhs; whnf)) hS ?_
            refine D.done (by kernel_rfl) ?_
            replace hk6 := hk6.ext hS
            refine J.iteT rfl ?_
            refine J.seq ?_
            refine J.region ?_
            refine L.va rfl (X.assign (by conv => lhs; whnf)) ?_
            refine L.nil ?_
            refine J.ret ?_
            refine inB_ret <|  thn_ret <|  thn_ret <|  inB_ret <|  thn_ret <| ?_
            refine fin1 ?_
            exact no _ (hbad (okW_no (.inl h1))) he07
          · refine D.va 4 rfl (by kernel_rfl) (fun _ _ _ h => h) rfl (fun w' hw => X.fieldAddr rfl Try.underlying90 rfl sz_2 (by decide)) hS ?_
            refine D.va 5 rfl (by kernel_rfl) (fun _ _ _ h => h) rfl (fun w' hw => X.load rfl sc_2 (by first | exact Ld.blk (hk6.ext hw) rfl)) hS ?_
            refine D.va 6 rfl (by kernel_rfl) (fun _ _ _ h => h) rfl (fun w' hw => X.fieldAddr rfl Try.underlying90 rfl sz_2 (by decide)) hS ?_
            refine D.va 7 rfl (by kernel_rfl) (fun _ _ _ h => h) rfl (fun w' hw => X.load rfl sc_2 (by first | exact Ld.blk (hk6.ext hw) rfl)) hS ?_
            refine D.va 8 rfl (by kernel_rfl) (fun _ _ _ h => h) rfl (fun w' hw => X.gtr rfl rfl) hS ?_
            refine D.va 9 rfl (by kernel_rfl) (fun _ _ _ h => h) rfl (fun w' hw => X.pickF rfl (by conv => lhs; whnf)) hS ?_
            refine D.va 10 rfl (by kernel_rfl) (fun _ _ _ h => h) rfl (fun w' hw => X.move (by conv => lhs; whnf)) hS ?_
            refine D.caseDec (k := 69) rfl (fun h2 => ?_) (fun h2 => ?_)
            · refine D.no 11 rfl (by kernel_rfl) (fun _ _ _ h => h) rfl hS ?_
              refine D.no 12 rfl (by kernel_rfl) (fun _ _ _ h => h) rfl hS ?_
              refine D.no 13 rfl (by kernel_rfl) (fun _ _ _ h => h) rfl hS ?_
              refine D.no 14 rfl (by kernel_rfl) (fun _ _ _ h => h) rfl hS ?_
              refine D.no 15 rfl (by kernel_rfl) (fun _ _ _ h => h) rfl hS ?_
              refine D.no 16 rfl (by kernel_rfl) (fun _ _ _ h => h) rfl hS ?_
              refine D.va 17 rfl (by kernel_rfl) (fun _ _ _ h => h) rfl (fun w' hw => X.pickT rfl (by conv => lhs; whnf)) hS ?_
              refine D.va 18 rfl (by kernel_rfl) (fun _ _ _ h => h) rfl (fun w' hw => X.move (by conv => lhs; whnf)) hS ?_
              refine D.no 19 rfl (by kernel_rfl) (fun _ _ _ h => h) rfl hS ?_
              refine D.no 20 rfl (by kernel_rfl) (fun _ _ _ h => h) rfl hS ?_
              refine D.no 21 rfl (by kernel_rfl) (fun _ _ _ h => h) rfl hS ?_
              refine D.no 22 rfl (by kernel_rfl) (fun _ _ _ h => h) rfl hS ?_
              refine D.no 23 rfl (by kernel_rfl) (fun _ _ _ h => h) rfl hS ?_
              refine D.va 24 rfl (by kernel_rfl) (fun _ _ _ h => h) rfl (fun w' hw => X.pickT rfl (by conv => lhs; whnf)) hS ?_
              refine D.va 25 rfl (by kernel_rfl) (fun _ _ _ h => h) rfl (fun w' hw => X.move (by conv => lhs; whnf)) hS ?_
              refine D.no 26 rfl (by kernel_rfl) (fun _ _ _ h => h) rfl hS ?_
              refine D.no 27 rfl (by kernel_rfl) (fun _ _ _ h => h) rfl hS ?_
              refine D.no 28 rfl (by kernel_rfl) (fun _ _ _ h => h) rfl hS ?_
              refine D.no 29 rfl (by kernel_rfl) (fun _ _ _ h => h) rfl hS ?_
              refine D.va 30 rfl (by kernel_rfl) (fun _ _ _ h => h) rfl (fun w' hw => X.pickT rfl (by conv => lhs; whnf)) hS ?_
              refine D.va 31 rfl (by kernel_rfl) (fun _ _ _ h => h) rfl (fun w' hw => X.move (by conv => lhs; whnf)) hS ?_
              refine D.no 32 rfl (by kernel_rfl) (fun _ _ _ h => h) rfl hS ?_
              refine D.no 33 rfl (by kernel_rfl) (fun _ _ _ h => h) rfl hS ?_
              refine D.no 34 rfl (by kernel_rfl) (fun _ _ _ h => h) rfl hS ?_
              refine D.no 35 rfl (by kernel_rfl) (fun _ _ _ h => h) rfl hS ?_
              refine D.no 36 rfl (by kernel_rfl) (fun _ _ _ h => h) rfl hS ?_
              refine D.no 37 rfl (by kernel_rfl) (fun _ _ _ h => h) rfl hS ?_
              refine D.no 38 rfl (by kernel_rfl) (fun _ _ _ h => h) rfl hS ?_
              refine D.no 39 rfl (by kernel_rfl) (fun _ _ _ h => h) rfl hS ?_
              refine D.va 40 rfl (by kernel_rfl) (fun _ _ _ h => h) rfl (fun w' hw => X.pickT rfl (by conv => lhs; whnf)) hS ?_
              refine D.done (by kernel_rfl) ?_
              replace hk6 := hk6.ext hS
              refine J.iteT rfl ?_
              refine J.seq ?_
              refine J.region ?_
              refine L.va rfl (X.assign (by conv => lhs; whnf)) ?_
              refine L.nil ?_
              refine J.ret ?_
              refine inB_ret <|  thn_ret <|  thn_ret <|  inB_ret <|  thn_ret <| ?_
              refine fin1 ?_
              exact no _ (hbad (okW_no (.inr (.inl h2)))) he07
            · have hneg : IntKind.i64.wrap (0 - y.a) = -y.a := by rw [w64 (by omega)]; omega
              refine D.va 11 rfl (by kernel_rfl) (fun _ _ _ h => h) rfl (fun w' hw => X.fieldAddr rfl Try.underlying90 rfl sz_2 (by decide)) hS ?_
              refine D.va 12 rfl (by kernel_rfl) (fun _ _ _ h => h) rfl (fun w' hw => X.load rfl sc_2 (by first | exact Ld.blk (hk6.ext hw) rfl)) hS ?_
              refine D.va 13 rfl (by kernel_rfl) (fun _ _ _ h => h) rfl (fun w' hw => X.fieldAddr rfl Try.underlying90 rfl sz_2 (by decide)) hS ?_
              refine D.va 14 rfl (by kernel_rfl) (fun _ _ _ h => h) rfl (fun w' hw => X.load rfl sc_2 (by first | exact Ld.blk (hk6.ext hw) rfl)) hS ?_
              refine D.va 15 rfl (by kernel_rfl) (fun _ _ _ h => h) rfl (fun w' hw => X.negw rfl) hS ?_
              refine D.va 16 rfl (by kernel_rfl) (fun _ _ _ h => h) rfl (fun w' hw => X.lss rfl rfl) hS ?_
              refine D.va 17 rfl (by kernel_rfl) (fun _ _ _ h => h) rfl (fun w' hw => X.pickF rfl (by conv => lhs; whnf)) hS ?_
              refine D.va 18 rfl (by kernel_rfl) (fun _ _ _ h => h) rfl (fun w' hw => X.move (by conv => lhs; whnf)) hS ?_
              refine D.caseDec (k := 77) rfl (fun h3 => ?_) (fun h3 => ?_)
              · rw [hneg] at h3
                refine D.no 19 rfl (by kernel_rfl) (fun _ _ _ h => h) rfl hS ?_
                refine D.no 20 rfl (by kernel_rfl) (fun _ _ _ h => h) rfl hS ?_
                refine D.no 21 rfl (by kernel_rfl) (fun _ _ _ h => h) rfl hS ?_
                refine D.no 22 rfl (by kernel_rfl) (fun _ _ _ h => h) rfl hS ?_
                refine D.no 23 rfl (by kernel_rfl) (fun _ _ _ h => h) rfl hS ?_
                refine D.va 24 rfl (by kernel_rfl) (fun _ _ _ h => h) rfl (fun w' hw => X.pickT rfl (by conv => lhs; whnf)) hS ?_
                refine D.va 25 rfl (by kernel_rfl) (fun _ _ _ h => h) rfl (fun w' hw => X.move (by conv => lhs; whnf)) hS ?_
                refine D.no 26 rfl (by kernel_rfl) (fun _ _ _ h => h) rfl hS ?_
                refine D.no 27 rfl (by kernel_rfl) (fun _ _ _ h => h) rfl hS ?_
                refine D.no 28 rfl (by kernel_rfl) (fun _ _ _ h => h) rfl hS ?_
                refine D.no 29 rfl (by kernel_rfl) (fun _ _ _ h => h) rfl hS ?_
                refine D.va 30 rfl (by kernel_rfl) (fun _ _ _ h => h) rfl (fun w' hw => X.pickT rfl (by conv => lhs; whnf)) hS ?_
                refine D.va 31 rfl (by kernel_rfl) (fun _ _ _ h => h) rfl (fun w' hw => X.move (by conv => lhs; whnf)) hS ?_
                refine D.no 32 rfl (by kernel_rfl) (fun _ _ _ h => h) rfl hS ?_
                refine D.no 33 rfl (by kernel_rfl) (fun _ _ _ h => h) rfl hS ?_
                refine D.no 34 rfl (by kernel_rfl) (fun _ _ _ h => h) rfl hS ?_
                refine D.no 35 rfl (by kernel_rfl) (fun _ _ _ h => h) rfl hS ?_
                refine D.no 36 rfl (by kernel_rfl) (fun _ _ _ h => h) rfl hS ?_
                refine D.no 37 rfl (by kernel_rfl) (fun _ _ _ h => h) rfl hS ?_
                refine D.no 38 rfl (by kernel_rfl) (fun _ _ _ h => h) rfl hS ?_
                refine D.no 39 rfl (by kernel_rfl) (fun _ _ _ h => h) rfl hS ?_
                refine D.va 40 rfl (by kernel_rfl) (fun _ _ _ h => h) rfl (fun w' hw => X.pickT rfl (by conv => lhs; whnf)) hS ?_
                refine D.done (by kernel_rfl) ?_
                replace hk6 := hk6.ext hS
                refine J.iteT rfl ?_
                refine J.seq ?_
                refine J.region ?_
                refine L.va rfl (X.assign (by conv => lhs; whnf)) ?_
                refine L.nil ?_
                refine J.ret ?_
                refine inB_ret <|  thn_ret <|  thn_ret <|  inB_ret <|  thn_ret <| ?_
                refine fin1 ?_
                exact no _ (hbad (okW_no (.inr (.inr (.inl h3))))) he07
              · rw [hneg] at h3
                refine D.va 19 rfl (by kernel_rfl) (fun _ _ _ h => h) rfl (fun w' hw => X.fieldAddr rfl Try.underlying90 rfl sz_2 (by decide)) hS ?_
                refine D.va 20 rfl (by kernel_rfl) (fun _ _ _ h => h) rfl (fun w' hw => X.load rfl sc_2 (by first | exact Ld.blk (hk6.ext hw) rfl)) hS ?_
                refine D.va 21 rfl (by kernel_rfl) (fun _ _ _ h => h) rfl (fun w' hw => X.fieldAddr rfl Try.underlying90 rfl sz_2 (by decide)) hS ?_
                refine D.va 22 rfl (by kernel_rfl) (fun _ _ _ h => h) rfl (fun w' hw => X.load rfl sc_2 (by first | exact Ld.blk (hk6.ext hw) rfl)) hS ?_
                refine D.va 23 rfl (by kernel_rfl) (fun _ _ _ h => h) rfl (fun w' hw => X.gtr rfl rfl) hS ?_
                refine D.va 24 rfl (by kernel_rfl) (fun _ _ _ h => h) rfl (fun w' hw => X.pickF rfl (by conv => lhs; whnf)) hS ?_
                refine D.va 25 rfl (by kernel_rfl) (fun _ _ _ h => h) rfl (fun w' hw => X.move (by conv => lhs; whnf)) hS ?_
                refine D.caseDec (k := 84) rfl (fun h4 => ?_) (fun h4 => ?_)
                · refine D.no 26 rfl (by kernel_rfl) (fun _ _ _ h => h) rfl hS ?_
                  refine D.no 27 rfl (by kernel_rfl) (fun _ _ _ h => h) rfl hS ?_
                  refine D.no 28 rfl (by kernel_rfl) (fun _ _ _ h => h) rfl hS ?_
                  refine D.no 29 rfl (by kernel_rfl) (fun _ _ _ h => h) rfl hS ?_
                  refine D.va 30 rfl (by kernel_rfl) (fun _ _ _ h => h) rfl (fun w' hw => X.pickT rfl (by conv => lhs; whnf)) hS ?_
                  refine D.va 31 rfl (by kernel_rfl) (fun _ _ _ h => h) rfl (fun w' hw => X.move (by conv => lhs; whnf)) hS ?_
                  refine D.no 32 rfl (by kernel_rfl) (fun _ _ _ h => h) rfl hS ?_
                  refine D.no 33 rfl (by kernel_rfl) (fun _ _ _ h => h) rfl hS ?_
                  refine D.no 34 rfl (by kernel_rfl) (fun _ _ _ h => h) rfl hS ?_
                  refine D.no 35 rfl (by kernel_rfl) (fun _ _ _ h => h) rfl hS ?_
                  refine D.no 36 rfl (by kernel_rfl) (fun _ _ _ h => h) rfl hS ?_
                  refine D.no 37 rfl (by kernel_rfl) (fun _ _ _ h => h) rfl hS ?_
                  refine D.no 38 rfl (by kernel_rfl) (fun _ _ _ h => h) rfl hS ?_
                  refine D.no 39 rfl (by kernel_rfl) (fun _ _ _ h => h) rfl hS ?_
                  refine D.va 40 rfl (by kernel_rfl) (fun _ _ _ h => h) rfl (fun w' hw => X.pickT rfl (by conv => lhs; whnf)) hS ?_
                  refine D.done (by kernel_rfl) ?_
                  replace hk6 := hk6.ext hS
                  refine J.iteT rfl ?_
                  refine J.seq ?_
                  refine J.region ?_
                  refine L.va rfl (X.assign (by conv => lhs; whnf)) ?_
                  refine L.nil ?_
                  refine J.ret ?_
                  refine inB_ret <|  thn_ret <|  thn_ret <|  inB_ret <|  thn_ret <| ?_
                  refine fin1 ?_
                  exact no _ (hbad (okW_no (.inr (.inr (.inr h4))))) he07
                · refine D.va 26 rfl (by kernel_rfl) (fun _ _ _ h => h) rfl (fun w' hw => X.fieldAddr rfl Try.underlying90 rfl sz_45 (by decide)) hS ?_
                  refine D.va 27 rfl (by kernel_rfl) (fun _ _ _ h => h) rfl (fun w' hw => X.load rfl sc_45 (by first | exact Ld.blk (hk6.ext hw) rfl)) hS ?_
                  refine D.va 28 rfl (by kernel_rfl) (fun _ _ _ h => h) rfl (fun w' hw => X.len rfl Try.underlying45) hS ?_
                  refine D.va 29 rfl (by kernel_rfl) (fun _ _ _ h => h) rfl (fun w' hw => X.gtr rfl rfl) hS ?_
                  refine D.va 30 rfl (by kernel_rfl) (fun _ _ _ h => h) rfl (fun w' hw => X.pickF rfl (by conv => lhs; whnf)) hS ?_
                  refine D.va 31 rfl (by kernel_rfl) (fun _ _ _ h => h) rfl (fun w' hw => X.move (by conv => lhs; whnf)) hS ?_
                  refine D.caseDec (k := 90) rfl (fun h5 => ?_) (fun h5 => ?_)
                  · refine D.no 32 rfl (by kernel_rfl) (fun _ _ _ h => h) rfl hS ?_
                    refine D.no 33 rfl (by kernel_rfl) (fun _ _ _ h => h) rfl hS ?_
                    refine D.no 34 rfl (by kernel_rfl) (fun _ _ _ h => h) rfl hS ?_
                    refine D.no 35 rfl (by kernel_rfl) (fun _ _ _ h => h) rfl hS ?_
                    refine D.no 36 rfl (by kernel_rfl) (fun _ _ _ h => h) rfl hS ?_
                    refine D.no 37 rfl (by kernel_rfl) (fun _ _ _ h => h) rfl hS ?_
                    refine D.no 38 rfl (by kernel_rfl) (fun _ _ _ h => h) rfl hS ?_
                    refine D.no 39 rfl (by kernel_rfl) (fun _ _ _ h => h) rfl hS ?_
                    refine D.va 40 rfl (by kernel_rfl) (fun _ _ _ h => h) rfl (fun w' hw => X.pickT rfl (by conv => lhs; whnf)) hS ?_
                    refine D.done (by kernel_rfl) ?_
                    replace hk6 := hk6.ext hS
                    refine J.iteT rfl ?_
                    refine J.seq ?_
                    refine J.region ?_
                    refine L.va rfl (X.assign (by conv => lhs; whnf)) ?_
                    refine L.nil ?_
                    refine J.ret ?_
                    refine inB_ret <|  thn_ret <|  thn_ret <|  inB_ret <|  thn_ret <| ?_
                    refine fin1 ?_
                    refine no _ (hbad (okW_q ?_)) he07
                    unfold okQ
                    rw [decide_eq_false (by omega)]
                    rfl
                  · have c8 := ntrim y.A y.n y.c y.q w7 (N := N) (by have := he07.le; omega) ((y4.ext he46).ext hS).r yl ycp (by omega)
                    refine D.va 32 rfl (by kernel_rfl) (fun _ _ _ h => h) rfl (fun w' hw => X.fieldAddr rfl Try.underlying90 rfl sz_45 (by decide)) hS ?_
                    refine D.va 33 rfl (by kernel_rfl) (fun _ _ _ h => h) rfl (fun w' hw => X.load rfl sc_45 (by first | exact Ld.blk (hk6.ext hw) rfl)) hS ?_
                    refine D.va 36 rfl (by kernel_rfl) (fun _ _ _ h => h) rfl (fun w' hw => X.fieldAddr rfl Try.underlying90 rfl sz_45 (by decide)) hS ?_
                    refine D.va 37 rfl (by kernel_rfl) (fun _ _ _ h => h) rfl (fun w' hw => X.load rfl sc_45 (by first | exact Ld.blk (hk6.ext hw) rfl)) hS ?_
                    refine D.va 38 rfl (by kernel_rfl) (fun _ _ _ h => h) rfl (fun w' hw => X.len rfl Try.underlying45) hS ?_
                    refine D.one 34 (by kernel_rfl) rfl ?_
                    refine L.call rfl en_87 rfl (c8) ?_
                    rintro e w8 ⟨A8, k8, c8', rfl, hk8, ho8, he8⟩
                    refine ⟨_, rfl, ?_⟩
                    have hS1 := hS.trans he8
                    refine L.nil ?_
                    refine ⟨fun _ => hS1, ?_⟩
                    have hq := okQ_siz hk8 (by omega)
                    have he08 := he07.trans he8
                    refine D.va 35 rfl (by kernel_rfl) (fun _ _ _ h => h) rfl (fun w' hw => X.len rfl Try.underlying45) hS1 ?_
                    refine D.va 39 rfl (by kernel_rfl) (fun _ _ _ h => h) rfl (fun w' hw => X.neq rfl rfl) hS1 ?_
                    refine D.va 40 rfl (by kernel_rfl) (fun _ _ _ h => h) rfl (fun w' hw => X.pickF rfl (by conv => lhs; whnf)) hS1 ?_
                    refine D.done (by kernel_rfl) ?_
                    replace hk6 := hk6.ext hS1
                    refine J.ndec rfl (fun h6 => ?_) (fun h6 => ?_)
                    · refine J.seq ?_
                      refine J.region ?_
                      refine L.va rfl (X.assign (by conv => lhs; whnf)) ?_
                      refine L.nil ?_
                      refine J.ret ?_
                      refine inB_ret <|  thn_ret <|  thn_ret <|  inB_ret <|  thn_ret <| ?_
                      refine fin1 ?_
                      refine no _ (hbad (okW_q ?_)) he08
                      rw [hq, decide_eq_false (by omega)]
                    · refine J.skip ?_
                      refine J.region ?_
                      refine L.va rfl (X.add rfl rfl (by omega)) ?_
                      refine L.va rfl (X.move (by conv => lhs; whnf)) ?_
                      refine L.nil ?_
                      refine ⟨i + 1, At1 (by first | rfl | exact at_int rfl (by omega) | exact at_slice rfl (by omega) | exact at_int rfl (by simp)), (by (iterate 52 refine Agr.lk rfl ?_); exact Agr.lk rfl (Agr.hav rfl Agr.rfl')), ?_⟩
                      refine ⟨⟨by omega, fun j hj => ?_, ((he34.trans he46).trans hS).trans he8⟩, by omega⟩
                      rcases Nat.lt_or_ge j i with h | h
                      · exact hP j h
                      · obtain rfl : j = i := by omega
                        rw [← hy]
                        refine okW_yes ⟨by omega, by omega, by omega, by omega⟩ ?_
                        rw [hq, decide_eq_true (by omega)]
        · refine J.exit ?_
          refine ⟨(), At0 , (by (iterate 1 refine Agr.lk rfl ?_); refine Agr.lk rfl ?_; refine Agr.hav rfl ?_; (iterate 4 refine Agr.lk rfl ?_); exact Agr.rfl'), ?_⟩
          exact ⟨fun j hj => hP j (by omega), he34⟩
    · rintro ⟨⟩ g w4 ⟨hW, he34⟩
      have hk4 := hk2.ext he34
      have he4 := he03.trans he34
      refine J.seq ?_
      refine J.seq ?_
      refine J.region ?_
      refine L.va rfl (X.fieldAddr rfl Try.underlying61 rfl sz_59 (by decide)) ?_
      refine L.va rfl (X.load rfl sc_59 (by first | exact Ld.blk hk4 rfl)) ?_
      refine L.va rfl (X.len rfl Try.underlying59) ?_
      refine L.va rfl (X.move (by conv => lhs; whnf)) ?_
      refine L.nil ?_
      refine J.block ?_
      refine J.loop (X := Nat) [6, 12, 13, 14, 104, 105, 106, 107, 108, 109, 110, 111, 112, 113, 114, 115, 116, 117, 118, 119, 120, 121, 122, 123] (fun i => [(104, .int .i64 (i : Int))]) (fun i w' => i ≤ x.nr ∧ (∀ j, j < i → okR (x.rs.getD j re0).con = true) ∧ Ext w w') (fun i => x.nr - i) (0) (At1 (by first | rfl | exact at_int rfl (by omega) | exact at_slice rfl (by omega) | exact at_int rfl (by simp))) ?_ ?_
      · exact ⟨Nat.zero_le _, fun j hj => absurd hj (by omega), he4⟩
      · rintro i g w5 ⟨hi, hP, he5⟩
        have z5 := he5.le
        refine J.seq ?_
        refine J.region ?_
        refine L.va rfl (X.lss rfl rfl) ?_
        refine L.nil ?_
        refine J.seq ?_
        refine J.dec rfl (fun hlt => ?_) (fun hlt => ?_)
        · have hin : i < x.rs.length := by omega
          have hr5 := hx.r.ext he5
          have hA := hr5.some_ (by omega)
          have gy := gtR hin
          have my := memD (l := x.rs) (i := i) (d := re0) hin
          obtain ⟨y, hy⟩ : ∃ y, y = x.rs.getD i re0 := ⟨_, rfl⟩
          rw [← hy] at gy my
          have hbad : okR y.con = false → rightC s m x.con = false := fun h => rightC_r hin (by rw [← hy]; exact h)
          have y5 := (hx.hr y my).ext he5
          have yo := y5.o
          have y300 := hL.lr y my
          have yl := y5.len
          refine J.skip ?_
          refine J.seq ?_
          refine J.block ?_
          refine J.seq ?_
          refine J.region ?_
          refine L.va rfl ((by first | exact X.indexAddrn rfl rfl Try.underlying59 sz_94 (by first | exact Option.some_ne_none _ | exact hA) (by omega) | exact X.indexAddr rfl rfl Try.underlying59 sz_94 (by first | exact Option.some_ne_none _ | exact hA) (by omega))) ?_
          refine L.va rfl (X.loadRow (cs := y.vs) rfl hr5 (fun r u hu => flat_row re_len gy r u hu) (Nat.zero_lt_succ _) Try.underlying94 rfl (by kernel_rfl)) ?_
          refine L.alloc rfl zr_94 ?_
          intro b6 w6 hb6 hs6 hk6 he6
          refine L.storeAgg (vs := [_, _, _]) rfl rfl rfl rfl sz_94 (hk6) rfl ?_
          intro w7 hk7 hg7 hs7
          have he57 : Ext w5 w7 := he6.grw hg7 (by intro g hg; injection hg with hg; omega)
          have hk7 : Blk w7 b6 94 y.vs.toArray := hk7
          have he07 := he5.trans he57
          have c8 := eread y.A y.n y.c y.b w7 (N := N) (by have := he07.le; omega) ((y5.ext he57)).r yo.b yl (by omega)
          refine L.nil ?_
          refine J.seq ?_
          refine J.region ?_
          refine L.va rfl (X.fieldAddr rfl Try.underlying94 rfl sz_91 (by decide)) ?_
          refine L.va rfl (X.load rfl sc_91 (by first | exact Ld.blk hk7 rfl)) ?_
          refine L.call rfl en_88 rfl (c8) ?_
          rintro e w8 ⟨p8, rfl, he8, hR⟩
          refine ⟨_, rfl, ?_⟩
          have he8 : Ext w7 w8 := he8
          have he08 := he07.trans he8
          have hk8 := hk7.ext he8
          have c9 := fless y.hi y.lo w8 yo.hi yo.lo
          by_cases h0 : ¬ readE y.b = 0
          · refine L.va rfl (X.move (by conv => lhs; whnf)) ?_
            refine L.va rfl (X.extract rfl rfl) ?_
            refine L.va rfl (X.extract rfl rfl) ?_
            refine L.va rfl (X.assign (by conv => lhs; whnf)) ?_
            refine L.va rfl (X.assign (by conv => lhs; whnf)) ?_
            refine L.nil ?_
            refine J.seq ?_
            refine J.region ?_
            refine L.va rfl (X.move (by conv => lhs; whnf)) ?_
            refine L.va rfl (X.neq rfl rfl) ?_
            refine L.va rfl (X.move (by conv => lhs; whnf)) ?_
            refine L.caseNdecT (k := 116) rfl (by exact h0) ?_
            refine L.no rfl ?_
            refine L.no rfl ?_
            refine L.no rfl ?_
            refine L.no rfl ?_
            refine L.no rfl ?_
            refine L.va rfl (X.pickT rfl (by conv => lhs; whnf)) ?_
            refine L.nil ?_
            refine J.iteT rfl ?_
            refine J.seq ?_
            refine J.region ?_
            refine L.va rfl (X.assign (by conv => lhs; whnf)) ?_
            refine L.nil ?_
            refine J.ret ?_
            refine inB_ret <|  thn_ret <|  thn_ret <|  inB_ret <|  thn_ret <| ?_
            refine fin1 ?_
            refine no _ (hbad ?_) he08
            unfold okR
            rw [decide_eq_false (show ¬ readE y.con.1 = 0 from h0)]
            rfl
          · have h0 : readE y.b = 0 := by omega
            refine L.va rfl (X.move (by conv => lhs; whnf)) ?_
            refine L.va rfl (X.extract rfl rfl) ?_
            refine L.va rfl (X.extract rfl rfl) ?_
            refine L.va rfl (X.assign (by conv => lhs; whnf)) ?_
            refine L.va rfl (X.assign (by conv => lhs; whnf)) ?_
            refine L.nil ?_
            refine J.seq ?_
            refine J.region ?_
            refine L.va rfl (X.move (by conv => lhs; whnf)) ?_
            refine L.va rfl (X.neq rfl rfl) ?_
            refine L.va rfl (X.move (by conv => lhs; whnf)) ?_
            refine L.caseNdecF (k := 116) rfl (by exact h0) ?_
            refine L.va rfl (X.fieldAddr rfl Try.underlying94 rfl sz_92 (by decide)) ?_
            refine L.va rfl (X.load rfl sc_92 (by first | exact Ld.blk hk8 rfl)) ?_
            refine L.va rfl (X.fieldAddr rfl Try.underlying94 rfl sz_92 (by decide)) ?_
            refine L.va rfl (X.load rfl sc_92 (by first | exact Ld.blk hk8 rfl)) ?_
            refine L.call rfl en_89 rfl (c9) ?_
            rintro e _ ⟨rfl, rfl⟩
            refine ⟨_, rfl, ?_⟩
            refine L.va rfl (X.pickF rfl (by conv => lhs; whnf)) ?_
            refine L.nil ?_
            refine J.ite rfl (fun h6 => ?_) (fun h6 => ?_)
            · refine J.seq ?_
              refine J.region ?_
              refine L.va rfl (X.assign (by conv => lhs; whnf)) ?_
              refine L.nil ?_
              refine J.ret ?_
              refine inB_ret <|  thn_ret <|  thn_ret <|  inB_ret <|  thn_ret <| ?_
              refine fin1 ?_
              refine no _ (hbad ?_) he08
              unfold okR
              rw [decide_eq_false (show ¬ ¬ keyF y.con.2.2 < keyF y.con.2.1 from fun h => h (of_decide_eq_true h6)), Bool.and_false]
            · have h6 : ¬ keyF y.hi < keyF y.lo := of_decide_eq_false h6
              refine J.skip ?_
              refine J.region ?_
              refine L.va rfl (X.add rfl rfl (by omega)) ?_
              refine L.va rfl (X.move (by conv => lhs; whnf)) ?_
              refine L.nil ?_
              refine ⟨i + 1, At1 (by first | rfl | exact at_int rfl (by omega) | exact at_slice rfl (by omega) | exact at_int rfl (by simp)), (by (iterate 24 refine Agr.lk rfl ?_); exact Agr.lk rfl (Agr.hav rfl Agr.rfl')), ?_⟩
              refine ⟨⟨by omega, fun j hj => ?_, he08⟩, by omega⟩
              rcases Nat.lt_or_ge j i with h | h
              · exact hP j h
              · obtain rfl : j = i := by omega
                rw [← hy]
                unfold okR
                rw [decide_eq_true (show readE y.con.1 = 0 from h0), decide_eq_true (show ¬ keyF y.con.2.2 < keyF y.con.2.1 from h6)]
                rfl
        · refine J.exit ?_
          refine J.seq ?_
          refine J.region ?_
          refine L.va rfl (X.assign (by conv => lhs; whnf)) ?_
          refine L.nil ?_
          refine J.ret ?_
          refine fin1 ?_
          exact ⟨by rw [rightC_yes hkb hh hW (fun j hj => hP j (by omega))]; rfl, he5⟩
end Go.Proofs.Ytpomklkfedpkfaa
namespace Go.Proofs.Ytpomklkfedpkfaa
open Go.RowKit
set_option linter.unusedVariables false
namespace Dfp
abbrev Ris (l : List (Int × Int)) : Prop := l.Pairwise fun p q => p.1 < q.1
abbrev RisC (l : List Ce) : Prop := l.Pairwise fun x y => x.key < y.key
theorem ris_eq : ∀ {l m : List (Int × Int)}, Ris l → Ris m → (∀ x, x ∈ l ↔ x ∈ m) → l = m
  | [], [], _, _, _ => rfl
  | [], b :: t, _, _, h => absurd ((h b).2 (by simp)) (by simp)
  | a :: s, [], _, _, h => absurd ((h a).1 (by simp)) (by simp)
  | a :: s, b :: t, hl, hm, h => by
    have hl' := List.pairwise_cons.1 hl
    have hm' := List.pairwise_cons.1 hm
    have hab : a = b := by
      rcases List.mem_cons.1 ((h a).1 (by simp)) with h1 | h1
      · exact h1
      · rcases List.mem_cons.1 ((h b).2 (by simp)) with h2 | h2
        · exact h2.symm
        · have := hm'.1 a h1
          have := hl'.1 b h2
          omega
    subst hab
    rw [ris_eq hl'.2 hm'.2 fun x => ?_]
    constructor
    · intro hx
      rcases List.mem_cons.1 ((h x).1 (by simp [hx])) with h1 | h1
      · subst h1
        have := hl'.1 x hx
        omega
      · exact h1
    · intro hx
      rcases List.mem_cons.1 ((h x).2 (by simp [hx])) with h1 | h1
      · subst h1
        have := hm'.1 x hx
        omega
      · exact h1
theorem ris_of {l : List Ce} (h : rise l = true) : RisC l := by
  rw [rise_at] at h
  have key : ∀ i j, i < j → j < l.length → (l.getD i ce0).key < (l.getD j ce0).key := by
    intro i j hij
    induction j with
    | zero => omega
    | succ j ih =>
      intro hj
      rcases Nat.lt_or_ge i j with h1 | h1
      · exact Int.lt_trans (ih h1 (by omega)) (h j hj)
      · obtain rfl : i = j := by omega
        exact h i hj
  rw [RisC, List.pairwise_iff_getElem]
  intro i j hi hj hij
  have := key i j hij hj
  rw [List.getD, List.getD, List.getElem?_eq_getElem hi, List.getElem?_eq_getElem hj] at this
  exact this
def Becomes (sm : Ce → Ce → Bool) (a b : List Ce) (p : Int × Int) : Prop :=
  (p.2 = 1 ∧ (∃ x ∈ a, x.key = p.1) ∧ ∀ y ∈ b, y.key ≠ p.1) ∨ (p.2 = 2 ∧ (∃ y ∈ b, y.key = p.1) ∧ ∀ x ∈ a, x.key ≠ p.1) ∨ (p.2 = 3 ∧ ∃ x ∈ a, ∃ y ∈ b, x.key = p.1 ∧ y.key = p.1 ∧ sm x y = false)
theorem becomes_key {sm : Ce → Ce → Bool} {a b : List Ce} {p : Int × Int} (h : Becomes sm a b p) : (∃ x ∈ a, x.key = p.1) ∨ ∃ y ∈ b, y.key = p.1 := by
  rcases h with ⟨_, h, _⟩ | ⟨_, h, _⟩ | ⟨_, x, hx, y, hy, h1, h2, _⟩
  · exact .inl h
  · exact .inr h
  · exact .inl ⟨x, hx, h1⟩
theorem merge_ok (sm : Ce → Ce → Bool) (a b : List Ce) (ha : RisC a) (hb : RisC b) : Ris (mergeD sm a b) ∧ ∀ p, p ∈ mergeD sm a b ↔ Becomes sm a b p := by
  induction a, b using mergeD.induct with
  | case1 =>
    rw [mergeD]
    refine ⟨List.Pairwise.nil, fun p => ?_⟩
    unfold Becomes
    simp
  | case2 x a ih =>
    rw [mergeD]
    obtain ⟨hx, ha'⟩ := List.pairwise_cons.1 ha
    obtain ⟨i1, i2⟩ := ih ha' hb
    refine ⟨List.pairwise_cons.2 ⟨fun q hq => ?_, i1⟩, fun p => ?_⟩
    · rcases becomes_key ((i2 q).1 hq) with ⟨z, hz, e⟩ | ⟨z, hz, e⟩
      · have := hx z hz
        show x.key < q.1
        omega
      · cases hz
    · rw [List.mem_cons, i2]
      unfold Becomes
      obtain ⟨p1, p2⟩ := p
      simp only [Prod.mk.injEq]
      grind
  | case3 y b ih =>
    rw [mergeD]
    obtain ⟨hy, hb'⟩ := List.pairwise_cons.1 hb
    obtain ⟨i1, i2⟩ := ih ha hb'
    refine ⟨List.pairwise_cons.2 ⟨fun q hq => ?_, i1⟩, fun p => ?_⟩
    · rcases becomes_key ((i2 q).1 hq) with ⟨z, hz, e⟩ | ⟨z, hz, e⟩
      · cases hz
      · have := hy z hz
        show y.key < q.1
        omega
    · rw [List.mem_cons, i2]
      unfold Becomes
      obtain ⟨p1, p2⟩ := p
      simp only [Prod.mk.injEq]
      grind
  | case4 x a y b h ih =>
    rw [mergeD, if_pos h]
    obtain ⟨hx, ha'⟩ := List.pairwise_cons.1 ha
    obtain ⟨hy, hb'⟩ := List.pairwise_cons.1 hb
    obtain ⟨i1, i2⟩ := ih ha' hb
    refine ⟨List.pairwise_cons.2 ⟨fun q hq => ?_, i1⟩, fun p => ?_⟩
    · show x.key < q.1
      rcases becomes_key ((i2 q).1 hq) with ⟨z, hz, e⟩ | ⟨z, hz, e⟩
      · have := hx z hz
        omega
      · rcases List.mem_cons.1 hz with rfl | hz
        · omega
        · have := hy z hz
          omega
    · rw [List.mem_cons, i2]
      unfold Becomes
      obtain ⟨p1, p2⟩ := p
      simp only [Prod.mk.injEq]
      grind
  | case5 x a y b h1 h2 ih =>
    rw [mergeD, if_neg h1, if_pos h2]
    obtain ⟨hx, ha'⟩ := List.pairwise_cons.1 ha
    obtain ⟨hy, hb'⟩ := List.pairwise_cons.1 hb
    obtain ⟨i1, i2⟩ := ih ha hb'
    refine ⟨List.pairwise_cons.2 ⟨fun q hq => ?_, i1⟩, fun p => ?_⟩
    · show y.key < q.1
      rcases becomes_key ((i2 q).1 hq) with ⟨z, hz, e⟩ | ⟨z, hz, e⟩
      · rcases List.mem_cons.1 hz with rfl | hz
        · omega
        · have := hx z hz
          omega
      · have := hy z hz
        omega
    · rw [List.mem_cons, i2]
      unfold Becomes
      obtain ⟨p1, p2⟩ := p
      simp only [Prod.mk.injEq]
      grind
  | case6 x a y b h1 h2 ih =>
    rw [mergeD, if_neg h1, if_neg h2]
    obtain ⟨hx, ha'⟩ := List.pairwise_cons.1 ha
    obtain ⟨hy, hb'⟩ := List.pairwise_cons.1 hb
    obtain ⟨i1, i2⟩ := ih ha' hb'
    have hk : x.key = y.key := by omega
    refine ⟨?_, fun p => ?_⟩
    · rw [Ris, List.pairwise_append]
      refine ⟨by split <;> simp, i1, fun q hq r hr => ?_⟩
      have e : q = (x.key, 3) := by
        split at hq
        · cases hq
        · simpa using hq
      rw [e]
      show x.key < r.1
      rcases becomes_key ((i2 r).1 hr) with ⟨z, hz, e⟩ | ⟨z, hz, e⟩
      · have := hx z hz
        omega
      · have := hy z hz
        omega
    · rw [List.mem_append, i2]
      unfold Becomes
      obtain ⟨p1, p2⟩ := p
      cases hs : sm x y <;> grind
def Part (sm : Ce → Ce → Bool) (a b : List Ce) (i j : Nat) (p : Int × Int) : Prop :=
  (p.2 = 1 ∧ (∃ x ∈ a.take i, x.key = p.1) ∧ ∀ y ∈ b, y.key ≠ p.1) ∨ (p.2 = 2 ∧ (∃ y ∈ b.take j, y.key = p.1) ∧ ∀ x ∈ a, x.key ≠ p.1) ∨ (p.2 = 3 ∧ ∃ x ∈ a.take i, ∃ y ∈ b, x.key = p.1 ∧ y.key = p.1 ∧ sm x y = false)
structure PartL (sm : Ce → Ce → Bool) (a b : List Ce) (i j : Nat) (o : List (Int × Int)) : Prop where
  up : Ris o
  mem : ∀ p, p ∈ o ↔ Part sm a b i j p
variable {sm : Ce → Ce → Bool} {a b : List Ce} {i j : Nat} {o : List (Int × Int)}
theorem PartL.start (sm : Ce → Ce → Bool) (a b : List Ce) : PartL sm a b 0 0 [] := ⟨List.Pairwise.nil, fun p => by unfold Part; simp⟩
theorem PartL.all (h : PartL sm a b a.length b.length o) (ha : RisC a) (hb : RisC b) : o = mergeD sm a b := by
  obtain ⟨m1, m2⟩ := merge_ok sm a b ha hb
  refine ris_eq h.up m1 fun p => ?_
  rw [h.mem, m2]
  unfold Part Becomes
  rw [List.take_length, List.take_length]
theorem take_one {l : List Ce} {i : Nat} (h : i < l.length) : l.take (i + 1) = l.take i ++ [l.getD i ce0] := by
  rw [List.take_succ_eq_append_getElem h, List.getD, List.getElem?_eq_getElem h]
  rfl
theorem before {l : List Ce} (hl : RisC l) {i : Nat} (h : i < l.length) : ∀ x ∈ l.take i, x.key ≠ (l.getD i ce0).key := fun x hx => by
  obtain ⟨k, hk, rfl⟩ := List.getElem_of_mem hx
  rw [List.length_take] at hk
  have := List.pairwise_iff_getElem.1 hl k i (by omega) h (by omega)
  rw [List.getElem_take, List.getD, List.getElem?_eq_getElem h]
  show (l[k]).key ≠ (l[i]).key
  omega
end Dfp
end Go.Proofs.Ytpomklkfedpkfaa
namespace Go.Proofs.Ytpomklkfedpkfaa
set_option maxRecDepth 100000
open Go.RowKit H
open Dfp
set_option linter.unusedVariables false
theorem crising {w : World} {N : Nat} (A : Option Addr) (c : Nat) (l : List Ce) (hr : Reads w N 4 A l.length (l.flatMap Ce.vals)) (hN : N ≤ w.heap.size) (hm : l.length ≤ 1000000) : Calls Try.prog 50 #[.slice A l.length c] w fun e w' => e = .returned (.bool (rise l)) ∧ Ext w w' := by
  refine enter Try.func50 rfl (by kernel_rfl) ?_
  refine J.seq ?_
  refine J.region ?_
  refine L.va rfl (X.assign (by conv => lhs; whnf)) ?_
  refine L.nil ?_
  refine J.seq ?_
  refine J.seq ?_
  refine J.region ?_
  refine L.va rfl (X.assign (by conv => lhs; whnf)) ?_
  refine L.nil ?_
  refine J.block ?_
  refine J.loop (X := Nat) [2, 3, 4, 5, 6, 7, 8, 9, 10, 11, 12, 13, 14, 15, 16, 17, 18, 19, 20, 21] (fun i => [(3, .int .i64 (i : Int))]) (fun i w' => 1 ≤ i ∧ (i ≤ l.length ∨ l.length = 0 ∧ i = 1) ∧ Ext w w' ∧ ∀ j, j + 1 < i → (l.getD j ce0).key < (l.getD (j + 1) ce0).key) (fun i => l.length + 1 - i) (1) (At1 (by first | rfl | exact at_int rfl (by omega) | exact at_slice rfl (by omega) | exact at_int rfl (by simp))) ?_ ?_
  · exact ⟨by omega, by omega, Ext.refl _, fun j hj => by omega⟩
  · rintro i g w2 ⟨h1, hi, he, hall⟩
    have hr2 := hr.low (Below.mono he hN) (Nat.le_refl _)
    have z := he.le
    refine J.seq ?_
    refine J.seq ?_
    refine J.region ?_
    refine L.va rfl (X.move (by conv => lhs; whnf)) ?_
    refine L.va rfl (X.move (by conv => lhs; whnf)) ?_
    refine L.va rfl (X.len rfl Try.underlying22) ?_
    refine L.va rfl (X.lss rfl rfl) ?_
    refine L.nil ?_
    refine J.dec rfl (fun hlt => ?_) (fun hlt => ?_)
    · have hil : i < l.length := by omega
      have hA := hr2.some_ (by omega)
      obtain ⟨j, rfl⟩ : ∃ j, i = j + 1 := ⟨i - 1, by omega⟩
      have gi := gtX hil
      have gj := gtX (show j < l.length by omega)
      have hrow1 := fun (w' : World) (hw : Ext w2 w') => hr2.low (Below.mono hw (by omega)) (Nat.le_refl _)
      generalize hx : l.getD (j + 1) ce0 = x at *
      generalize hy : l.getD j ce0 = y at *
      have kx : x.key = (x.k : Int) := rfl
      have ky : y.key = (y.k : Int) := rfl
      refine J.skip ?_
      refine J.seq ?_
      refine J.block ?_
      refine J.seq ?_
      refine J.quiet mixed (by kernel_rfl) ?_
      refine Qt.va rfl (fun w' hw => X.move (by conv => lhs; whnf)) ?_
      refine Qt.va rfl (fun w' hw => X.move (by conv => lhs; whnf)) ?_
      refine Qt.va rfl (fun w' hw => (by first | exact X.indexAddrn rfl rfl Try.underlying22 sz_61 (by first | exact Option.some_ne_none _ | exact hA) (by omega) | exact X.indexAddr rfl rfl Try.underlying22 sz_61 (by first | exact Option.some_ne_none _ | exact hA) (by omega))) ?_
      refine Qt.va rfl (fun w' hw => X.fieldP rfl Try.underlying61 rfl sz_36 (by decide) (by first | exact Option.some_ne_none _ | exact hA)) ?_
      refine Qt.va rfl (fun w' hw => X.load rfl sc_36 (Ld.flat2 ce_len (hrow1 w' hw) gi (r := 0) rfl)) ?_
      refine Qt.va rfl (fun w' hw => X.move (by conv => lhs; whnf)) ?_
      refine Qt.va rfl (fun w' hw => X.move (by conv => lhs; whnf)) ?_
      refine Qt.va rfl (fun w' hw => X.sub rfl rfl (by omega)) ?_
      refine Qt.va rfl (fun w' hw => X.indexAddrn (j := j) rfl (show Value.int .i64 (((j + 1 : Nat) : Int) - 1) = _ by rw [show (((j + 1 : Nat) : Int) - 1) = (j : Int) by omega]) Try.underlying22 sz_61 hA (by omega)) ?_
      refine Qt.va rfl (fun w' hw => X.fieldP rfl Try.underlying61 rfl sz_36 (by decide) hA) ?_
      refine Qt.va rfl (fun w' hw => X.load rfl sc_36 (Ld.flat2 ce_len (hrow1 w' hw) gj (r := 0) rfl)) ?_
      refine Qt.va rfl (fun w' hw => X.leq rfl rfl) ?_
      refine Qt.nil (fun w3 hq => ?_)
      have he3 := he.trans hq
      refine J.dec rfl (fun hle => ?_) (fun hle => ?_)
      · have e : rise l = false := by
          rw [← Bool.not_eq_true, rise_at]
          intro h
          have := h j hil
          rw [hx, hy] at this
          omega
        rw [e]
        refine J.seq ?_
        refine J.region ?_
        refine L.va rfl (X.assign (by conv => lhs; whnf)) ?_
        refine L.nil ?_
        refine J.ret ?_
        refine inB_ret <|  thn_ret <|  thn_ret <|  inB_ret <|  thn_ret <| ?_
        refine fin1 ?_
        exact ⟨rfl, he3⟩
      · refine J.skip ?_
        refine J.region ?_
        refine L.va rfl (X.move (by conv => lhs; whnf)) ?_
        refine L.va rfl (X.add rfl rfl (by omega)) ?_
        refine L.va rfl (X.assign (by conv => lhs; whnf)) ?_
        refine L.nil ?_
        refine ⟨(j + 1) + 1, At1 (by first | rfl | exact at_int rfl (by omega) | exact at_slice rfl (by omega) | exact at_int rfl (by simp)), (by (iterate 19 refine Agr.lk rfl ?_); exact Agr.lk rfl (Agr.hav rfl Agr.rfl')), ?_⟩
        refine ⟨⟨by omega, by omega, he3, fun k hk => ?_⟩, by omega⟩
        rcases Nat.lt_or_ge k j with h2 | h2
        · exact hall k (by omega)
        · obtain rfl : k = j := by omega
          rw [hx, hy]
          omega
    · have e : rise l = true := by
        rw [rise_at]
        intro j hj
        exact hall j (by omega)
      rw [e]
      refine J.exit ?_
      refine J.seq ?_
      refine J.region ?_
      refine L.va rfl (X.assign (by conv => lhs; whnf)) ?_
      refine L.nil ?_
      refine J.ret ?_
      refine fin1 ?_
      exact ⟨rfl, he⟩
end Go.Proofs.Ytpomklkfedpkfaa
namespace Go.Proofs.Ytpomklkfedpkfaa
open Go.RowKit
set_option linter.unusedVariables false
namespace Dfp
theorem risC_eq : ∀ {l m : List Ce}, RisC l → RisC m → (∀ x, x ∈ l ↔ x ∈ m) → l = m
  | [], [], _, _, _ => rfl
  | [], b :: t, _, _, h => absurd ((h b).2 (by simp)) (by simp)
  | a :: s, [], _, _, h => absurd ((h a).1 (by simp)) (by simp)
  | a :: s, b :: t, hl, hm, h => by
    have hl' := List.pairwise_cons.1 hl
    have hm' := List.pairwise_cons.1 hm
    have hab : a = b := by
      rcases List.mem_cons.1 ((h a).1 (by simp)) with h1 | h1
      · exact h1
      · rcases List.mem_cons.1 ((h b).2 (by simp)) with h2 | h2
        · exact h2.symm
        · have := hm'.1 a h1
          have := hl'.1 b h2
          omega
    subst hab
    rw [risC_eq hl'.2 hm'.2 fun x => ?_]
    constructor
    · intro hx
      rcases List.mem_cons.1 ((h x).1 (by simp [hx])) with h1 | h1
      · subst h1
        have := hl'.1 x hx
        omega
      · exact h1
    · intro hx
      rcases List.mem_cons.1 ((h x).2 (by simp [hx])) with h1 | h1
      · subst h1
        have := hm'.1 x hx
        omega
      · exact h1
theorem rise_of {l : List Ce} (h : RisC l) : rise l = true := by
  rw [rise_at]
  intro i hi
  have := List.pairwise_iff_getElem.1 h i (i + 1) (by omega) hi (by omega)
  rw [List.getD, List.getD, List.getElem?_eq_getElem (by omega : i < l.length), List.getElem?_eq_getElem hi]
  exact this
theorem take_oneL {l : List (Int × Int)} {i : Nat} (h : i < l.length) : l.take (i + 1) = l.take i ++ [l.getD i (0, 0)] := by
  rw [List.take_succ_eq_append_getElem h, List.getD, List.getElem?_eq_getElem h]
  rfl
theorem drop_oneL {l : List (Int × Int)} {i : Nat} (h : i < l.length) : l.drop i = l.getD i (0, 0) :: l.drop (i + 1) := by
  rw [List.drop_eq_getElem_cons h, List.getD, List.getElem?_eq_getElem h]
  rfl
theorem drop_one {l : List Ce} {i : Nat} (h : i < l.length) : l.drop i = l.getD i ce0 :: l.drop (i + 1) := by
  rw [List.drop_eq_getElem_cons h, List.getD, List.getElem?_eq_getElem h]
  rfl
theorem ris_cut {l : List (Int × Int)} (h : Ris l) {i : Nat} (hi : i < l.length) : (∀ q ∈ l.take i, q.1 < (l.getD i (0, 0)).1) ∧ ∀ q ∈ l.drop (i + 1), (l.getD i (0, 0)).1 < q.1 := by
  have e := List.take_append_drop i l
  rw [drop_oneL hi] at e
  rw [← e, Ris, List.pairwise_append] at h
  obtain ⟨_, h2, h3⟩ := h
  rw [List.pairwise_cons] at h2
  exact ⟨fun q hq => h3 q hq _ (by simp), h2.1⟩
theorem risC_cut {l : List Ce} (h : RisC l) {i : Nat} (hi : i < l.length) : (∀ q ∈ l.take i, q.key < (l.getD i ce0).key) ∧ ∀ q ∈ l.drop (i + 1), (l.getD i ce0).key < q.key := by
  have e := List.take_append_drop i l
  rw [drop_one hi] at e
  rw [← e, RisC, List.pairwise_append] at h
  obtain ⟨_, h2, h3⟩ := h
  rw [List.pairwise_cons] at h2
  exact ⟨fun q hq => h3 q hq _ (by simp), h2.1⟩
structure PS (a b : List Ce) (l : List (Int × Int)) (i p : Nat) (out : List Ce) : Prop where
  ris : RisC out
  mem : ∀ c, c ∈ out ↔ (c ∈ a.take p ∧ ∀ q ∈ l, q.1 ≠ c.key) ∨ (c ∈ b ∧ ∃ q ∈ l.take i, q.1 = c.key ∧ q.2 ≠ 1)
  lo : ∀ c ∈ a.take p, ∀ q ∈ l.drop i, c.key < q.1
  hi : ∀ c ∈ a.drop p, ∀ q ∈ l.take i, q.1 < c.key
variable {a b : List Ce} {l : List (Int × Int)} {i p : Nat} {out : List Ce}
theorem PS.start (a b : List Ce) (l : List (Int × Int)) : PS a b l 0 0 [] := ⟨List.Pairwise.nil, fun c => by simp, fun c hc => by simp at hc, fun c _ q hq => by simp at hq⟩
theorem snoc {o : List Ce} {x : Ce} (h : RisC o) (hx : ∀ c ∈ o, c.key < x.key) : RisC (o ++ [x]) := by
  rw [RisC, List.pairwise_append]
  exact ⟨h, by simp, fun c hc y hy => by rw [List.mem_singleton] at hy; rw [hy]; exact hx c hc⟩
theorem PS.here (h : PS a b l i p out) (ha : RisC a) (hi : i < l.length) (hge : p < a.length → (l.getD i (0, 0)).1 ≤ (a.getD p ce0).key) : (∃ c ∈ a, c.key = (l.getD i (0, 0)).1) ↔ (p < a.length ∧ (a.getD p ce0).key = (l.getD i (0, 0)).1) := by
  have hL := h.lo
  rw [drop_oneL hi] at hL
  constructor
  · rintro ⟨c, hc, e⟩
    rw [← List.take_append_drop p a] at hc
    rcases List.mem_append.1 hc with h1 | h1
    · have := hL c h1 _ (List.mem_cons_self ..); omega
    · have hp : p < a.length := by
        apply Decidable.byContradiction
        intro hn
        rw [List.drop_eq_nil_iff.2 (by omega)] at h1
        cases h1
      refine ⟨hp, ?_⟩
      have g := hge hp
      rw [drop_one hp] at h1
      rcases List.mem_cons.1 h1 with rfl | h2
      · exact e
      · have := (risC_cut ha hp).2 c h2; omega
  · rintro ⟨hp, e⟩
    exact ⟨_, memD hp, e⟩
theorem PS.put (h : PS a b l i p out) (ha : RisC a) (hb : RisC b) (hl : Ris l) (hi : i < l.length) (hge : p < a.length → (l.getD i (0, 0)).1 ≤ (a.getD p ce0).key) {p' : Nat}
    (hp : (p' = p + 1 ∧ p < a.length ∧ (a.getD p ce0).key = (l.getD i (0, 0)).1) ∨ (p' = p ∧ ¬ (p < a.length ∧ (a.getD p ce0).key = (l.getD i (0, 0)).1))) {y : Ce} (hy : y ∈ b) (hk : y.key = (l.getD i (0, 0)).1) (hx : (l.getD i (0, 0)).2 ≠ 1) : PS a b l (i + 1) p' (out ++ [y]) := by
  obtain ⟨l1, l2⟩ := ris_cut hl hi
  have hm : l.getD i (0, 0) ∈ l := memD hi
  have hL := h.lo
  rw [drop_oneL hi] at hL
  have hone : ∀ z ∈ b, z.key = y.key → z = y := fun z hz e => by
    obtain ⟨m, hm, rfl⟩ := List.getElem_of_mem hz
    obtain ⟨k, hk', rfl⟩ := List.getElem_of_mem hy
    rcases Nat.lt_trichotomy m k with h | rfl | h
    · have := List.pairwise_iff_getElem.1 hb m k hm hk' h
      omega
    · rfl
    · have := List.pairwise_iff_getElem.1 hb k m hk' hm h
      omega
  have htk : ∀ c, (c ∈ a.take p' ∧ ∀ q ∈ l, q.1 ≠ c.key) ↔ (c ∈ a.take p ∧ ∀ q ∈ l, q.1 ≠ c.key) := fun c => by
    rcases hp with ⟨rfl, hp, e⟩ | ⟨rfl, _⟩
    · rw [take_one hp, List.mem_append, List.mem_singleton]
      constructor
      · rintro ⟨h1 | rfl, h2⟩
        · exact ⟨h1, h2⟩
        · exact absurd e.symm (h2 _ hm)
      · rintro ⟨h1, h2⟩
        exact ⟨.inl h1, h2⟩
    · exact Iff.rfl
  refine ⟨snoc h.ris fun c hc => ?_, fun c => ?_, fun c hc q hq => ?_, fun c hc q hq => ?_⟩
  · rcases (h.mem c).1 hc with ⟨h1, _⟩ | ⟨_, q, hq, e, _⟩
    · have := hL c h1 _ (List.mem_cons_self ..); omega
    · have := l1 q hq; omega
  · rw [htk, List.mem_append, List.mem_singleton, h.mem, take_oneL hi]
    constructor
    · rintro ((h1 | ⟨h1, q, hq, h2⟩) | rfl)
      · exact .inl h1
      · exact .inr ⟨h1, q, List.mem_append_left _ hq, h2⟩
      · exact .inr ⟨hy, _, List.mem_append_right _ (by simp), hk.symm, hx⟩
    · rintro (h1 | ⟨h1, q, hq, h2, h3⟩)
      · exact .inl (.inl h1)
      · rcases List.mem_append.1 hq with h4 | h4
        · exact .inl (.inr ⟨h1, q, h4, h2, h3⟩)
        · rw [List.mem_singleton] at h4
          subst h4
          exact .inr (hone c h1 (by omega))
  · have h2 := l2 q hq
    rcases hp with ⟨rfl, hp, e⟩ | ⟨rfl, _⟩
    · rw [take_one hp, List.mem_append, List.mem_singleton] at hc
      rcases hc with h1 | rfl
      · have := hL c h1 _ (List.mem_cons_self ..); omega
      · omega
    · have := hL c hc _ (List.mem_cons_self ..); omega
  · rw [take_oneL hi, List.mem_append, List.mem_singleton] at hq
    have hc2 : (l.getD i (0, 0)).1 < c.key := by
      rcases hp with ⟨rfl, hp, e⟩ | ⟨rfl, hn⟩
      · have := (risC_cut ha hp).2 c hc; omega
      · have hp : p' < a.length := by
          apply Decidable.byContradiction
          intro hn
          rw [List.drop_eq_nil_iff.2 (by omega)] at hc
          cases hc
        have g := hge hp
        have g2 : (a.getD p' ce0).key ≠ (l.getD i (0, 0)).1 := fun e => hn ⟨hp, e⟩
        rw [drop_one hp] at hc
        rcases List.mem_cons.1 hc with rfl | h2
        · omega
        · have := (risC_cut ha hp).2 c h2; omega
    rcases hq with h1 | rfl
    · have := l1 q h1; omega
    · exact hc2
structure Pat (a b : List Ce) (l : List (Int × Int)) (o : List Ce) : Prop where
  ris : RisC o
  mem : ∀ c, c ∈ o ↔ (c ∈ a ∧ ∀ q ∈ l, q.1 ≠ c.key) ∨ (c ∈ b ∧ ∃ q ∈ l, q.1 = c.key ∧ q.2 ≠ 1)
theorem PS.all (h : PS a b l l.length p out) (ha : RisC a) : Pat a b l (out ++ a.drop p) := by
  have hH := h.hi
  rw [List.take_length] at hH
  have ea := List.take_append_drop p a
  have ha' := ha
  rw [← ea, RisC, List.pairwise_append] at ha'
  refine ⟨?_, fun c => ?_⟩
  · rw [RisC, List.pairwise_append]
    refine ⟨h.ris, ha'.2.1, fun c hc d hd => ?_⟩
    rcases (h.mem c).1 hc with ⟨h1, _⟩ | ⟨_, q, hq, e, _⟩
    · exact ha'.2.2 c h1 d hd
    · rw [List.take_length] at hq
      have := hH d hd q hq
      omega
  · rw [List.mem_append, h.mem, List.take_length]
    constructor
    · rintro ((⟨h1, h2⟩ | h1) | h1)
      · exact .inl ⟨List.mem_of_mem_take h1, h2⟩
      · exact .inr h1
      · refine .inl ⟨List.mem_of_mem_drop h1, fun q hq => ?_⟩
        have := hH c h1 q hq
        omega
    · rintro (⟨h1, h2⟩ | h1)
      · rw [← ea] at h1
        rcases List.mem_append.1 h1 with h3 | h3
        · exact .inl (.inl ⟨h3, h2⟩)
        · exact .inr h3
      · exact .inl (.inr h1)
theorem Pat.one {o o' : List Ce} (h : Pat a b l o) (h' : Pat a b l o') : o = o' := risC_eq h.ris h'.ris fun c => by rw [h.mem, h'.mem]
end Dfp
end Go.Proofs.Ytpomklkfedpkfaa
namespace Go.Proofs.Ytpomklkfedpkfaa
set_option maxRecDepth 100000
open Go.RowKit H
set_option linter.unusedVariables false
theorem con_atC {l : List Ce} (i : Nat) : (l.map Ce.con).getD i con0 = (l.getD i ce0).con := by
  rw [List.getD, List.getD, List.getElem?_map]
  cases l[i]? <;> rfl
theorem rsame15 {a b : Ces} {w : World} {N : Nat} (ha : a.At N w) (hb : b.At N w) (hN : N ≤ w.heap.size) (hm : a.n ≤ 1000000) (hs : ∀ x ∈ a.l, x.ni ≤ 1000000 ∧ x.nr ≤ 1000000) : Calls Try.prog 12 #[a.val, b.val] w fun e w' => e = .returned (.bool (sameL a.con b.con)) ∧ Ext w w' := by
  have la := ha.l
  have lb := hb.l
  refine enter Try.func12 rfl (by kernel_rfl) ?_
  refine J.seq ?_
  refine J.region ?_
  refine L.va rfl (X.assign (by conv => lhs; whnf)) ?_
  refine L.nil ?_
  refine J.seq ?_
  refine J.seq ?_
  refine J.region ?_
  refine L.va rfl (X.move (by conv => lhs; whnf)) ?_
  refine L.va rfl (X.len rfl Try.underlying22) ?_
  refine L.va rfl (X.move (by conv => lhs; whnf)) ?_
  refine L.va rfl (X.len rfl Try.underlying22) ?_
  refine L.va rfl (X.neq rfl rfl) ?_
  refine L.nil ?_
  refine J.ndec rfl (fun h1 => ?_) (fun h1 => ?_)
  · have e : sameL a.con b.con = false := eqL_len (by show (a.l.map Ce.con).length ≠ (b.l.map Ce.con).length; rw [List.length_map, List.length_map]; omega)
    rw [e]
    refine J.seq ?_
    refine J.region ?_
    refine L.va rfl (X.assign (by conv => lhs; whnf)) ?_
    refine L.nil ?_
    refine J.ret ?_
    refine thn_ret <| ?_
    refine fin1 ?_
    exact ⟨rfl, Ext.refl _⟩
  · have hn : a.n = b.n := by omega
    refine J.skip ?_
    refine J.seq ?_
    refine J.seq ?_
    refine J.region ?_
    refine L.va rfl (X.assign (by conv => lhs; whnf)) ?_
    refine L.nil ?_
    refine J.block ?_
    refine J.loop (X := Nat) [4, 5, 11, 12, 13, 14, 15, 16, 17, 18, 19, 20, 21, 22, 23, 24, 25, 26] (fun i => [(5, .int .i64 (i : Int))]) (fun i w' => i ≤ a.n ∧ (∀ j, j < i → sameC (a.l.getD j ce0).con (b.l.getD j ce0).con = true) ∧ Ext w w') (fun i => a.n - i) (0) (At1 (by first | rfl | exact at_int rfl (by omega) | exact at_slice rfl (by omega) | exact at_int rfl (by simp))) ?_ ?_
    · exact ⟨Nat.zero_le _, fun j hj => absurd hj (by omega), Ext.refl _⟩
    · rintro i g w2 ⟨hi, hP, he⟩
      have z := he.le
      have hra := ha.r.ext he
      have hrb := hb.r.ext he
      refine J.seq ?_
      refine J.seq ?_
      refine J.region ?_
      refine L.va rfl (X.move (by conv => lhs; whnf)) ?_
      refine L.va rfl (X.move (by conv => lhs; whnf)) ?_
      refine L.va rfl (X.len rfl Try.underlying22) ?_
      refine L.va rfl (X.lss rfl rfl) ?_
      refine L.nil ?_
      refine J.dec rfl (fun hlt => ?_) (fun hlt => ?_)
      · have hin : i < a.n := by omega
        have hA := hra.some_ (by omega)
        have hB := hrb.some_ (by omega)
        have gx := gtX (l := a.l) (i := i) (by omega)
        have gy := gtX (l := b.l) (i := i) (by omega)
        have hX := (ha.one (i := i) hin).ext he
        have hY := (hb.one (i := i) (by omega)).ext he
        have hmx := hs _ (memD (d := ce0) (show i < a.l.length by omega))
        generalize ex : a.l.getD i ce0 = p at gx hX hmx
        generalize ey : b.l.getD i ce0 = q at gy hY
        have cS : ∀ w', Ext w2 w' → Calls Try.prog 26 #[p.val, q.val] w' fun e w'' => e = .returned (.bool (sameC p.con q.con)) ∧ Ext w' w'' := fun w' hw => rsame14 (hX.ext hw) (hY.ext hw) (by have := hw.le; omega) hmx
        refine J.skip ?_
        refine J.seq ?_
        refine J.block ?_
        refine J.seq ?_
        refine J.quiet mixed (by kernel_rfl) ?_
        refine Qt.va rfl (fun w' hw => X.move (by conv => lhs; whnf)) ?_
        refine Qt.va rfl (fun w' hw => X.move (by conv => lhs; whnf)) ?_
        refine Qt.va rfl (fun w' hw => (by first | exact X.indexAddrn rfl rfl Try.underlying22 sz_61 (by first | exact Option.some_ne_none _ | exact hA | exact hB) (by omega) | exact X.indexAddr rfl rfl Try.underlying22 sz_61 (by first | exact Option.some_ne_none _ | exact hA | exact hB) (by omega))) ?_
        refine Qt.va rfl (fun w' hw => X.loadRow (cs := p.vs) rfl (hra.ext hw) (fun r u hu => flat_row ce_len gx r u hu) (Nat.zero_lt_succ _) Try.underlying61 rfl (by kernel_rfl)) ?_
        refine Qt.va rfl (fun w' hw => X.move (by conv => lhs; whnf)) ?_
        refine Qt.va rfl (fun w' hw => X.move (by conv => lhs; whnf)) ?_
        refine Qt.va rfl (fun w' hw => (by first | exact X.indexAddrn rfl rfl Try.underlying22 sz_61 (by first | exact Option.some_ne_none _ | exact hA | exact hB) (by omega) | exact X.indexAddr rfl rfl Try.underlying22 sz_61 (by first | exact Option.some_ne_none _ | exact hA | exact hB) (by omega))) ?_
        refine Qt.va rfl (fun w' hw => X.loadRow (cs := q.vs) rfl (hrb.ext hw) (fun r u hu => flat_row ce_len gy r u hu) (Nat.zero_lt_succ _) Try.underlying61 rfl (by kernel_rfl)) ?_
        refine Qt.call rfl en_26 rfl (fun w' hw => calls_ext hw (cS w' hw)) ?_
        refine Qt.va rfl (fun w' hw => X.not rfl) ?_
        refine Qt.nil (fun w3 hq => ?_)
        have he3 := he.trans hq
        cases hk : sameC p.con q.con
        · refine J.iteT rfl ?_
          have e : sameL a.con b.con = false := eqL_no (i := i) (by show i < (a.l.map Ce.con).length; rw [List.length_map]; omega) (by
            show sameC ((a.l.map Ce.con).getD i con0) ((b.l.map Ce.con).getD i con0) = false
            rw [con_atC, con_atC, ex, ey]
            exact hk)
          rw [e]
          refine J.seq ?_
          refine J.region ?_
          refine L.va rfl (X.assign (by conv => lhs; whnf)) ?_
          refine L.nil ?_
          refine J.ret ?_
          refine inB_ret <|  thn_ret <|  thn_ret <|  inB_ret <|  thn_ret <| ?_
          refine fin1 ?_
          exact ⟨rfl, he3⟩
        · refine J.iteF rfl ?_
          refine J.skip ?_
          refine J.region ?_
          refine L.va rfl (X.move (by conv => lhs; whnf)) ?_
          refine L.va rfl (X.add rfl rfl (by omega)) ?_
          refine L.va rfl (X.assign (by conv => lhs; whnf)) ?_
          refine L.nil ?_
          refine ⟨i + 1, At1 (by first | rfl | exact at_int rfl (by omega) | exact at_slice rfl (by omega) | exact at_int rfl (by simp)), (by (iterate 17 refine Agr.lk rfl ?_); exact Agr.lk rfl (Agr.hav rfl Agr.rfl')), ?_⟩
          refine ⟨⟨by omega, fun j hj => ?_, he3⟩, by omega⟩
          rcases Nat.lt_or_ge j i with h | h
          · exact hP j h
          · obtain rfl : j = i := by omega
            rw [ex, ey]
            exact hk
      · obtain rfl : i = a.n := by omega
        have e : sameL a.con b.con = true := eqL_yes (by show (a.l.map Ce.con).length = (b.l.map Ce.con).length; rw [List.length_map, List.length_map]; omega) (fun j hj => by
          show sameC ((a.l.map Ce.con).getD j con0) ((b.l.map Ce.con).getD j con0) = true
          rw [con_atC, con_atC]
          exact hP j (by have : j < (a.l.map Ce.con).length := hj; rw [List.length_map] at this; omega))
        rw [e]
        refine J.exit ?_
        refine J.seq ?_
        refine J.region ?_
        refine L.va rfl (X.assign (by conv => lhs; whnf)) ?_
        refine L.nil ?_
        refine J.ret ?_
        refine fin1 ?_
        exact ⟨rfl, he⟩
end Go.Proofs.Ytpomklkfedpkfaa
namespace Go.Proofs.Ytpomklkfedpkfaa
set_option maxRecDepth 100000
open Go.RowKit H
open Dfp
set_option linter.unusedVariables false
abbrev RisK (l : List Con) : Prop := l.Pairwise fun x y => x.k < y.k
theorem risK_iff {l : List Ce} : RisK (l.map Ce.con) ↔ RisC l := by
  rw [RisK, RisC, List.pairwise_map]
  constructor
  · intro h
    exact h.imp fun {a b} h => by show (a.k : Int) < (b.k : Int); have : a.k < b.k := h; omega
  · intro h
    exact h.imp fun {a b} h => by have : (a.k : Int) < (b.k : Int) := h; show a.k < b.k; omega
def riseK (l : List Con) : Bool := (List.range (l.length - 1)).all fun i => decide ((l.getD i con0).k < (l.getD (i + 1) con0).k)
theorem rise_con (l : List Ce) : rise l = riseK (l.map Ce.con) := by
  unfold rise riseK
  rw [List.length_map]
  congr 1
  funext i
  rw [con_atC, con_atC]
  apply Bool.eq_iff_iff.2
  rw [decide_eq_true_iff, decide_eq_true_iff]
  show ((l.getD i ce0).k : Int) < ((l.getD (i + 1) ce0).k : Int) ↔ (l.getD i ce0).k < (l.getD (i + 1) ce0).k
  omega
def rightK (s : Sch) (m : Nat) (l : List Con) : Bool := s.kb m && (riseK l && l.all (rightC s m))
theorem rightK_ris {s : Sch} {m : Nat} {l : List Ce} (h : rightK s m (l.map Ce.con) = true) : rise l = true := by
  unfold rightK at h
  rw [rise_con]
  simp only [Bool.and_eq_true] at h
  exact h.2.1
theorem rightK_sub {s : Sch} {m : Nat} {l : List Ce} {l' : List Ce} {p : Con → Bool} (h : rightK s m (l.map Ce.con) = true) (e : l'.map Ce.con = (l.map Ce.con).filter p) : rightK s m (l'.map Ce.con) = true := by
  have hr := rightK_ris h
  unfold rightK at h ⊢
  simp only [Bool.and_eq_true] at h ⊢
  refine ⟨h.1, ?_, ?_⟩
  · rw [← rise_con]
    apply rise_of
    rw [← risK_iff, e]
    exact (risK_iff.2 (ris_of hr)).sublist List.filter_sublist
  · rw [e, List.all_eq_true]
    intro x hx
    exact List.all_eq_true.1 h.2.2 x ((List.mem_filter.1 hx).1)
theorem cright {s : Sch} {m : Nat} {t : Ces} {w : World} {N : Nat} (H : s.Here w) (hm : m < 4294967296) (hN : N ≤ w.heap.size) (ht : t.At N w) (hn : t.n ≤ 1000) (hL : ∀ x ∈ t.l, x.Lt) : Calls Try.prog 37 #[s.val, .int .u32 (m : Int), t.val] w fun e w' => e = .returned (.bool (rightK s m t.con)) ∧ Ext w w' := by
  obtain ⟨A, n, c, l⟩ := t
  obtain rfl : l.length = n := ht.l
  have hn : l.length ≤ 1000 := hn
  have hr : Reads w N 4 A l.length (l.flatMap Ce.vs) := ht.r
  show Calls Try.prog 37 #[s.val, .int .u32 (m : Int), .slice A l.length c] w fun e w' => e = .returned (.bool (rightK s m (l.map Ce.con))) ∧ Ext w w'
  have hle := H.hle
  have no : ∀ w' : World, rightK s m (l.map Ce.con) = false → Ext w w' → Ending.returned (.bool false) = .returned (.bool (rightK s m (l.map Ce.con))) ∧ Ext w w' := fun w' h he => ⟨by rw [h], he⟩
  refine enter Try.func37 rfl (by kernel_rfl) ?_
  refine J.seq ?_
  refine J.region ?_
  refine L.boxA (l := [_, _, _, _]) rfl rfl ?_
  intro b1 w1 hb1 hs1 hk1 he1
  refine L.va rfl (X.assign (by conv => lhs; whnf)) ?_
  refine L.nil ?_
  refine J.seq ?_
  refine J.seq ?_
  refine J.region ?_
  refine L.va rfl ((by first | exact X.loadAgg rfl (range_l hk1) Try.underlying47 rfl (by kernel_rfl) | exact X.loadAgg rfl (range_blk hk1) Try.underlying47 rfl (by kernel_rfl))) ?_
  refine L.va rfl (X.move (by conv => lhs; whnf)) ?_
  refine L.call rfl en_57 rfl ((H.ext he1).keys hm) ?_
  rintro e w2 ⟨rfl, he2⟩
  refine ⟨_, rfl, ?_⟩
  have he2 : Ext w1 w2 := he2
  have he02 := he1.trans he2
  have hk1 := hk1.ext he2
  refine L.va rfl (X.move (by conv => lhs; whnf)) ?_
  refine L.va rfl (X.extract rfl rfl) ?_
  refine L.va rfl (X.extract rfl rfl) ?_
  refine L.va rfl (X.assign (by conv => lhs; whnf)) ?_
  refine L.va rfl (X.assign (by conv => lhs; whnf)) ?_
  refine L.nil ?_
  refine J.seq ?_
  refine J.region ?_
  refine L.va rfl (X.move (by conv => lhs; whnf)) ?_
  refine L.va rfl (X.not rfl) ?_
  refine L.va rfl (X.move (by conv => lhs; whnf)) ?_
  cases hkb : s.kb m
  · refine L.caseBT (k := 19) rfl (by rfl) ?_
    refine L.no rfl ?_
    refine L.no rfl ?_
    refine L.no rfl ?_
    refine L.va rfl (X.pickT rfl (by conv => lhs; whnf)) ?_
    refine L.nil ?_
    refine J.iteT rfl ?_
    refine J.seq ?_
    refine J.region ?_
    refine L.va rfl (X.assign (by conv => lhs; whnf)) ?_
    refine L.nil ?_
    refine J.ret ?_
    refine thn_ret <| ?_
    refine fin1 ?_
    refine no _ ?_ he02
    unfold rightK
    rw [hkb]
    rfl
  · have z2 := he02.le
    have c3 := crising (w := w2) A c l (hr.ext he02) (by omega) (by omega)
    refine L.caseBF (k := 19) rfl (by rfl) ?_
    refine L.va rfl (X.move (by conv => lhs; whnf)) ?_
    refine L.call rfl en_50 rfl (c3) ?_
    rintro e w3 ⟨rfl, he3⟩
    refine ⟨_, rfl, ?_⟩
    have he3 : Ext w2 w3 := he3
    have he03 := he02.trans he3
    have hk1 := hk1.ext he3
    refine L.va rfl (X.not rfl) ?_
    refine L.va rfl (X.pickF rfl (by conv => lhs; whnf)) ?_
    refine L.nil ?_
    cases hri : rise l
    · refine J.iteT rfl ?_
      refine J.seq ?_
      refine J.region ?_
      refine L.va rfl (X.assign (by conv => lhs; whnf)) ?_
      refine L.nil ?_
      refine J.ret ?_
      refine thn_ret <| ?_
      refine fin1 ?_
      refine no _ ?_ he03
      unfold rightK
      rw [← rise_con, hri]
      simp
    · refine J.iteF rfl ?_
      refine J.skip ?_
      refine J.seq ?_
      refine J.seq ?_
      refine J.region ?_
      refine L.va rfl (X.move (by conv => lhs; whnf)) ?_
      refine L.va rfl (X.len rfl Try.underlying22) ?_
      refine L.va rfl (X.move (by conv => lhs; whnf)) ?_
      refine L.nil ?_
      refine J.block ?_
      refine J.loop (X := Nat) [6, 10, 26, 27, 28, 29, 30, 31, 32, 33, 34, 35] (fun i => [(26, .int .i64 (i : Int))]) (fun i w' => i ≤ l.length ∧ (∀ j, j < i → rightC s m (l.getD j ce0).con = true) ∧ Ext w3 w') (fun i => l.length - i) (0) (At1 (by first | rfl | exact at_int rfl (by omega) | exact at_slice rfl (by omega) | exact at_int rfl (by simp))) ?_ ?_
      · exact ⟨Nat.zero_le _, fun j hj => absurd hj (by omega), Ext.refl _⟩
      · rintro i g w4 ⟨hi, hP, he34⟩
        have he4 := he03.trans he34
        have hk4 := hk1.ext he34
        have z4 := he4.le
        refine J.seq ?_
        refine J.region ?_
        refine L.va rfl (X.lss rfl rfl) ?_
        refine L.nil ?_
        refine J.seq ?_
        refine J.dec rfl (fun hlt => ?_) (fun hlt => ?_)
        · have hin : i < l.length := by omega
          have hr4 := hr.ext he4
          have hA := hr4.some_ (by omega)
          have gy := gtX hin
          have my := memD (l := l) (i := i) (d := ce0) hin
          obtain ⟨y, hy⟩ : ∃ y, y = l.getD i ce0 := ⟨_, rfl⟩
          rw [← hy] at gy my
          refine J.skip ?_
          refine J.seq ?_
          refine J.block ?_
          refine J.seq ?_
          refine J.region ?_
          refine L.va rfl ((by first | exact X.indexAddrn rfl rfl Try.underlying22 sz_61 (by first | exact Option.some_ne_none _ | exact hA) (by omega) | exact X.indexAddr rfl rfl Try.underlying22 sz_61 (by first | exact Option.some_ne_none _ | exact hA) (by omega))) ?_
          refine L.va rfl (X.loadRow (cs := y.vs) rfl hr4 (fun r u hu => flat_row ce_len gy r u hu) (Nat.zero_lt_succ _) Try.underlying61 rfl (by kernel_rfl)) ?_
          refine L.alloc rfl zr_61 ?_
          intro b5 w5 hb5 hs5 hk5 he5
          refine L.storeAgg (vs := [_, _, _, _]) rfl rfl rfl rfl sz_61 (hk5) rfl ?_
          intro w6 hk6 hg6 hs6
          have he46 : Ext w4 w6 := he5.grw hg6 (by intro g hg; injection hg with hg; omega)
          have hk6 : Blk w6 b5 61 y.vs.toArray := hk6
          have hk16 := hk4.ext he46
          have he06 := he4.trans he46
          have z6 := he06.le
          have c7 := aright (m := m) (x := y) (N := N) (H.ext he06) hm (by omega) ((ht.h y my).ext he06) (hL y my)
          refine L.nil ?_
          refine J.seq ?_
          refine J.region ?_
          refine L.va rfl (X.loadAgg rfl (range_blk hk16) Try.underlying47 rfl (by kernel_rfl)) ?_
          refine L.va rfl (X.move (by conv => lhs; whnf)) ?_
          refine L.va rfl (X.loadAgg rfl (range_l hk6) Try.underlying61 rfl (by kernel_rfl)) ?_
          refine L.call rfl en_58 rfl (c7) ?_
          rintro e w7 ⟨rfl, he7⟩
          refine ⟨_, rfl, ?_⟩
          have he07 := he06.trans he7
          refine L.va rfl (X.not rfl) ?_
          refine L.nil ?_
          cases hrc : rightC s m y.con
          · refine J.iteT rfl ?_
            refine J.seq ?_
            refine J.region ?_
            refine L.va rfl (X.assign (by conv => lhs; whnf)) ?_
            refine L.nil ?_
            refine J.ret ?_
            refine inB_ret <|  thn_ret <|  thn_ret <|  inB_ret <|  thn_ret <| ?_
            refine fin1 ?_
            refine no _ ?_ he07
            have : (l.map Ce.con).all (rightC s m) = false := by
              rw [List.all_map]
              exact all_no (d := ce0) hin (by rw [← hy]; exact hrc)
            unfold rightK
            rw [this]
            simp
          · refine J.iteF rfl ?_
            refine J.skip ?_
            refine J.region ?_
            refine L.va rfl (X.add rfl rfl (by omega)) ?_
            refine L.va rfl (X.move (by conv => lhs; whnf)) ?_
            refine L.nil ?_
            refine ⟨i + 1, At1 (by first | rfl | exact at_int rfl (by omega) | exact at_slice rfl (by omega) | exact at_int rfl (by simp)), (by (iterate 11 refine Agr.lk rfl ?_); exact Agr.lk rfl (Agr.hav rfl Agr.rfl')), ?_⟩
            refine ⟨⟨by omega, fun j hj => ?_, (he34.trans he46).trans he7⟩, by omega⟩
            rcases Nat.lt_or_ge j i with h | h
            · exact hP j h
            · obtain rfl : j = i := by omega
              rw [← hy]
              exact hrc
        · refine J.exit ?_
          refine J.seq ?_
          refine J.region ?_
          refine L.va rfl (X.assign (by conv => lhs; whnf)) ?_
          refine L.nil ?_
          refine J.ret ?_
          refine fin1 ?_
          have : (l.map Ce.con).all (rightC s m) = true := by
            rw [List.all_map]
            exact all_yes (d := ce0) fun j hj => hP j (by omega)
          refine ⟨?_, he4⟩
          unfold rightK
          rw [this, ← rise_con, hri, hkb]
          rfl
end Go.Proofs.Ytpomklkfedpkfaa
namespace Go.Proofs.Ytpomklkfedpkfaa
set_option maxRecDepth 100000
open Go.RowKit H
open Dfp
set_option linter.unusedVariables false
namespace H
theorem X.slice3 {P : Program} {f : Fr} {w : World} {d : Option Tmp} {ty : TypeId} {pos : String} {aft : Array Edge} {g : Option (Nat × Bool)} {x y z : Operand} {t e : TypeId} {A : Option Addr} {q c sz n : Nat} (hx : ev f x = .slice A q c) (hy : ev f y = .int .i64 (n : Int)) (hz : ev f z = .int .i64 (n : Int)) (ht : P.underlying t = some (.slice e)) (hs : Siz P e sz) (hij : n ≤ c) :
    (execOp (ev f) ⟨d, .slice t x none (some y) (some z), ty, pos, aft, g⟩).run P w = .ok (.value (.slice A n n)) w := by
  simp only [execOp, Instr.sliceAt, Instr.slice, Instr.sliceBounds, Instr.sliceBound, Option.map_some, Option.map_none, hx, hy, hz, Sem.run_bind, run_underlying ht, Result.andThen_ok, asIntOf, Sem.run_pure, hs.run]
  have h1 : 0 ≤ (n : Int) ∧ (n : Int) ≤ (c : Int) := by omega
  simp [h1]
  cases A <;> simp [Addr.add_zero']
theorem X.appendNil {P : Program} {f : Fr} {w : World} {d : Option Tmp} {ty : TypeId} {pos : String} {aft : Array Edge} {g : Option (Nat × Bool)} {x y : Operand} {t e : TypeId} {A : Option Addr} {n c c' sz : Nat} (hx : ev f x = .slice A n c) (hy : ev f y = .slice none 0 c') (ht : P.underlying t = some (.slice e)) (hs : Siz P e sz) (hij : n ≤ c) (hA : A = none → n = 0 ∧ c = 0) :
    (execOp (ev f) ⟨d, .call { callee := .builtin .append, args := #[x, y], argTypes := #[t, t] }, ty, pos, aft, g⟩).run P w = .ok (.value (.slice A n c)) w := by
  obtain ⟨i, hi, hz⟩ := hs
  have hrun : (Builtin.append_ #[t, t] ty #[.slice A n c, .slice none 0 c']).run P w = .ok (.slice A n c) w := by
    rcases A with _ | ad
    · obtain ⟨rfl, rfl⟩ := hA rfl
      simp [Builtin.append_, run_underlying ht, sizeOf, typeInfo, hi, Builtin.lenOf, Builtin.firstCells]
    · simp [Builtin.append_, run_underlying ht, sizeOf, typeInfo, hi, Builtin.lenOf, Builtin.firstCells, hij, storeCells]
  unfold execOp
  simp only [resolve, Go.invoke, builtin, Sem.run_bind, Sem.run_pure, Result.andThen_ok, List.map_toArray, List.map_cons, List.map_nil, hx, hy, hrun]
end H
theorem cmerge (s : Ces) (w : World) (hs : s.At w.heap.size w) (hn : s.n ≤ 1000) (hc : s.n ≤ s.c) (hr : rise s.l = true) (hL : ∀ x ∈ s.l, x.Lt) : Calls Try.prog 30 #[s.val, .slice none 0 0] w fun e w' => ∃ t : Ces, e = .returned (.tuple #[t.val, .int .i64 0]) ∧ t.con = s.con ∧ t.At w'.heap.size w' ∧ t.n ≤ t.c ∧ (∀ x ∈ t.l, x.Lt) ∧ Ext w w' := by
  obtain ⟨A, n, c, l⟩ := s
  have hl : l.length = n := hs.l
  have hn : n ≤ 1000 := hn
  have hc : n ≤ c := hc
  subst hl
  have hrr : Reads w w.heap.size 4 A l.length (l.flatMap Ce.vs) := hs.r
  refine enter Try.func30 rfl (by kernel_rfl) ?_
  refine J.seq ?_
  refine J.region ?_
  refine L.va rfl (X.assign (by conv => lhs; whnf)) ?_
  refine L.va rfl (X.assign (by conv => lhs; whnf)) ?_
  refine L.nil ?_
  refine J.seq ?_
  refine J.seq ?_
  refine J.region ?_
  refine L.va rfl (X.move (by conv => lhs; whnf)) ?_
  have c1 := crising A c l hrr (Nat.le_refl _) (by omega)
  rw [show rise l = true from hr] at c1
  refine L.call rfl en_50 rfl (c1) ?_
  rintro e w1 ⟨rfl, he1⟩
  refine ⟨_, rfl, ?_⟩
  refine L.va rfl (X.not rfl) ?_
  refine L.va rfl (X.move (by conv => lhs; whnf)) ?_
  refine L.caseBF (k := 14) rfl (by rfl) ?_
  refine L.va rfl (X.move (by conv => lhs; whnf)) ?_
  have c2 := crising none 0 [] (Reads.of_own (own_nil w1 0 0 4)) (Nat.le_refl _) (by simp)
  rw [show rise [] = true from rfl] at c2
  refine L.call rfl en_50 rfl (c2) ?_
  rintro e w2 ⟨rfl, he2⟩
  refine ⟨_, rfl, ?_⟩
  refine L.va rfl (X.not rfl) ?_
  refine L.va rfl (X.pickF rfl (by conv => lhs; whnf)) ?_
  refine L.nil ?_
  refine J.iteF rfl ?_
  refine J.skip ?_
  refine J.seq ?_
  refine J.region ?_
  refine L.va rfl (X.assign (by conv => lhs; whnf)) ?_
  refine L.nil ?_
  have he02 := he1.trans he2
  refine J.cut (X := Unit) [0, 1, 4, 5, 6, 7, 8, 19, 20, 21, 22, 23, 24, 25, 26, 27, 28, 29, 30, 31, 32, 33, 34, 35, 36, 37, 38, 39, 40, 41, 42, 43, 44, 45, 46, 47, 48, 49, 50, 51, 52, 53, 54, 55, 56, 57, 58, 59, 60, 61, 62, 63, 64, 65, 66, 67, 68, 69, 70, 71, 72, 73, 74, 75, 76, 77, 78, 79, 80, 81, 82, 83, 84, 85] (fun _ => [(0, .slice A l.length c), (1, .slice none 0 0), (6, .slice none 0 0)]) (fun _ w' => w2 = w') ?_ ?_
  · refine J.block ?_
    refine J.loop (X := Unit) [0, 1, 4, 5, 6, 7, 8, 19, 20, 21, 22, 23, 24, 25, 26, 27, 28, 29, 30, 31, 32, 33, 34, 35, 36, 37, 38, 39, 40, 41, 42, 43, 44, 45, 46, 47, 48, 49, 50, 51, 52, 53, 54, 55, 56, 57, 58, 59, 60, 61, 62, 63, 64, 65, 66, 67, 68, 69, 70, 71, 72, 73, 74, 75, 76, 77, 78, 79, 80, 81, 82, 83, 84, 85] (fun _ => [(0, .slice A l.length c), (1, .slice none 0 0), (6, .slice none 0 0)]) (fun _ w' => w2 = w') (fun _ => 0) (()) (At3 (by first | rfl | exact at_int rfl (by omega) | exact at_slice rfl (by omega) | exact at_int rfl (by simp)) (by first | rfl | exact at_int rfl (by omega) | exact at_slice rfl (by omega) | exact at_int rfl (by simp)) (by first | rfl | exact at_int rfl (by omega) | exact at_slice rfl (by omega) | exact at_int rfl (by simp))) ?_ ?_
    · exact rfl
    · rintro ⟨⟩ g w3 rfl
      refine J.seq ?_
      refine J.seq ?_
      refine J.region ?_
      refine L.va rfl (X.move (by conv => lhs; whnf)) ?_
      refine L.va rfl (X.len rfl Try.underlying22) ?_
      refine L.va rfl (X.gtr rfl rfl) ?_
      refine L.va rfl (X.move (by conv => lhs; whnf)) ?_
      refine L.caseDec (k := 22) rfl (fun h0 => ?_) (fun h0 => ?_)
      · refine L.va rfl (X.move (by conv => lhs; whnf)) ?_
        refine L.va rfl (X.len rfl Try.underlying22) ?_
        refine L.va rfl (X.gtr rfl rfl) ?_
        refine L.va rfl (X.pickT rfl (by conv => lhs; whnf)) ?_
        refine L.nil ?_
        refine J.iteF rfl ?_
        refine J.exit ?_
        refine ⟨(), At3 (by first | rfl | exact at_int rfl (by omega) | exact at_slice rfl (by omega) | exact at_int rfl (by simp)) (by first | rfl | exact at_int rfl (by omega) | exact at_slice rfl (by omega) | exact at_int rfl (by simp)) (by first | rfl | exact at_int rfl (by omega) | exact at_slice rfl (by omega) | exact at_int rfl (by simp)), (by (iterate 9 refine Agr.lk rfl ?_); refine Agr.lk rfl ?_; refine Agr.hav rfl ?_; exact Agr.rfl'), ?_⟩
        rfl
      · refine L.no rfl ?_
        refine L.no rfl ?_
        refine L.no rfl ?_
        refine L.va rfl (X.pickF rfl (by conv => lhs; whnf)) ?_
        refine L.nil ?_
        refine J.iteF rfl ?_
        refine J.exit ?_
        refine ⟨(), At3 (by first | rfl | exact at_int rfl (by omega) | exact at_slice rfl (by omega) | exact at_int rfl (by simp)) (by first | rfl | exact at_int rfl (by omega) | exact at_slice rfl (by omega) | exact at_int rfl (by simp)) (by first | rfl | exact at_int rfl (by omega) | exact at_slice rfl (by omega) | exact at_int rfl (by simp)), (by (iterate 9 refine Agr.lk rfl ?_); refine Agr.lk rfl ?_; refine Agr.hav rfl ?_; exact Agr.rfl'), ?_⟩
        rfl
  · rintro ⟨⟩ g w3 rfl
    have z2 := he02.le
    have hA : A = none → l.length = 0 ∧ l.length = 0 := fun e => by
      apply Decidable.byContradiction
      intro h
      exact hrr.some_ (by omega) e
    refine J.seq ?_
    refine J.seq ?_
    refine J.region ?_
    refine L.va rfl (X.move (by conv => lhs; whnf)) ?_
    refine L.va rfl (X.move (by conv => lhs; whnf)) ?_
    refine L.va rfl (X.len rfl Try.underlying22) ?_
    refine L.va rfl (X.move (by conv => lhs; whnf)) ?_
    refine L.va rfl (X.len rfl Try.underlying22) ?_
    refine L.va rfl (X.slice3 rfl rfl rfl Try.underlying22 sz_61 hc) ?_
    refine L.va rfl (X.move (by conv => lhs; whnf)) ?_
    refine L.va rfl (X.appendNil rfl rfl Try.underlying22 sz_61 (Nat.le_refl _) hA) ?_
    refine L.va rfl (X.len rfl Try.underlying22) ?_
    refine L.va rfl (X.move (by conv => lhs; whnf)) ?_
    refine L.nil ?_
    refine J.block ?_
    refine J.loop (X := Nat × Option Addr × Nat × List Ce) [6, 10, 95, 96, 97, 98, 99, 100, 101, 102, 103, 104] (fun (i, B, d, o) => [(95, .int .i64 (i : Int)), (6, .slice B i d)]) (fun (i, B, d, o) w' => i ≤ l.length ∧ o.length = i ∧ o.map Ce.con = (l.take i).map Ce.con ∧ (∀ y ∈ o, y.Own w.heap.size w') ∧ w'.ownsRow w2.heap.size 61 4 (.slice B i d) i (o.flatMap Ce.vs) ∧ Ext w2 w') (fun (i, _) => l.length - i) ((0, none, 0, [])) (At2 (by first | rfl | exact at_int rfl (by omega) | exact at_slice rfl (by omega) | exact at_int rfl (by simp)) (by first | rfl | exact at_int rfl (by omega) | exact at_slice rfl (by omega) | exact at_int rfl (by simp))) ?_ ?_
    · exact ⟨Nat.zero_le _, rfl, rfl, (fun y hy => by cases hy), own_nil _ _ _ _, Ext.refl _⟩
    · rintro ⟨i, B, d, o⟩ g w4 ⟨hi, ho, hco, hLo, ho4, he4⟩
      have he04 := he02.trans he4
      have z4 := he04.le
      refine J.seq ?_
      refine J.region ?_
      refine L.va rfl (X.lss rfl rfl) ?_
      refine L.nil ?_
      refine J.seq ?_
      refine J.dec rfl (fun hlt => ?_) (fun hlt => ?_)
      · have hin : i < l.length := by omega
        obtain ⟨x, hx⟩ : ∃ x, x = l.getD i ce0 := ⟨_, rfl⟩
        have gx := gtX (l := l) (i := i) hin
        have mx := memD (l := l) (i := i) (d := ce0) hin
        rw [← hx] at gx mx
        have hr4 := hrr.ext he04
        have hAs := hr4.some_ (by omega)
        refine J.skip ?_
        refine J.seq ?_
        refine J.block ?_
        refine J.seq ?_
        refine J.region ?_
        refine L.va rfl ((by first | exact X.indexAddrn rfl rfl Try.underlying22 sz_61 (by first | exact Option.some_ne_none _ | exact hAs) (by omega) | exact X.indexAddr rfl rfl Try.underlying22 sz_61 (by first | exact Option.some_ne_none _ | exact hAs) (by omega))) ?_
        refine L.va rfl (X.loadRow (cs := x.vs) rfl hr4 (fun r u hu => flat_row ce_len gx r u hu) (Nat.zero_lt_succ _) Try.underlying61 rfl (by kernel_rfl)) ?_
        refine L.alloc rfl zr_61 ?_
        intro b5 w5 hb5 hs5 hk5 he5
        have ho5 := ho4.ext he5
        refine L.storeAgg (vs := [_, _, _, _]) rfl rfl rfl rfl sz_61 (hk5) rfl ?_
        intro w6 hk6 hg6 hs6
        have he46 : Ext w4 w6 := he5.grw hg6 (by intro g hg; injection hg with hg; omega)
        have hk6 : Blk w6 b5 61 x.vs.toArray := hk6
        have ho6 := ho4.ext he46
        have he06 := he04.trans he46
        refine L.nil ?_
        refine J.region ?_
        refine L.va rfl (X.move (by conv => lhs; whnf)) ?_
        refine L.va rfl ((by first | exact X.loadAgg rfl (range_l hk6) Try.underlying61 rfl (by kernel_rfl) | exact X.loadAgg rfl (range_blk hk6) Try.underlying61 rfl (by kernel_rfl))) ?_
        have c5 := copied x w6 he06.le ((hs.h x mx).ext he06) (hL x mx)
        refine L.call rfl en_51 rfl (c5) ?_
        rintro e w7 ⟨y, rfl, hcy, hy7, he7⟩
        refine ⟨_, rfl, ?_⟩
        have ho7 := ho6.ext he7
        refine L.bslice1 (l := [_, _, _, _]) rfl rfl rfl Try.underlying22 sz_61 zr_61 rfl ?_
        intro b8 w8 hb8 hs8 hk8 he8
        have ho8 := ho7.ext he8
        have he48 := (he46.trans he7).trans he8
        have he28 := he4.trans he48
        have z28 := he28.le
        refine L.appendV (q := i + 1) (ys := ((o ++ [y]).flatMap Ce.vs)) rfl rfl rfl Try.underlying22 el_61 (ho8) ((blk_readsN (sz := 4) (q := 1) (l := y.vs) hk8 hk8.lt rfl)) (by first | rfl | exact strs_ones _ | assumption) (by omega) (by simp) (by unfold maxLen; omega) (by omega) ?_
        intro B9 d9 w9 ho9 hg9 hb9 hor9
        have hC9 : TCh 61 w8 w9 := TCh.row ho8 hg9
        have hY : ∀ z ∈ o ++ [y], z.Own w.heap.size w9 := fun z hz => by
          have : z.Own w.heap.size w8 := by
            rcases List.mem_append.1 hz with hz | hz
            · exact (hLo z hz).ext he48
            · rw [List.mem_singleton] at hz
              rw [hz]
              exact hy7.ext he8
          exact this.put (Below.mono hb9 z2) hC9 (by decide)
        have he9 := he28.grw hg9 (fun g hg => (ho8.lt g hg).1)
        refine L.va rfl (X.assign (by conv => lhs; whnf)) ?_
        refine L.nil ?_
        refine J.region ?_
        refine L.va rfl (X.add rfl rfl (by omega)) ?_
        refine L.va rfl (X.move (by conv => lhs; whnf)) ?_
        refine L.nil ?_
        refine ⟨(i + 1, B9, d9, o ++ [y]), At2 (by first | rfl | exact at_int rfl (by omega) | exact at_slice rfl (by omega) | exact at_int rfl (by simp)) (by first | rfl | exact at_int rfl (by omega) | exact at_slice rfl (by omega) | exact at_int rfl (by simp)), (by (iterate 12 refine Agr.lk rfl ?_); exact Agr.lk rfl (Agr.hav rfl Agr.rfl')), ?_⟩
        refine ⟨⟨by omega, by rw [List.length_append, ho]; rfl, ?_, hY, ho9, he9⟩, by show l.length - (i + 1) < l.length - i; omega⟩
        rw [List.map_append, hco, take_one hin, List.map_append, ← hx]
        show _ ++ [y.con] = _ ++ [x.con]
        rw [hcy]
      · obtain rfl : i = l.length := by omega
        rw [List.take_length] at hco
        refine J.exit ?_
        refine J.seq ?_
        refine J.region ?_
        refine L.va rfl (X.move (by conv => lhs; whnf)) ?_
        refine L.va rfl (X.assign (by conv => lhs; whnf)) ?_
        refine L.va rfl (X.assign (by conv => lhs; whnf)) ?_
        refine L.nil ?_
        refine J.ret ?_
        refine fin2 ?_
        refine ⟨⟨B, l.length, d, o⟩, rfl, hco, ⟨Reads.of_own ho4, fun y hy => (hLo y hy).at z4, ho, by show l.length ≤ maxLen; unfold maxLen; omega⟩, own_le' ho4, fun y hy => (hLo y hy).L, he04⟩
end Go.Proofs.Ytpomklkfedpkfaa
namespace Go.Proofs.Ytpomklkfedpkfaa
set_option linter.unusedVariables false
def swp (l : List Int) (i j : Nat) : List Int := (l.set i (l.getD j 0)).set j (l.getD i 0)
theorem swp_length (l : List Int) (i j : Nat) : (swp l i j).length = l.length := by simp [swp]
theorem getD_set (l : List Int) (i j : Nat) (x : Int) (hi : i < l.length) : (l.set i x).getD j 0 = if i = j then x else l.getD j 0 := by
  simp only [List.getD, List.getElem?_set]
  split
  · rename_i h
    subst h
    simp
  · rfl
theorem swp_at (l : List Int) {i j : Nat} (hi : i < l.length) (hj : j < l.length) (k : Nat) : (swp l i j).getD k 0 = if k = j then l.getD i 0 else if k = i then l.getD j 0 else l.getD k 0 := by
  unfold swp
  rw [getD_set _ _ _ _ (by simpa using hj), getD_set _ _ _ _ hi]
  by_cases h1 : k = j
  · rw [if_pos h1.symm, if_pos h1]
  · rw [if_neg (fun h => h1 h.symm), if_neg h1]
    by_cases h2 : k = i
    · rw [if_pos h2.symm, if_pos h2]
    · rw [if_neg (fun h => h2 h.symm), if_neg h2]
theorem swp_perm (l : List Int) {i j : Nat} (hi : i < l.length) (hj : j < l.length) : (swp l i j).Perm l := by
  have e1 : l.getD j 0 = l[j] := by simp [List.getD, hj]
  have e2 : l.getD i 0 = l[i] := by simp [List.getD, hi]
  unfold swp
  rw [e1, e2]
  exact List.set_set_perm hi hj
end Go.Proofs.Ytpomklkfedpkfaa
namespace Go.Proofs.Ytpomklkfedpkfaa
set_option linter.unusedVariables false
namespace Srt
inductive Pr (a b : Nat) : List Int → List Int → Prop
  | refl (l : List Int) : Pr a b l l
  | step {l m : List Int} {i j : Nat} (h : Pr a b l m) (hi : a ≤ i ∧ i < b) (hj : a ≤ j ∧ j < b) (hb : b ≤ m.length) : Pr a b l (swp m i j)
variable {a b : Nat} {l m k : List Int}
theorem Pr.len (h : Pr a b l m) : m.length = l.length := by
  induction h with
  | refl => rfl
  | step h _ _ _ ih => rw [swp_length]; exact ih
theorem Pr.perm (h : Pr a b l m) : m.Perm l := by
  induction h with
  | refl => exact List.Perm.refl _
  | step h hi hj hb ih => exact (swp_perm _ (by omega) (by omega)).trans ih
theorem Pr.trans (h : Pr a b l m) (h' : Pr a b m k) : Pr a b l k := by
  induction h' with
  | refl => exact h
  | step _ hi hj hb ih => exact .step ih hi hj hb
theorem Pr.wide {a' b' : Nat} (h : Pr a b l m) (ha : a' ≤ a) (hb : b ≤ b') (hl : b' ≤ l.length) : Pr a' b' l m := by
  induction h with
  | refl => exact .refl _
  | step h hi hj hb2 ih => exact .step ih ⟨by omega, by omega⟩ ⟨by omega, by omega⟩ (by rw [ih.len]; exact hl)
theorem Pr.out (h : Pr a b l m) {i : Nat} (hi : i < a ∨ b ≤ i) : m.getD i 0 = l.getD i 0 := by
  induction h with
  | refl => rfl
  | step h h1 h2 hb ih => rw [swp_at _ (by omega) (by omega), if_neg (by omega), if_neg (by omega), ih]
theorem Pr.all (h : Pr a b l m) {p : Int → Prop} (hp : ∀ i, a ≤ i → i < b → p (l.getD i 0)) : ∀ i, a ≤ i → i < b → p (m.getD i 0) := by
  induction h with
  | refl => exact hp
  | step h h1 h2 hb ih =>
    intro i hi1 hi2
    rw [swp_at _ (by omega) (by omega)]
    split
    · exact ih _ h1.1 h1.2
    · split
      · exact ih _ h2.1 h2.2
      · exact ih _ hi1 hi2
def In (l : List Int) (a b : Nat) : Prop := ∀ p q, a ≤ p → p < q → q < b → l.getD p 0 ≤ l.getD q 0
theorem In.tiny {l : List Int} {a b : Nat} (h : b ≤ a + 1) : In l a b := fun p q h1 h2 h3 => by omega
def InBut (l : List Int) (a i j : Nat) : Prop := ∀ p q, a ≤ p → p < q → q ≤ i → q ≠ j → l.getD p 0 ≤ l.getD q 0
theorem InBut.start {l : List Int} {a i : Nat} (h : In l a i) : InBut l a i i := fun p q h1 h2 h3 h4 => h p q h1 h2 (by omega)
theorem InBut.step {l : List Int} {a i j : Nat} (h : InBut l a i (j + 1)) (hj : a ≤ j) (hji : j + 1 ≤ i) (hi : i < l.length) (hlt : l.getD (j + 1) 0 < l.getD j 0) : InBut (swp l (j + 1) j) a i j := by
  intro p q h1 h2 h3 h4
  have ep := swp_at l (i := j + 1) (j := j) (by omega) (by omega) p
  have eq := swp_at l (i := j + 1) (j := j) (by omega) (by omega) q
  rw [if_neg h4] at eq
  by_cases hq : q = j + 1
  · rw [if_pos hq] at eq
    by_cases hp : p = j
    · rw [if_pos hp] at ep
      rw [ep, eq]; omega
    · rw [if_neg hp, if_neg (by omega)] at ep
      rw [ep, eq]
      exact h p j h1 (by omega) (by omega) (by omega)
  · rw [if_neg hq] at eq
    by_cases hp : p = j
    · rw [if_pos hp] at ep
      rw [ep, eq]
      exact h (j + 1) q (by omega) (by omega) h3 (by omega)
    · rw [if_neg hp] at ep
      by_cases hp2 : p = j + 1
      · rw [if_pos hp2] at ep
        rw [ep, eq]
        exact h j q (by omega) (by omega) h3 (by omega)
      · rw [if_neg hp2] at ep
        rw [ep, eq]
        exact h p q h1 h2 h3 (by omega)
theorem InBut.stop {l : List Int} {a i j : Nat} (h : InBut l a i j) (hji : j ≤ i) (hs : j = a ∨ l.getD (j - 1) 0 ≤ l.getD j 0) : In l a (i + 1) := by
  intro p q h1 h2 h3
  by_cases hq : q = j
  · subst hq
    rcases hs with hs | hs
    · omega
    · by_cases hp : p = q - 1
      · rw [hp]; exact hs
      · exact Int.le_trans (h p (q - 1) h1 (by omega) (by omega) (by omega)) hs
  · exact h p q h1 h2 (by omega) hq
def Hpr (l : List Int) (f lo n : Nat) : Prop := ∀ k, 0 < k → k < n → lo ≤ (k - 1) / 2 → l.getD (f + k) 0 ≤ l.getD (f + (k - 1) / 2) 0
structure Sd (l : List Int) (f lo n i : Nat) : Prop where
  h1 : ∀ k, 0 < k → k < n → lo ≤ (k - 1) / 2 → (k - 1) / 2 ≠ i → l.getD (f + k) 0 ≤ l.getD (f + (k - 1) / 2) 0
  h2 : 0 < i → lo ≤ (i - 1) / 2 → ∀ k, 0 < k → k < n → (k - 1) / 2 = i → l.getD (f + k) 0 ≤ l.getD (f + (i - 1) / 2) 0
theorem Sd.start {l : List Int} {f i n : Nat} (h : Hpr l f (i + 1) n) : Sd l f i n i :=
  ⟨fun k h0 hk hlo hne => h k h0 hk (by omega), fun h0 hlo => absurd hlo (by omega)⟩
theorem Sd.step {l : List Int} {f lo n i j : Nat} (h : Sd l f lo n i) (hj : (j - 1) / 2 = i) (hj0 : 0 < j) (hjn : j < n) (hf : f + n ≤ l.length)
    (hm : ∀ k, 0 < k → k < n → (k - 1) / 2 = i → l.getD (f + k) 0 ≤ l.getD (f + j) 0) (hlt : l.getD (f + i) 0 < l.getD (f + j) 0) : Sd (swp l (f + i) (f + j)) f lo n j := by
  have hs : ∀ k, k < n → (swp l (f + i) (f + j)).getD (f + k) 0 = if k = j then l.getD (f + i) 0 else if k = i then l.getD (f + j) 0 else l.getD (f + k) 0 := fun k hk => by
    rw [swp_at l (by omega) (by omega)]
    by_cases h1 : k = j
    · rw [if_pos (by omega), if_pos h1]
    · rw [if_neg (by omega), if_neg h1]
      by_cases h2 : k = i
      · rw [if_pos (by omega), if_pos h2]
      · rw [if_neg (by omega), if_neg h2]
  refine ⟨fun k h0 hk hlo hne => ?_, fun h0 hlo k hk0 hk hki => ?_⟩
  · have e1 := hs k hk
    have e2 := hs ((k - 1) / 2) (by omega)
    rw [if_neg hne] at e2
    by_cases hp : (k - 1) / 2 = i
    · rw [if_pos hp] at e2
      rw [e2, e1]
      by_cases hkj : k = j
      · rw [if_pos hkj]; omega
      · rw [if_neg hkj, if_neg (by omega)]
        exact hm k h0 hk hp
    · rw [if_neg hp] at e2
      rw [e2, e1]
      rw [if_neg (by omega)]
      by_cases hki : k = i
      · rw [if_pos hki]
        subst hki
        exact h.h2 h0 hlo j hj0 hjn hj
      · rw [if_neg hki]
        exact h.h1 k h0 hk hlo hp
  · have e1 := hs k hk
    have e2 := hs ((j - 1) / 2) (by omega)
    rw [if_neg (by omega), if_neg (by omega)] at e1
    rw [if_neg (by omega), if_pos hj] at e2
    rw [e1, e2]
    have := h.h1 k hk0 hk (by omega) (by omega)
    rw [hki] at this
    exact this
theorem Sd.stop {l : List Int} {f lo n i : Nat} (h : Sd l f lo n i) (hs : ∀ k, 0 < k → k < n → (k - 1) / 2 = i → l.getD (f + k) 0 ≤ l.getD (f + i) 0) : Hpr l f lo n := by
  intro k h0 hk hlo
  by_cases hp : (k - 1) / 2 = i
  · have := hs k h0 hk hp
    rw [hp]; exact this
  · exact h.h1 k h0 hk hlo hp
theorem Hpr.root {l : List Int} {f n : Nat} (h : Hpr l f 0 n) : ∀ k, k < n → l.getD (f + k) 0 ≤ l.getD f 0 := by
  intro k
  induction k using Nat.strongRecOn with
  | ind k ih =>
    intro hk
    by_cases h0 : k = 0
    · rw [h0]; exact Int.le_refl _
    · have h1 := h k (by omega) hk (Nat.zero_le _)
      have h2 := ih ((k - 1) / 2) (by omega) (by omega)
      omega
structure Off (l : List Int) (f p n : Nat) : Prop where
  hp : Hpr l f 0 p
  so : ∀ x y, p ≤ x → x < y → y < n → l.getD (f + x) 0 ≤ l.getD (f + y) 0
  lo : ∀ x y, x < p → p ≤ y → y < n → l.getD (f + x) 0 ≤ l.getD (f + y) 0
theorem Off.all {l : List Int} {f n : Nat} (h : Off l f 0 n) : In l f (f + n) := by
  intro p q h1 h2 h3
  have := h.so (p - f) (q - f) (Nat.zero_le _) (by omega) (by omega)
  rwa [show f + (p - f) = p by omega, show f + (q - f) = q by omega] at this
theorem Off.swap {l : List Int} {f p n : Nat} (h : Off l f (p + 1) n) (hn : p < n) (hf : f + n ≤ l.length) : Sd (swp l f (f + p)) f 0 p 0 := by
  have hs : ∀ k, k < p → 0 < k → (swp l f (f + p)).getD (f + k) 0 = l.getD (f + k) 0 := fun k hk h0 => by
    rw [swp_at l (by omega) (by omega), if_neg (by omega), if_neg (by omega)]
  refine ⟨fun k h0 hk hlo hne => ?_, fun h0 => absurd h0 (by omega)⟩
  rw [hs k hk h0, hs ((k - 1) / 2) (by omega) (by omega)]
  exact h.hp k h0 (by omega) (Nat.zero_le _)
theorem Off.next {l m : List Int} {f p n : Nat} (h : Off l f (p + 1) n) (hn : p < n) (hf : f + n ≤ l.length) (hP : Pr f (f + p) (swp l f (f + p)) m) (hH : Hpr m f 0 p) : Off m f p n := by
  have hr := h.hp.root
  have hmax : m.getD (f + p) 0 = l.getD f 0 := by
    rw [hP.out (.inr (Nat.le_refl _)), swp_at l (by omega) (by omega), if_pos rfl]
  have hhi : ∀ k, p < k → m.getD (f + k) 0 = l.getD (f + k) 0 := fun k hk => by
    rw [hP.out (.inr (by omega)), swp_at l (by omega) (by omega), if_neg (by omega), if_neg (by omega)]
  have hlo : ∀ i, f ≤ i → i < f + p → ∃ k, k ≤ p ∧ m.getD i 0 = l.getD (f + k) 0 := by
    refine hP.all (p := fun z => ∃ k, k ≤ p ∧ z = l.getD (f + k) 0) fun i h1 h2 => ?_
    rw [swp_at l (by omega) (by omega), if_neg (by omega)]
    split
    · exact ⟨p, Nat.le_refl _, rfl⟩
    · exact ⟨i - f, by omega, by rw [show f + (i - f) = i by omega]⟩
  refine ⟨hH, fun x y h1 h2 h3 => ?_, fun x y h1 h2 h3 => ?_⟩
  · rw [hhi y (by omega)]
    by_cases hx : x = p
    · rw [hx, hmax]
      exact h.lo 0 y (by omega) (by omega) h3
    · rw [hhi x (by omega)]
      exact h.so x y (by omega) h2 h3
  · obtain ⟨k, hk, e⟩ := hlo (f + x) (by omega) (by omega)
    rw [e]
    by_cases hy : y = p
    · rw [hy, hmax]
      exact hr k (by omega)
    · rw [hhi y (by omega)]
      exact h.lo k y (by omega) (by omega) h3
structure Pt (P Q : Int → Int → Prop) (m : List Int) (a b i j : Nat) : Prop where
  ai : a < i
  ij : i ≤ j + 1
  jb : j < b
  le : ∀ k, a < k → k < i → P (m.getD k 0) (m.getD a 0)
  ri : ∀ k, j < k → k < b → Q (m.getD k 0) (m.getD a 0)
theorem Pt.swap {P Q : Int → Int → Prop} {m : List Int} {a b i j : Nat} (h : Pt P Q m a b i (j + 1)) (hij : i < j + 1) (hb : b ≤ m.length) (hp : P (m.getD (j + 1) 0) (m.getD a 0)) (hq : Q (m.getD i 0) (m.getD a 0)) : Pt P Q (swp m i (j + 1)) a b (i + 1) j := by
  have h1 := h.ai
  have h2 := h.jb
  have hs := fun k => swp_at m (i := i) (j := j + 1) (by omega) (by omega) k
  have ha : (swp m i (j + 1)).getD a 0 = m.getD a 0 := by rw [hs, if_neg (by omega), if_neg (by omega)]
  refine ⟨by omega, by omega, by omega, fun k k1 k2 => ?_, fun k k1 k2 => ?_⟩
  · rw [ha, hs, if_neg (by omega)]
    by_cases hk : k = i
    · rw [if_pos hk]; exact hp
    · rw [if_neg hk]; exact h.le k k1 (by omega)
  · rw [ha, hs]
    by_cases hk : k = j + 1
    · rw [if_pos hk]; exact hq
    · rw [if_neg hk, if_neg (by omega)]; exact h.ri k (by omega) k2
theorem Pt.done {m : List Int} {a b i j : Nat} (h : Pt (· < ·) (fun x y => y ≤ x) m a b i j) (hij : j < i) (hb : b ≤ m.length) :
    (∀ k, a ≤ k → k < j → (swp m j a).getD k 0 < (swp m j a).getD j 0) ∧ ∀ k, j < k → k < b → (swp m j a).getD j 0 ≤ (swp m j a).getD k 0 := by
  have h1 := h.ai
  have h2 := h.jb
  have h3 := h.ij
  have hs := fun k => swp_at m (i := j) (j := a) (by omega) (by omega) k
  have hj : (swp m j a).getD j 0 = m.getD a 0 := by
    rw [hs]
    by_cases e : j = a
    · rw [if_pos e, e]
    · rw [if_neg e, if_pos rfl]
  refine ⟨fun k k1 k2 => ?_, fun k k1 k2 => ?_⟩
  · rw [hj, hs]
    by_cases e : k = a
    · rw [if_pos e]
      exact h.le j (by omega) hij
    · rw [if_neg e, if_neg (by omega)]
      exact h.le k (by omega) (by omega)
  · rw [hj, hs, if_neg (by omega), if_neg (by omega)]
    exact h.ri k k1 k2
theorem In.same {l m : List Int} {a i : Nat} (h : In l a i) (hs : ∀ k, k < i → m.getD k 0 = l.getD k 0) : In m a i := fun p q h1 h2 h3 => by
  rw [hs p (by omega), hs q h3]
  exact h p q h1 h2 h3
theorem In.but {l : List Int} {a i : Nat} (h : In l a (i + 1)) (hi : i + 1 < l.length) : InBut (swp l (i + 1) i) a i i := fun p q h1 h2 h3 h4 => by
  rw [swp_at l (by omega) (by omega), swp_at l (by omega) (by omega), if_neg (by omega), if_neg (by omega), if_neg (by omega), if_neg (by omega)]
  exact h p q h1 h2 (by omega)
def Lo (l : List Int) (a b : Nat) : Prop := 0 < a → ∀ k, a ≤ k → k < b → l.getD (a - 1) 0 ≤ l.getD k 0
theorem Lo.keep {l m : List Int} {a b : Nat} (h : Lo l a b) (hp : Pr a b l m) : Lo m a b := fun h0 => by
  rw [hp.out (.inl (by omega))]
  exact hp.all (p := fun z => l.getD (a - 1) 0 ≤ z) (h h0)
theorem In.join {m : List Int} {a q b : Nat} (h1 : In m a q) (h2 : In m (q + 1) b) (hl : ∀ k, a ≤ k → k < q → m.getD k 0 ≤ m.getD q 0) (hr : ∀ k, q < k → k < b → m.getD q 0 ≤ m.getD k 0) : In m a b := by
  intro x y k1 k2 k3
  rcases Nat.lt_trichotomy y q with h | h | h
  · exact h1 x y k1 k2 h
  · subst h; exact hl x k1 k2
  · rcases Nat.lt_trichotomy x q with h' | h' | h'
    · exact Int.le_trans (hl x k1 h') (hr y h k3)
    · subst h'; exact hr y h k3
    · exact h2 x y (by omega) k2 k3
theorem rest_right {m1 m2 : List Int} {a q b : Nat} (haq : a ≤ q) (hl : ∀ k, a ≤ k → k < q → m1.getD k 0 < m1.getD q 0) (hr : ∀ k, q < k → k < b → m1.getD q 0 ≤ m1.getD k 0) (hP : Pr a q m1 m2) (hI : In m2 a q) :
    Lo m2 (q + 1) b ∧ ∀ m3, Pr (q + 1) b m2 m3 → In m3 (q + 1) b → In m3 a b := by
  have e0 : m2.getD q 0 = m1.getD q 0 := hP.out (.inr (Nat.le_refl _))
  have hl2 := hP.all (p := fun z => z < m1.getD q 0) hl
  have hr2 : ∀ k, q < k → k < b → m2.getD q 0 ≤ m2.getD k 0 := fun k k1 k2 => by rw [e0, hP.out (.inr (by omega))]; exact hr k k1 k2
  refine ⟨fun _ k k1 k2 => by rw [Nat.add_sub_cancel]; exact hr2 k (by omega) k2, fun m3 hP3 hI3 => ?_⟩
  have hs : ∀ k, k < q + 1 → m3.getD k 0 = m2.getD k 0 := fun k hk => hP3.out (.inl hk)
  refine In.join (hI.same fun k hk => hs k (by omega)) hI3 (fun k k1 k2 => ?_) (fun k k1 k2 => ?_)
  · rw [hs k (by omega), hs q (by omega), e0]
    exact Int.le_of_lt (hl2 k k1 k2)
  · rw [hs q (by omega)]
    exact hP3.all (p := fun z => m2.getD q 0 ≤ z) (fun k k1 k2 => hr2 k (by omega) k2) k k1 k2
theorem rest_left {m1 m2 : List Int} {a q b : Nat} (haq : a ≤ q) (hl : ∀ k, a ≤ k → k < q → m1.getD k 0 < m1.getD q 0) (hr : ∀ k, q < k → k < b → m1.getD q 0 ≤ m1.getD k 0) (hLo : Lo m1 a b) (hqb : q < b) (hP : Pr (q + 1) b m1 m2) (hI : In m2 (q + 1) b) :
    Lo m2 a q ∧ ∀ m3, Pr a q m2 m3 → In m3 a q → In m3 a b := by
  have hs1 : ∀ k, k < q + 1 → m2.getD k 0 = m1.getD k 0 := fun k hk => hP.out (.inl hk)
  have hr2 := hP.all (p := fun z => m1.getD q 0 ≤ z) (fun k k1 k2 => hr k (by omega) k2)
  refine ⟨fun h0 k k1 k2 => by rw [hs1 _ (by omega), hs1 k (by omega)]; exact hLo h0 k k1 (by omega), fun m3 hP3 hI3 => ?_⟩
  have hs : ∀ k, q ≤ k → m3.getD k 0 = m2.getD k 0 := fun k hk => hP3.out (.inr hk)
  have hI4 : In m3 (q + 1) b := fun x y k1 k2 k3 => by rw [hs x (by omega), hs y (by omega)]; exact hI x y k1 k2 k3
  refine In.join hI3 hI4 (fun k k1 k2 => ?_) (fun k k1 k2 => ?_)
  · rw [hs q (Nat.le_refl _), hs1 q (by omega)]
    exact hP3.all (p := fun z => z ≤ m1.getD q 0) (fun k k1 k2 => by rw [hs1 k (by omega)]; exact Int.le_of_lt (hl k k1 k2)) k k1 k2
  · rw [hs q (Nat.le_refl _), hs k (by omega), hs1 q (by omega)]
    exact hr2 k (by omega) k2
theorem rest_eq {m1 : List Int} {a q b : Nat} {v : Int} (haq : a < q) (hl : ∀ k, a ≤ k → k < q → m1.getD k 0 ≤ v) (hr : ∀ k, q ≤ k → k < b → v < m1.getD k 0) (hv : ∀ k, a ≤ k → k < b → v ≤ m1.getD k 0) (hqb : q ≤ b) :
    Lo m1 q b ∧ ∀ m3, Pr q b m1 m3 → In m3 q b → In m3 a b := by
  refine ⟨fun _ k k1 k2 => ?_, fun m3 hP3 hI3 => ?_⟩
  · have h1 := hl (q - 1) (by omega) (by omega)
    have h2 := hr k k1 k2
    omega
  · have hs : ∀ k, k < q → m3.getD k 0 = m1.getD k 0 := fun k hk => hP3.out (.inl hk)
    have h2 := hP3.all (p := fun z => v < z) hr
    intro x y k1 k2 k3
    rcases Nat.lt_or_ge y q with h | h
    · rw [hs x (by omega), hs y h]
      have e1 := hl x k1 (by omega)
      have e2 := hv y (by omega) (by omega)
      omega
    · rcases Nat.lt_or_ge x q with h' | h'
      · rw [hs x h']
        have e1 := hl x k1 h'
        have e2 := h2 y h k3
        omega
      · exact hI3 x y h' k2 k3
end Srt
end Go.Proofs.Ytpomklkfedpkfaa
namespace Go.Proofs.Ytpomklkfedpkfaa
set_option linter.unusedVariables false
namespace Nrm
def Up (l : List Int) : Prop := l.Pairwise (fun a b => a < b)
theorem up_eq : ∀ {l m : List Int}, Up l → Up m → (∀ x, x ∈ l ↔ x ∈ m) → l = m
  | [], [], _, _, _ => rfl
  | [], b :: t, _, _, h => absurd ((h b).2 (by simp)) (by simp)
  | a :: s, [], _, _, h => absurd ((h a).1 (by simp)) (by simp)
  | a :: s, b :: t, hl, hm, h => by
    have hl' := List.pairwise_cons.1 hl
    have hm' := List.pairwise_cons.1 hm
    have hab : a = b := by
      rcases List.mem_cons.1 ((h a).1 (by simp)) with h1 | h1
      · exact h1
      · rcases List.mem_cons.1 ((h b).2 (by simp)) with h2 | h2
        · exact h2.symm
        · have k1 := hm'.1 a h1
          have k2 := hl'.1 b h2
          omega
    subst hab
    rw [up_eq hl'.2 hm'.2 (fun x => ?_)]
    constructor
    · intro hx
      rcases List.mem_cons.1 ((h x).1 (List.mem_cons_of_mem _ hx)) with k | k
      · subst k; have := hl'.1 x hx; omega
      · exact k
    · intro hx
      rcases List.mem_cons.1 ((h x).2 (List.mem_cons_of_mem _ hx)) with k | k
      · subst k; have := hm'.1 x hx; omega
      · exact k
def sel (n : Nat) (p : Int → Bool) : List Int := ((List.range n).map Int.ofNat).filter p
theorem up_sel (n : Nat) (p : Int → Bool) : Up (sel n p) := by
  unfold sel Up
  refine List.Pairwise.filter _ ?_
  rw [List.pairwise_map]
  refine List.Pairwise.imp ?_ List.pairwise_lt_range
  intro a b h
  exact Int.ofNat_lt.2 h
theorem mem_sel {n : Nat} {p : Int → Bool} {x : Int} : x ∈ sel n p ↔ (0 ≤ x ∧ x < (n : Int)) ∧ p x = true := by
  unfold sel
  rw [List.mem_filter, List.mem_map]
  constructor
  · rintro ⟨⟨k, hk, rfl⟩, h⟩
    have hk := List.mem_range.1 hk
    exact ⟨⟨Int.natCast_nonneg k, Int.ofNat_lt.2 hk⟩, h⟩
  · rintro ⟨⟨h0, h1⟩, h⟩
    exact ⟨⟨x.toNat, List.mem_range.2 (by omega), by show ((x.toNat : Nat) : Int) = x; omega⟩, h⟩
theorem eq_sel {l : List Int} {n : Nat} {p : Int → Bool} (h : Up l) (hm : ∀ x, x ∈ l ↔ (0 ≤ x ∧ x < (n : Int)) ∧ p x = true) : l = sel n p :=
  up_eq h (up_sel n p) fun x => (hm x).trans mem_sel.symm
theorem sel_congr {n : Nat} {p q : Int → Bool} (h : ∀ x, 0 ≤ x → x < (n : Int) → p x = q x) : sel n p = sel n q :=
  eq_sel (up_sel n p) fun x => by
    rw [mem_sel]
    constructor
    · rintro ⟨k, hp⟩; exact ⟨k, by rw [← h x k.1 k.2]; exact hp⟩
    · rintro ⟨k, hp⟩; exact ⟨k, by rw [h x k.1 k.2]; exact hp⟩
theorem sel_all (n : Nat) {p : Int → Bool} (h : ∀ x, 0 ≤ x → x < (n : Int) → p x = true) : (sel n p).length = n := by
  unfold sel
  rw [List.filter_eq_self.2]
  · simp
  · intro x hx
    obtain ⟨k, hk, rfl⟩ := List.mem_map.1 hx
    have hk := List.mem_range.1 hk
    exact h _ (Int.natCast_nonneg k) (Int.ofNat_lt.2 hk)
theorem sel_le (n : Nat) (p : Int → Bool) : (sel n p).length ≤ n := by
  unfold sel
  have := List.length_filter_le p ((List.range n).map Int.ofNat)
  simpa using this
theorem take_next {α : Type} (l : List α) (d : α) {p : Nat} (hp : p < l.length) : l.take (p + 1) = l.take p ++ [l.getD p d] := by
  rw [List.take_succ_eq_append_getElem hp, List.getD, List.getElem?_eq_getElem hp]
  rfl
structure Dd (l : List Int) (p : Nat) (y : List Int) : Prop where
  up : Up y
  mem : ∀ x, x ∈ y ↔ x ∈ l.take p
  top : ∀ x, x ∈ y → x ≤ l.getD (p - 1) 0
variable {l m y : List Int} {n p : Nat}
theorem Dd.one (h : 1 ≤ l.length) : Dd l 1 (l.take 1) := by
  have e : l.take 1 = [l.getD 0 0] := by rw [show (1 : Nat) = 0 + 1 from rfl, take_next l 0 (by omega)]; rfl
  refine ⟨by rw [e]; simp [Up], fun x => Iff.rfl, fun x hx => ?_⟩
  rw [e] at hx
  have : x = l.getD 0 0 := by simpa using hx
  rw [this]
  exact Int.le_refl _
theorem Dd.same (h : Dd l p y) (h1 : 1 ≤ p) (hp : p < l.length) (e : l.getD p 0 = l.getD (p - 1) 0) : Dd l (p + 1) y := by
  refine ⟨h.up, fun x => ?_, fun x hx => by rw [Nat.add_sub_cancel, e]; exact h.top x hx⟩
  rw [take_next l 0 hp, List.mem_append, ← h.mem x]
  constructor
  · exact .inl
  · rintro (k | k)
    · exact k
    · have k : x = l.getD p 0 := by simpa using k
      rw [h.mem, k, e]
      have hlt : p - 1 < (l.take p).length := by rw [List.length_take]; omega
      have : (l.take p)[p - 1]'hlt = l.getD (p - 1) 0 := by
        rw [List.getElem_take, List.getD, List.getElem?_eq_getElem (by omega)]; rfl
      rw [← this]
      exact List.getElem_mem _
theorem Dd.new (h : Dd l p y) (hp : p < l.length) (e : l.getD (p - 1) 0 < l.getD p 0) : Dd l (p + 1) (y ++ [l.getD p 0]) := by
  refine ⟨?_, fun x => ?_, fun x hx => ?_⟩
  · unfold Up
    rw [List.pairwise_append]
    refine ⟨h.up, by simp, fun a ha b hb => ?_⟩
    have hb : b = l.getD p 0 := by simpa using hb
    have := h.top a ha
    omega
  · rw [take_next l 0 hp, List.mem_append, List.mem_append, h.mem x]
  · rw [Nat.add_sub_cancel]
    rcases List.mem_append.1 hx with k | k
    · have := h.top x k; omega
    · have k : x = l.getD p 0 := by simpa using k
      omega
theorem Dd.mems (h : Dd l p y) (hp : l.length ≤ p) (x : Int) : x ∈ y ↔ x ∈ l := by rw [h.mem x, List.take_of_length_le hp]
structure Cmn (la lb a b out : List Int) : Prop where
  uo : Up out
  ua : Up a
  ub : Up b
  oa : ∀ x, x ∈ out → ∀ z, z ∈ a → x < z
  ob : ∀ x, x ∈ out → ∀ z, z ∈ b → x < z
  m : ∀ x, (x ∈ out ∨ x ∈ a ∧ x ∈ b) ↔ (x ∈ la ∧ x ∈ lb)
variable {la lb a b out : List Int} {u v : Int}
theorem Cmn.start (ha : Up la) (hb : Up lb) : Cmn la lb la lb [] := ⟨by simp [Up], ha, hb, by simp, by simp, by simp⟩
theorem Cmn.left (h : Cmn la lb (u :: a) (v :: b) out) (hlt : u < v) : Cmn la lb a (v :: b) out := by
  refine ⟨h.uo, (List.pairwise_cons.1 h.ua).2, h.ub, fun x hx z hz => h.oa x hx z (List.mem_cons_of_mem _ hz), h.ob, fun x => ?_⟩
  rw [← h.m x]
  constructor
  · rintro (k | ⟨k1, k2⟩)
    · exact .inl k
    · exact .inr ⟨List.mem_cons_of_mem _ k1, k2⟩
  · rintro (k | ⟨k1, k2⟩)
    · exact .inl k
    · rcases List.mem_cons.1 k1 with k1 | k1
      · subst k1
        rcases List.mem_cons.1 k2 with k2 | k2
        · omega
        · have := (List.pairwise_cons.1 h.ub).1 x k2; omega
      · exact .inr ⟨k1, k2⟩
theorem Cmn.turn (h : Cmn la lb a b out) : Cmn lb la b a out := by
  refine ⟨h.uo, h.ub, h.ua, h.ob, h.oa, fun x => ?_⟩
  rw [And.comm (a := x ∈ b), And.comm (a := x ∈ lb)]
  exact h.m x
theorem Cmn.right (h : Cmn la lb (u :: a) (v :: b) out) (hlt : v < u) : Cmn la lb (u :: a) b out := (Cmn.left h.turn hlt).turn
theorem Cmn.both (h : Cmn la lb (u :: a) (u :: b) out) : Cmn la lb a b (out ++ [u]) := by
  have pa := List.pairwise_cons.1 h.ua
  have pb := List.pairwise_cons.1 h.ub
  refine ⟨?_, pa.2, pb.2, ?_, ?_, fun x => ?_⟩
  · unfold Up
    rw [List.pairwise_append]
    refine ⟨h.uo, by simp, fun x hx z hz => ?_⟩
    have hz : z = u := by simpa using hz
    subst hz
    exact h.oa x hx z (by simp)
  · intro x hx z hz
    rcases List.mem_append.1 hx with k | k
    · exact h.oa x k z (List.mem_cons_of_mem _ hz)
    · have k : x = u := by simpa using k
      subst k; exact pa.1 z hz
  · intro x hx z hz
    rcases List.mem_append.1 hx with k | k
    · exact h.ob x k z (List.mem_cons_of_mem _ hz)
    · have k : x = u := by simpa using k
      subst k; exact pb.1 z hz
  · rw [← h.m x, List.mem_append]
    constructor
    · rintro ((k | k) | ⟨k1, k2⟩)
      · exact .inl k
      · have k : x = u := by simpa using k
        subst k; exact .inr ⟨by simp, by simp⟩
      · exact .inr ⟨List.mem_cons_of_mem _ k1, List.mem_cons_of_mem _ k2⟩
    · rintro (k | ⟨k1, k2⟩)
      · exact .inl (.inl k)
      · rcases List.mem_cons.1 k1 with k1 | k1
        · subst k1; exact .inl (.inr (by simp))
        · rcases List.mem_cons.1 k2 with k2 | k2
          · subst k2; exact .inl (.inr (by simp))
          · exact .inr ⟨k1, k2⟩
theorem Cmn.stop (h : Cmn la lb a b out) (hz : a = [] ∨ b = []) (x : Int) : x ∈ out ↔ (x ∈ la ∧ x ∈ lb) := by
  rw [← h.m x]
  constructor
  · exact .inl
  · rintro (k | ⟨k1, k2⟩)
    · exact k
    · rcases hz with rfl | rfl
      · exact absurd k1 (by simp)
      · exact absurd k2 (by simp)
abbrev Ks : Type := List (Int × List Int)
def kp (l : Ks) (d c : Int) : Bool := l.all fun f => !decide (f.1 = d) || f.2.contains c
theorem kp_iff {l : Ks} {d c : Int} : kp l d c = true ↔ ∀ f, f ∈ l → f.1 = d → c ∈ f.2 := by
  unfold kp
  rw [List.all_eq_true]
  constructor
  · intro h f hf e
    have := h f hf
    simpa [e] using this
  · intro h f hf
    by_cases e : f.1 = d
    · simp [e, h f hf e]
    · simp [e]
theorem kp_next (l : Ks) (f : Int × List Int) (d c : Int) : kp (l ++ [f]) d c = (kp l d c && (!decide (f.1 = d) || f.2.contains c)) := by
  unfold kp
  simp
def sm (l : Ks) (d : Int) : Bool := l.any fun f => decide (f.1 = d)
theorem sm_next (l : Ks) (f : Int × List Int) (d : Int) : sm (l ++ [f]) d = (sm l d || decide (f.1 = d)) := by
  unfold sm
  simp
theorem kp_none {l : Ks} {d : Int} (h : sm l d = false) (c : Int) : kp l d c = true := by
  rw [kp_iff]
  intro f hf e
  unfold sm at h
  rw [List.any_eq_false] at h
  exact absurd (h f hf) (by simp [e])
def nf (l : Ks) (d : Nat) (n : Nat) : Ks := if (sel n (kp l d)).length < n then [((d : Int), sel n (kp l d))] else []
def nrm (l : Ks) : Nat → List Nat → Ks
  | _, [] => []
  | d, n :: t => nf l d n ++ nrm l (d + 1) t
theorem nrm_snoc (l : Ks) : ∀ (ns : List Nat) (d n : Nat), nrm l d (ns ++ [n]) = nrm l d ns ++ nf l (d + ns.length) n
  | [], d, n => by simp [nrm]
  | k :: t, d, n => by
    show nf l d k ++ nrm l (d + 1) (t ++ [n]) = nf l d k ++ nrm l (d + 1) t ++ nf l (d + (t.length + 1)) n
    rw [nrm_snoc l t (d + 1) n, List.append_assoc, show d + 1 + t.length = d + (t.length + 1) by omega]
theorem nf_none {l : Ks} {d : Nat} (h : sm l d = false) (n : Nat) : nf l d n = [] := by
  unfold nf
  rw [if_neg]
  rw [sel_all n (fun x _ _ => kp_none h x)]
  omega
theorem nf_len (l : Ks) (d n : Nat) : (nf l d n).length ≤ 1 := by
  unfold nf
  split
  · exact Nat.le_refl _
  · exact Nat.zero_le _
theorem nrm_len (l : Ks) : ∀ (ns : List Nat) (d : Nat), (nrm l d ns).length ≤ ns.length
  | [], _ => Nat.le_refl _
  | n :: t, d => by
    show (nf l d n ++ nrm l (d + 1) t).length ≤ t.length + 1
    rw [List.length_append]
    have := nf_len l d n
    have := nrm_len l t (d + 1)
    omega
def pk (l : Ks) (cs : List Int) : Bool := l.all fun f => decide (0 ≤ f.1 ∧ f.1 < cs.length) && f.2.contains (cs.getD f.1.toNat 0)
theorem pk_iff {l : Ks} {cs : List Int} : pk l cs = true ↔ ∀ f, f ∈ l → (0 ≤ f.1 ∧ f.1 < cs.length) ∧ cs.getD f.1.toNat 0 ∈ f.2 := by
  unfold pk
  rw [List.all_eq_true]
  constructor
  · intro h f hf
    have := h f hf
    rw [Bool.and_eq_true, decide_eq_true_eq] at this
    exact ⟨this.1, by simpa using this.2⟩
  · intro h f hf
    have := h f hf
    rw [Bool.and_eq_true, decide_eq_true_eq]
    exact ⟨this.1, by simpa using this.2⟩
end Nrm
end Go.Proofs.Ytpomklkfedpkfaa
namespace Go.Proofs.Ytpomklkfedpkfaa
set_option maxRecDepth 100000
open Go.RowKit H
open Srt
set_option linter.unusedVariables false
theorem X.index1eI {P : Program} {w : World} {f : Fr} {x y : Operand} {d : Option Tmp} {t ty e : TypeId} {pos : String} {aft : Array Edge} {g : Option (Nat × Bool)} {A : Option Addr} {q c j : Nat} {k : IntKind} {m : Int} (hx : ev f x = .slice A q c) (hy : ev f y = .int k m) (hm : m = (j : Int)) (ht : P.underlying t = some (.slice e)) (hs : Siz P e 1) (hA : A ≠ none) (hj : j < q) : (execOp (ev f) ⟨d, .indexAddr t x y, ty, pos, aft, g⟩).run P w = .ok (.value (pA A j)) w :=
  X.index1n hx (by rw [hy, hm]) ht hs hA hj
theorem isnanI (x : Int) (w : World) : Calls Try.prog 141 #[.int .i64 x] w fun e w' => e = .returned (.bool false) ∧ w = w' := by
  refine enter Try.func141 rfl (by kernel_rfl) ?_
  refine J.seq ?_
  refine J.region ?_
  refine L.va rfl (X.assign (by conv => lhs; whnf)) ?_
  refine L.nil ?_
  refine J.seq ?_
  refine J.region ?_
  refine L.va rfl (X.move (by conv => lhs; whnf)) ?_
  refine L.va rfl (X.move (by conv => lhs; whnf)) ?_
  refine L.va rfl (X.neq rfl rfl) ?_
  refine L.va rfl (X.assign (by conv => lhs; whnf)) ?_
  refine L.nil ?_
  refine J.ret ?_
  refine fin1 ?_
  exact ⟨(show Ending.returned (.bool (!decide (x = x))) = _ from by simp), rfl⟩
theorem clessI (x y : Int) (w : World) : Calls Try.prog 128 #[.int .i64 x, .int .i64 y] w fun e w' => e = .returned (.bool (decide (x < y))) ∧ w = w' := by
  refine enter Try.func128 rfl (by kernel_rfl) ?_
  refine J.seq ?_
  refine J.region ?_
  refine L.va rfl (X.assign (by conv => lhs; whnf)) ?_
  refine L.nil ?_
  refine J.seq ?_
  refine J.region ?_
  refine L.va rfl (X.move (by conv => lhs; whnf)) ?_
  refine L.call rfl en_141 rfl (isnanI x w) ?_
  rintro e _ ⟨rfl, rfl⟩
  refine ⟨_, rfl, ?_⟩
  refine L.va rfl (X.move (by conv => lhs; whnf)) ?_
  refine L.caseBF (k := 7) rfl (by rfl) ?_
  refine L.no rfl ?_
  refine L.no rfl ?_
  refine L.no rfl ?_
  refine L.va rfl (X.pickF rfl (by conv => lhs; whnf)) ?_
  refine L.va rfl (X.move (by conv => lhs; whnf)) ?_
  refine L.va rfl (X.move (by conv => lhs; whnf)) ?_
  refine L.va rfl (X.move (by conv => lhs; whnf)) ?_
  refine L.va rfl (X.lss rfl rfl) ?_
  refine L.va rfl (X.pickF rfl (by conv => lhs; whnf)) ?_
  refine L.va rfl (X.assign (by conv => lhs; whnf)) ?_
  refine L.nil ?_
  refine J.ret ?_
  refine fin1 ?_
  exact ⟨rfl, rfl⟩
structure SwI (w w' : World) (A : Option Addr) (n c N a b : Nat) (l l' : List Int) : Prop where
  o : w'.ownsRow N 3 1 (.slice A n c) n (nums .i64 l')
  g : w.grownBy w' (Value.ownBlock (.slice A n c))
  p : Pr a b l l'
theorem isortI (A : Option Addr) (n c N a b : Nat) (l : List Int) (w : World) (ho : w.ownsRow N 3 1 (.slice A n c) n (nums .i64 l)) (hab : a ≤ b) (hb : b ≤ n) (hn : n ≤ 1000000) :
    Calls Try.prog 122 #[.slice A n c, .int .i64 (a : Int), .int .i64 (b : Int)] w fun e w' => e = .returned (.tuple #[]) ∧ ∃ l', SwI w w' A n c N a b l l' ∧ In l' a b := by
  have hl : l.length = n := by have := ho.1; simpa [nums] using this
  refine enter Try.func122 rfl (by kernel_rfl) ?_
  refine J.seq ?_
  refine J.region ?_
  refine L.va rfl (X.move (by conv => lhs; whnf)) ?_
  refine L.va rfl (X.add rfl rfl (by omega)) ?_
  refine L.va rfl (X.assign (by conv => lhs; whnf)) ?_
  refine L.nil ?_
  refine J.block ?_
  refine J.loop (X := Nat × List Int) [6, 7, 10, 11, 12, 13, 14, 15, 16, 17, 18, 19, 20, 21, 22, 23, 24, 25, 26, 27, 28, 29, 30, 31, 32, 33, 34, 35, 36, 37, 38, 39, 40, 41, 42, 43, 44, 45, 46, 47, 48] (fun (i, m) => [(6, .int .i64 (i : Int))]) (fun (i, m) w' => a + 1 ≤ i ∧ (i ≤ b ∨ i = a + 1) ∧ SwI w w' A n c N a b l m ∧ In m a i) (fun (i, _) => n + 1 - i) ((a + 1, l)) (At1 (by first | rfl | exact at_int rfl (by omega) | exact at_slice rfl (by omega) | exact at_int rfl (by simp))) ?_ ?_
  · exact ⟨Nat.le_refl _, .inr rfl, ⟨ho, grown_ext (Ext.refl _), .refl _⟩, In.tiny (Nat.le_refl _)⟩
  · rintro ⟨i, m⟩ g w2 ⟨h1, h2, M, hI⟩
    have hml : m.length = n := by rw [M.p.len, hl]
    refine J.seq ?_
    refine J.seq ?_
    refine J.region ?_
    refine L.va rfl (X.move (by conv => lhs; whnf)) ?_
    refine L.va rfl (X.move (by conv => lhs; whnf)) ?_
    refine L.va rfl (X.lss rfl rfl) ?_
    refine L.nil ?_
    refine J.dec rfl (fun hlt => ?_) (fun hlt => ?_)
    · refine J.skip ?_
      refine J.seq ?_
      refine J.block ?_
      refine J.seq ?_
      refine J.region ?_
      refine L.va rfl (X.move (by conv => lhs; whnf)) ?_
      refine L.va rfl (X.assign (by conv => lhs; whnf)) ?_
      refine L.nil ?_
      refine J.block ?_
      refine J.loop (X := Nat × List Int) [7, 16, 17, 18, 19, 20, 21, 22, 23, 24, 25, 26, 27, 28, 29, 30, 31, 32, 33, 34, 35, 36, 37, 38, 39, 40, 41, 42, 43, 44, 45, 46, 47, 48] (fun (j, m) => [(7, .int .i64 (j : Int))]) (fun (j, m) w' => a ≤ j ∧ j ≤ i ∧ SwI w w' A n c N a b l m ∧ InBut m a i j) (fun (j, _) => j) ((i, m)) (At1 (by first | rfl | exact at_int rfl (by omega) | exact at_slice rfl (by omega) | exact at_int rfl (by simp))) ?_ ?_
      · exact ⟨by omega, Nat.le_refl _, M, InBut.start hI⟩
      · rintro ⟨j, m⟩ g w3 ⟨h3, h4, M, hJ⟩
        have hml : m.length = n := by rw [M.p.len, hl]
        have hr := Reads.of_own M.o
        have hA := hr.some_ (by omega)
        refine J.seq ?_
        refine J.seq ?_
        refine J.quiet mixed (by kernel_rfl) ?_
        refine Qt.va rfl (fun w' hw => X.move (by conv => lhs; whnf)) ?_
        refine Qt.va rfl (fun w' hw => X.move (by conv => lhs; whnf)) ?_
        refine Qt.va rfl (fun w' hw => X.gtr rfl rfl) ?_
        refine Qt.va rfl (fun w' hw => X.move (by conv => lhs; whnf)) ?_
        refine Qt.caseDec (k := 19) rfl (fun hja => ?_) (fun hja => ?_)
        · refine Qt.va rfl (fun w' hw => X.move (by conv => lhs; whnf)) ?_
          refine Qt.va rfl (fun w' hw => X.move (by conv => lhs; whnf)) ?_
          refine Qt.va rfl (fun w' hw => (by first | exact X.index1n rfl rfl Try.underlying74 sz_3 (by first | exact Option.some_ne_none _ | exact hr.some_ (by omega) | exact hA) (by omega) | exact X.index1 rfl rfl Try.underlying74 sz_3 (by first | exact Option.some_ne_none _ | exact hr.some_ (by omega) | exact hA) (by omega))) ?_
          refine Qt.va rfl (fun w' hw => X.load rfl sc_3 (by first | exact Ld.num (hr.ext hw) (by omega) | exact hA)) ?_
          refine Qt.va rfl (fun w' hw => X.move (by conv => lhs; whnf)) ?_
          refine Qt.va rfl (fun w' hw => X.move (by conv => lhs; whnf)) ?_
          refine Qt.va rfl (fun w' hw => X.sub rfl rfl (by omega)) ?_
          refine Qt.va rfl (fun w' hw => X.index1eI (j := j - 1) rfl rfl (by omega) Try.underlying74 sz_3 hA (by omega)) ?_
          refine Qt.va rfl (fun w' hw => X.load rfl sc_3 (by first | exact Ld.num (hr.ext hw) (by omega) | exact hA)) ?_
          refine Qt.call rfl en_128 rfl (fun w' hw => calls_same hw (clessI (m.getD j 0) (m.getD (j - 1) 0) w')) ?_
          refine Qt.va rfl (fun w' hw => X.pickT rfl (by conv => lhs; whnf)) ?_
          refine Qt.nil (fun w4 hq => ?_)
          replace hr := hr.ext hq
          by_cases hd : m.getD j 0 < m.getD (j - 1) 0
          · obtain ⟨j', rfl⟩ : ∃ j', j = j' + 1 := ⟨j - 1, by omega⟩
            rw [Nat.add_sub_cancel] at hd
            rw [Nat.add_sub_cancel]
            have ho4 := M.o.ext hq
            rw [decide_eq_true hd]
            refine J.iteT rfl ?_
            refine J.skip ?_
            refine J.seq ?_
            refine J.block ?_
            refine J.draw (ℓ := 1000000) (S := (fun _ => True)) mixed (fun w5d hSE hS_h => ?_)
            have hS : ((fun _ => True)) w5d := trivial
            have hrw5 := (Reads.of_own ho4).ext hSE
            have hoX := ho4.ext hSE
            have hG : w4.grownBy w5d (Value.ownBlock (.slice A n c)) := grown_ext hSE
            refine D.va 0 rfl (by kernel_rfl) (fun _ _ _ h => h) rfl (fun w' hw => X.move (by conv => lhs; whnf)) hS ?_
            refine D.va 1 rfl (by kernel_rfl) (fun _ _ _ h => h) rfl (fun w' hw => X.move (by conv => lhs; whnf)) hS ?_
            refine D.va 2 rfl (by kernel_rfl) (fun _ _ _ h => h) rfl (fun w' hw => X.move (by conv => lhs; whnf)) hS ?_
            refine D.va 3 rfl (by kernel_rfl) (fun _ _ _ h => h) rfl (fun w' hw => X.move (by conv => lhs; whnf)) hS ?_
            refine D.va 4 rfl (by kernel_rfl) (fun _ _ _ h => h) rfl (fun w' hw => X.sub rfl rfl (by omega)) hS ?_
            refine D.va 5 rfl (by kernel_rfl) (fun _ _ _ h => h) rfl (fun w' hw => X.move (by conv => lhs; whnf)) hS ?_
            refine D.va 6 rfl (by kernel_rfl) (fun _ _ _ h => h) rfl (fun w' hw => X.move (by conv => lhs; whnf)) hS ?_
            refine D.va 7 rfl (by kernel_rfl) (fun _ _ _ h => h) rfl (fun w' hw => X.sub rfl rfl (by omega)) hS ?_
            refine D.va 8 rfl (by kernel_rfl) (fun _ _ _ h => h) rfl (fun w' hw => X.index1eI (j := j') rfl rfl (by omega) Try.underlying74 sz_3 hA (by omega)) hS ?_
            refine D.va 10 rfl (by kernel_rfl) (fun _ _ _ h => h) rfl (fun w' hw => X.move (by conv => lhs; whnf)) hS ?_
            refine D.va 11 rfl (by kernel_rfl) (fun _ _ _ h => h) rfl (fun w' hw => X.move (by conv => lhs; whnf)) hS ?_
            refine D.va 12 rfl (by kernel_rfl) (fun _ _ _ h => h) rfl (fun w' hw => (by first | exact X.index1n rfl rfl Try.underlying74 sz_3 (by first | exact Option.some_ne_none _ | exact hA) (by omega) | exact X.index1 rfl rfl Try.underlying74 sz_3 (by first | exact Option.some_ne_none _ | exact hA) (by omega))) hS ?_
            refine D.two 9 13 (by kernel_rfl) rfl rfl ?_ ?_
            · refine L.va rfl (X.load rfl sc_3 (Ld.num hrw5 (j := j') (by omega))) ?_
              refine L.nil ?_
              refine ⟨fun _ => hS, ?_⟩
              refine D.one 13 (by kernel_rfl) rfl ?_
              refine L.va rfl (X.load rfl sc_3 (Ld.num hrw5 (j := j' + 1) (by omega))) ?_
              refine L.nil ?_
              refine ⟨fun _ => hS, ?_⟩
              refine D.va 14 rfl (by kernel_rfl) (fun _ _ _ h => h) rfl (fun w' hw => (by first | exact X.index1n rfl rfl Try.underlying74 sz_3 (by first | exact Option.some_ne_none _ | exact hA) (by omega) | exact X.index1 rfl rfl Try.underlying74 sz_3 (by first | exact Option.some_ne_none _ | exact hA) (by omega))) hS ?_
              refine D.one 15 (by kernel_rfl) rfl ?_
              refine L.storeON rfl rfl (by conv => lhs; whnf) sz_3 (hoX) (by omega) ?_
              intro w5 hoX hg2 hb2 hs2
              have hS1 := trivial
              refine L.nil ?_
              refine ⟨fun _ => hS1, ?_⟩
              replace hG := grb_trans hG hg2
              refine D.va 16 rfl (by kernel_rfl) (fun _ _ _ h => h) rfl (fun w' hw => X.index1eI (j := j') rfl rfl (by omega) Try.underlying74 sz_3 hA (by omega)) hS1 ?_
              refine D.one 17 (by kernel_rfl) rfl ?_
              refine L.storeON rfl rfl (by conv => lhs; whnf) sz_3 (hoX) (by omega) ?_
              intro w5 hoX hg2 hb2 hs2
              have hS2 := trivial
              refine L.nil ?_
              refine ⟨fun _ => hS2, ?_⟩
              replace hG := grb_trans hG hg2
              refine D.done (by kernel_rfl) ?_
              refine J.region ?_
              refine L.va rfl (X.move (by conv => lhs; whnf)) ?_
              refine L.va rfl (X.sub rfl rfl (by omega)) ?_
              refine L.va rfl (X.assign (by conv => lhs; whnf)) ?_
              refine L.nil ?_
              refine ⟨(j', swp m (j' + 1) j'), At1 (by first | rfl | exact at_int rfl (by omega) | exact at_slice rfl (by omega) | exact at_int rfl (by simp)), (by (iterate 35 refine Agr.lk rfl ?_); exact Agr.lk rfl (Agr.hav rfl Agr.rfl')), ?_⟩
              exact ⟨⟨by omega, by omega, ⟨hoX, grb_trans M.g (grb_trans (grown_ext hq) hG), .step M.p ⟨by omega, by omega⟩ ⟨by omega, by omega⟩ (by omega)⟩, hJ.step (by omega) h4 (by omega) hd⟩, by show j' < j' + 1; omega⟩
            · refine L.va rfl (X.load rfl sc_3 (Ld.num hrw5 (j := j' + 1) (by omega))) ?_
              refine L.nil ?_
              refine ⟨fun _ => hS, ?_⟩
              refine D.one 9 (by kernel_rfl) rfl ?_
              refine L.va rfl (X.load rfl sc_3 (Ld.num hrw5 (j := j') (by omega))) ?_
              refine L.nil ?_
              refine ⟨fun _ => hS, ?_⟩
              refine D.va 14 rfl (by kernel_rfl) (fun _ _ _ h => h) rfl (fun w' hw => (by first | exact X.index1n rfl rfl Try.underlying74 sz_3 (by first | exact Option.some_ne_none _ | exact hA) (by omega) | exact X.index1 rfl rfl Try.underlying74 sz_3 (by first | exact Option.some_ne_none _ | exact hA) (by omega))) hS ?_
              refine D.one 15 (by kernel_rfl) rfl ?_
              refine L.storeON rfl rfl (by conv => lhs; whnf) sz_3 (hoX) (by omega) ?_
              intro w5 hoX hg2 hb2 hs2
              have hS1 := trivial
              refine L.nil ?_
              refine ⟨fun _ => hS1, ?_⟩
              replace hG := grb_trans hG hg2
              refine D.va 16 rfl (by kernel_rfl) (fun _ _ _ h => h) rfl (fun w' hw => X.index1eI (j := j') rfl rfl (by omega) Try.underlying74 sz_3 hA (by omega)) hS1 ?_
              refine D.one 17 (by kernel_rfl) rfl ?_
              refine L.storeON rfl rfl (by conv => lhs; whnf) sz_3 (hoX) (by omega) ?_
              intro w5 hoX hg2 hb2 hs2
              have hS2 := trivial
              refine L.nil ?_
              refine ⟨fun _ => hS2, ?_⟩
              replace hG := grb_trans hG hg2
              refine D.done (by kernel_rfl) ?_
              refine J.region ?_
              refine L.va rfl (X.move (by conv => lhs; whnf)) ?_
              refine L.va rfl (X.sub rfl rfl (by omega)) ?_
              refine L.va rfl (X.assign (by conv => lhs; whnf)) ?_
              refine L.nil ?_
              refine ⟨(j', swp m (j' + 1) j'), At1 (by first | rfl | exact at_int rfl (by omega) | exact at_slice rfl (by omega) | exact at_int rfl (by simp)), (by (iterate 35 refine Agr.lk rfl ?_); exact Agr.lk rfl (Agr.hav rfl Agr.rfl')), ?_⟩
              exact ⟨⟨by omega, by omega, ⟨hoX, grb_trans M.g (grb_trans (grown_ext hq) hG), .step M.p ⟨by omega, by omega⟩ ⟨by omega, by omega⟩ (by omega)⟩, hJ.step (by omega) h4 (by omega) hd⟩, by show j' < j' + 1; omega⟩
          · rw [decide_eq_false hd]
            refine J.iteF rfl ?_
            refine J.exit ?_
            refine J.region ?_
            refine L.va rfl (X.move (by conv => lhs; whnf)) ?_
            refine L.va rfl (X.add rfl rfl (by omega)) ?_
            refine L.va rfl (X.assign (by conv => lhs; whnf)) ?_
            refine L.nil ?_
            refine ⟨(i + 1, m), At1 (by first | rfl | exact at_int rfl (by omega) | exact at_slice rfl (by omega) | exact at_int rfl (by simp)), (by (iterate 19 refine Agr.lk rfl ?_); refine Agr.lk rfl ?_; refine Agr.hav rfl ?_; (iterate 5 refine Agr.lk rfl ?_); exact Agr.lk rfl (Agr.hav rfl Agr.rfl')), ?_⟩
            exact ⟨⟨by omega, by omega, ⟨M.o.ext hq, grb_trans M.g (grown_ext hq), M.p⟩, hJ.stop h4 (.inr (by omega))⟩, by show n + 1 - (i + 1) < n + 1 - i; omega⟩
        · refine Qt.no rfl ?_
          refine Qt.no rfl ?_
          refine Qt.no rfl ?_
          refine Qt.no rfl ?_
          refine Qt.no rfl ?_
          refine Qt.no rfl ?_
          refine Qt.no rfl ?_
          refine Qt.no rfl ?_
          refine Qt.no rfl ?_
          refine Qt.no rfl ?_
          refine Qt.va rfl (fun w' hw => X.pickF rfl (by conv => lhs; whnf)) ?_
          refine Qt.nil (fun w4 hq => ?_)
          replace hr := hr.ext hq
          refine J.iteF rfl ?_
          refine J.exit ?_
          refine J.region ?_
          refine L.va rfl (X.move (by conv => lhs; whnf)) ?_
          refine L.va rfl (X.add rfl rfl (by omega)) ?_
          refine L.va rfl (X.assign (by conv => lhs; whnf)) ?_
          refine L.nil ?_
          refine ⟨(i + 1, m), At1 (by first | rfl | exact at_int rfl (by omega) | exact at_slice rfl (by omega) | exact at_int rfl (by simp)), (by (iterate 19 refine Agr.lk rfl ?_); refine Agr.lk rfl ?_; refine Agr.hav rfl ?_; (iterate 5 refine Agr.lk rfl ?_); exact Agr.lk rfl (Agr.hav rfl Agr.rfl')), ?_⟩
          exact ⟨⟨by omega, by omega, ⟨M.o.ext hq, grb_trans M.g (grown_ext hq), M.p⟩, hJ.stop h4 (.inl (by omega))⟩, by show n + 1 - (i + 1) < n + 1 - i; omega⟩
    · refine J.exit ?_
      refine thn_exit <| thn_exit <| inB_eq ?_
      refine fin0 (.inr rfl) ?_
      refine ⟨rfl, m, M, ?_⟩
      intro p q k1 k2 k3
      exact hI p q k1 k2 (by omega)
end Go.Proofs.Ytpomklkfedpkfaa
namespace Go.Proofs.Ytpomklkfedpkfaa
set_option maxRecDepth 100000
open Go.RowKit H
open Srt
set_option linter.unusedVariables false
theorem sdownI (A : Option Addr) (n c N lo hi f : Nat) (l : List Int) (w : World) (ho : w.ownsRow N 3 1 (.slice A n c) n (nums .i64 l)) (hf : f + hi ≤ n) (hn : n ≤ 1000000) (hlo : lo ≤ hi) (hS : Sd l f lo hi lo) :
    Calls Try.prog 136 #[.slice A n c, .int .i64 (lo : Int), .int .i64 (hi : Int), .int .i64 (f : Int)] w fun e w' => e = .returned (.tuple #[]) ∧ ∃ l', SwI w w' A n c N f (f + hi) l l' ∧ Hpr l' f lo hi := by
  have hl : l.length = n := by have := ho.1; simpa [nums] using this
  refine enter Try.func136 rfl (by kernel_rfl) ?_
  refine J.seq ?_
  refine J.region ?_
  refine L.va rfl (X.move (by conv => lhs; whnf)) ?_
  refine L.va rfl (X.assign (by conv => lhs; whnf)) ?_
  refine L.nil ?_
  refine J.block ?_
  refine J.loop (X := Nat × List Int) [8, 9, 11, 12, 13, 14, 15, 16, 17, 18, 19, 20, 21, 22, 23, 24, 25, 26, 27, 28, 29, 30, 31, 32, 33, 34, 35, 36, 37, 38, 39, 40, 41, 42, 43, 44, 45, 46, 47, 48, 49, 50, 51, 52, 53, 54, 55, 56, 57, 58, 59, 60, 61, 62, 63, 64, 65, 66, 67, 68, 69, 70, 71, 72, 73, 74, 75] (fun (r, m) => [(8, .int .i64 (r : Int))]) (fun (r, m) w' => r ≤ hi ∧ SwI w w' A n c N f (f + hi) l m ∧ Sd m f lo hi r) (fun (r, _) => hi - r) ((lo, l)) (At1 (by first | rfl | exact at_int rfl (by omega) | exact at_slice rfl (by omega) | exact at_int rfl (by simp))) ?_ ?_
  · exact ⟨hlo, ⟨ho, grown_ext (Ext.refl _), .refl _⟩, hS⟩
  · rintro ⟨r, m⟩ g w2 ⟨h1, M, hSd⟩
    have hml : m.length = n := by rw [M.p.len, hl]
    refine J.block ?_
    refine J.seq ?_
    refine J.region ?_
    refine L.va rfl (X.move (by conv => lhs; whnf)) ?_
    refine L.va rfl (X.mul rfl rfl (by omega)) ?_
    refine L.va rfl (X.add rfl rfl (by omega)) ?_
    refine L.va rfl (X.assign (by conv => lhs; whnf)) ?_
    refine L.nil ?_
    refine J.seq ?_
    refine J.seq ?_
    refine J.region ?_
    refine L.va rfl (X.move (by conv => lhs; whnf)) ?_
    refine L.va rfl (X.move (by conv => lhs; whnf)) ?_
    refine L.va rfl (X.geq rfl rfl) ?_
    refine L.nil ?_
    refine J.dec rfl (fun hge => ?_) (fun hge => ?_)
    · refine J.exit ?_
      refine thn_exit <| inB_ne rfl <| thn_exit <| inB_eq ?_
      refine fin0 (.inr rfl) ?_
      exact ⟨rfl, m, M, hSd.stop fun k h0 hk hp => by omega⟩
    · have hc : 2 * r + 1 < hi := by omega
      have hr := Reads.of_own M.o
      have hA := hr.some_ (by omega)
      refine J.skip ?_
      refine J.cut (X := Nat) [9, 17, 18, 19, 20, 21, 22, 23, 24, 25, 26, 27, 28, 29, 30, 31, 32, 33, 34, 35, 36, 37, 38] (fun j => [(9, .int .i64 (j : Int))]) (fun j w' => Ext w2 w' ∧ (j - 1) / 2 = r ∧ 0 < j ∧ j < hi ∧ ∀ k, 0 < k → k < hi → (k - 1) / 2 = r → m.getD (f + k) 0 ≤ m.getD (f + j) 0) ?_ ?_
      · refine J.seq ?_
        refine J.quiet mixed (by kernel_rfl) ?_
        refine Qt.va rfl (fun w' hw => X.move (by conv => lhs; whnf)) ?_
        refine Qt.va rfl (fun w' hw => X.add rfl rfl (by omega)) ?_
        refine Qt.va rfl (fun w' hw => X.move (by conv => lhs; whnf)) ?_
        refine Qt.va rfl (fun w' hw => X.lss rfl rfl) ?_
        refine Qt.va rfl (fun w' hw => X.move (by conv => lhs; whnf)) ?_
        refine Qt.caseDec (k := 21) rfl (fun h2 => ?_) (fun h2 => ?_)
        · refine Qt.va rfl (fun w' hw => X.move (by conv => lhs; whnf)) ?_
          refine Qt.va rfl (fun w' hw => X.move (by conv => lhs; whnf)) ?_
          refine Qt.va rfl (fun w' hw => X.move (by conv => lhs; whnf)) ?_
          refine Qt.va rfl (fun w' hw => X.add rfl rfl (by omega)) ?_
          refine Qt.va rfl (fun w' hw => X.index1eI (j := f + (2 * r + 1)) rfl rfl (by omega) Try.underlying74 sz_3 hA (by omega)) ?_
          refine Qt.va rfl (fun w' hw => X.load rfl sc_3 (by first | exact Ld.num (hr.ext hw) (by omega) | exact hA)) ?_
          refine Qt.va rfl (fun w' hw => X.move (by conv => lhs; whnf)) ?_
          refine Qt.va rfl (fun w' hw => X.move (by conv => lhs; whnf)) ?_
          refine Qt.va rfl (fun w' hw => X.move (by conv => lhs; whnf)) ?_
          refine Qt.va rfl (fun w' hw => X.add rfl rfl (by omega)) ?_
          refine Qt.va rfl (fun w' hw => X.add rfl rfl (by omega)) ?_
          refine Qt.va rfl (fun w' hw => X.index1eI (j := f + (2 * r + 2)) rfl rfl (by omega) Try.underlying74 sz_3 hA (by omega)) ?_
          refine Qt.va rfl (fun w' hw => X.load rfl sc_3 (by first | exact Ld.num (hr.ext hw) (by omega) | exact hA)) ?_
          refine Qt.call rfl en_128 rfl (fun w' hw => calls_same hw (clessI (m.getD (f + (2 * r + 1)) 0) (m.getD (f + (2 * r + 2)) 0) w')) ?_
          refine Qt.va rfl (fun w' hw => X.pickT rfl (by conv => lhs; whnf)) ?_
          refine Qt.nil (fun w3 hq => ?_)
          replace hr := hr.ext hq
          by_cases hd : m.getD (f + (2 * r + 1)) 0 < m.getD (f + (2 * r + 2)) 0
          · rw [decide_eq_true hd]
            refine J.iteT rfl ?_
            refine J.region ?_
            refine L.va rfl (X.move (by conv => lhs; whnf)) ?_
            refine L.va rfl (X.add rfl rfl (by omega)) ?_
            refine L.va rfl (X.assign (by conv => lhs; whnf)) ?_
            refine L.nil ?_
            refine ⟨2 * r + 2, At1 (by first | rfl | exact at_int rfl (by omega) | exact at_slice rfl (by omega) | exact at_int rfl (by simp)), (by (iterate 24 refine Agr.lk rfl ?_); exact Agr.rfl'), ?_⟩
            refine ⟨hq, by omega, by omega, by omega, fun k h0 hk hp => ?_⟩
            rcases (by omega : k = 2 * r + 1 ∨ k = 2 * r + 2) with rfl | rfl
            · omega
            · exact Int.le_refl _
          · rw [decide_eq_false hd]
            refine J.iteF rfl ?_
            refine J.skip ?_
            refine ⟨2 * r + 1, At1 (by first | rfl | exact at_int rfl (by omega) | exact at_slice rfl (by omega) | exact at_int rfl (by simp)), (by (iterate 21 refine Agr.lk rfl ?_); exact Agr.rfl'), ?_⟩
            refine ⟨hq, by omega, by omega, by omega, fun k h0 hk hp => ?_⟩
            rcases (by omega : k = 2 * r + 1 ∨ k = 2 * r + 2) with rfl | rfl
            · exact Int.le_refl _
            · omega
        · refine Qt.no rfl ?_
          refine Qt.no rfl ?_
          refine Qt.no rfl ?_
          refine Qt.no rfl ?_
          refine Qt.no rfl ?_
          refine Qt.no rfl ?_
          refine Qt.no rfl ?_
          refine Qt.no rfl ?_
          refine Qt.no rfl ?_
          refine Qt.no rfl ?_
          refine Qt.no rfl ?_
          refine Qt.no rfl ?_
          refine Qt.no rfl ?_
          refine Qt.no rfl ?_
          refine Qt.va rfl (fun w' hw => X.pickF rfl (by conv => lhs; whnf)) ?_
          refine Qt.nil (fun w3 hq => ?_)
          replace hr := hr.ext hq
          refine J.iteF rfl ?_
          refine J.skip ?_
          refine ⟨2 * r + 1, At1 (by first | rfl | exact at_int rfl (by omega) | exact at_slice rfl (by omega) | exact at_int rfl (by simp)), (by (iterate 21 refine Agr.lk rfl ?_); exact Agr.rfl'), ?_⟩
          refine ⟨hq, by omega, by omega, by omega, fun k h0 hk hp => ?_⟩
          obtain rfl : k = 2 * r + 1 := by omega
          exact Int.le_refl _
      · rintro j g w3 ⟨he3, hj, hj0, hjn, hmx⟩
        have ho3 := M.o.ext he3
        have hr3 := Reads.of_own ho3
        refine J.seq ?_
        refine J.seq ?_
        refine J.quiet mixed (by kernel_rfl) ?_
        refine Qt.va rfl (fun w' hw => X.move (by conv => lhs; whnf)) ?_
        refine Qt.va rfl (fun w' hw => X.move (by conv => lhs; whnf)) ?_
        refine Qt.va rfl (fun w' hw => X.move (by conv => lhs; whnf)) ?_
        refine Qt.va rfl (fun w' hw => X.add rfl rfl (by omega)) ?_
        refine Qt.va rfl (fun w' hw => X.index1eI (j := f + r) rfl rfl (by omega) Try.underlying74 sz_3 hA (by omega)) ?_
        refine Qt.va rfl (fun w' hw => X.load rfl sc_3 (by first | exact Ld.num (hr3.ext hw) (by omega) | exact hA)) ?_
        refine Qt.va rfl (fun w' hw => X.move (by conv => lhs; whnf)) ?_
        refine Qt.va rfl (fun w' hw => X.move (by conv => lhs; whnf)) ?_
        refine Qt.va rfl (fun w' hw => X.move (by conv => lhs; whnf)) ?_
        refine Qt.va rfl (fun w' hw => X.add rfl rfl (by omega)) ?_
        refine Qt.va rfl (fun w' hw => X.index1eI (j := f + j) rfl rfl (by omega) Try.underlying74 sz_3 hA (by omega)) ?_
        refine Qt.va rfl (fun w' hw => X.load rfl sc_3 (by first | exact Ld.num (hr3.ext hw) (by omega) | exact hA)) ?_
        refine Qt.call rfl en_128 rfl (fun w' hw => calls_same hw (clessI (m.getD (f + r) 0) (m.getD (f + j) 0) w')) ?_
        refine Qt.va rfl (fun w' hw => X.not rfl) ?_
        refine Qt.nil (fun w4 hq => ?_)
        replace hr3 := hr3.ext hq
        by_cases hd : m.getD (f + r) 0 < m.getD (f + j) 0
        · rw [decide_eq_true hd]
          have ho4 := ho3.ext hq
          refine J.iteF rfl ?_
          refine J.skip ?_
          refine J.seq ?_
          refine J.draw (ℓ := 1000000) (S := (fun _ => True)) mixed (fun w5d hSE hS_h => ?_)
          have hS : ((fun _ => True)) w5d := trivial
          have hrw5 := (Reads.of_own ho4).ext hSE
          have hoX := ho4.ext hSE
          have hG : w4.grownBy w5d (Value.ownBlock (.slice A n c)) := grown_ext hSE
          refine D.va 0 rfl (by kernel_rfl) (fun _ _ _ h => h) rfl (fun w' hw => X.move (by conv => lhs; whnf)) hS ?_
          refine D.va 1 rfl (by kernel_rfl) (fun _ _ _ h => h) rfl (fun w' hw => X.move (by conv => lhs; whnf)) hS ?_
          refine D.va 2 rfl (by kernel_rfl) (fun _ _ _ h => h) rfl (fun w' hw => X.move (by conv => lhs; whnf)) hS ?_
          refine D.va 3 rfl (by kernel_rfl) (fun _ _ _ h => h) rfl (fun w' hw => X.add rfl rfl (by omega)) hS ?_
          refine D.va 4 rfl (by kernel_rfl) (fun _ _ _ h => h) rfl (fun w' hw => X.move (by conv => lhs; whnf)) hS ?_
          refine D.va 5 rfl (by kernel_rfl) (fun _ _ _ h => h) rfl (fun w' hw => X.move (by conv => lhs; whnf)) hS ?_
          refine D.va 6 rfl (by kernel_rfl) (fun _ _ _ h => h) rfl (fun w' hw => X.move (by conv => lhs; whnf)) hS ?_
          refine D.va 7 rfl (by kernel_rfl) (fun _ _ _ h => h) rfl (fun w' hw => X.add rfl rfl (by omega)) hS ?_
          refine D.va 8 rfl (by kernel_rfl) (fun _ _ _ h => h) rfl (fun w' hw => X.move (by conv => lhs; whnf)) hS ?_
          refine D.va 9 rfl (by kernel_rfl) (fun _ _ _ h => h) rfl (fun w' hw => X.move (by conv => lhs; whnf)) hS ?_
          refine D.va 10 rfl (by kernel_rfl) (fun _ _ _ h => h) rfl (fun w' hw => X.move (by conv => lhs; whnf)) hS ?_
          refine D.va 11 rfl (by kernel_rfl) (fun _ _ _ h => h) rfl (fun w' hw => X.add rfl rfl (by omega)) hS ?_
          refine D.va 12 rfl (by kernel_rfl) (fun _ _ _ h => h) rfl (fun w' hw => X.index1eI (j := f + j) rfl rfl (by omega) Try.underlying74 sz_3 hA (by omega)) hS ?_
          refine D.va 14 rfl (by kernel_rfl) (fun _ _ _ h => h) rfl (fun w' hw => X.move (by conv => lhs; whnf)) hS ?_
          refine D.va 15 rfl (by kernel_rfl) (fun _ _ _ h => h) rfl (fun w' hw => X.move (by conv => lhs; whnf)) hS ?_
          refine D.va 16 rfl (by kernel_rfl) (fun _ _ _ h => h) rfl (fun w' hw => X.move (by conv => lhs; whnf)) hS ?_
          refine D.va 17 rfl (by kernel_rfl) (fun _ _ _ h => h) rfl (fun w' hw => X.add rfl rfl (by omega)) hS ?_
          refine D.va 18 rfl (by kernel_rfl) (fun _ _ _ h => h) rfl (fun w' hw => X.index1eI (j := f + r) rfl rfl (by omega) Try.underlying74 sz_3 hA (by omega)) hS ?_
          refine D.two 13 19 (by kernel_rfl) rfl rfl ?_ ?_
          · refine L.va rfl (X.load rfl sc_3 (Ld.num hrw5 (j := f + j) (by omega))) ?_
            refine L.nil ?_
            refine ⟨fun _ => hS, ?_⟩
            refine D.one 19 (by kernel_rfl) rfl ?_
            refine L.va rfl (X.load rfl sc_3 (Ld.num hrw5 (j := f + r) (by omega))) ?_
            refine L.nil ?_
            refine ⟨fun _ => hS, ?_⟩
            refine D.va 20 rfl (by kernel_rfl) (fun _ _ _ h => h) rfl (fun w' hw => X.index1eI (j := f + r) rfl rfl (by omega) Try.underlying74 sz_3 hA (by omega)) hS ?_
            refine D.one 21 (by kernel_rfl) rfl ?_
            refine L.storeON rfl rfl (by conv => lhs; whnf) sz_3 (hoX) (by omega) ?_
            intro w5 hoX hg2 hb2 hs2
            have hS1 := trivial
            refine L.nil ?_
            refine ⟨fun _ => hS1, ?_⟩
            replace hG := grb_trans hG hg2
            refine D.va 22 rfl (by kernel_rfl) (fun _ _ _ h => h) rfl (fun w' hw => X.index1eI (j := f + j) rfl rfl (by omega) Try.underlying74 sz_3 hA (by omega)) hS1 ?_
            refine D.one 23 (by kernel_rfl) rfl ?_
            refine L.storeON rfl rfl (by conv => lhs; whnf) sz_3 (hoX) (by omega) ?_
            intro w5 hoX hg2 hb2 hs2
            have hS2 := trivial
            refine L.nil ?_
            refine ⟨fun _ => hS2, ?_⟩
            replace hG := grb_trans hG hg2
            refine D.done (by kernel_rfl) ?_
            refine J.region ?_
            refine L.va rfl (X.move (by conv => lhs; whnf)) ?_
            refine L.va rfl (X.assign (by conv => lhs; whnf)) ?_
            refine L.nil ?_
            refine ⟨(j, swp m (f + r) (f + j)), At1 (by first | rfl | exact at_int rfl (by omega) | exact at_slice rfl (by omega) | exact at_int rfl (by simp)), (by (iterate 38 refine Agr.lk rfl ?_); refine Agr.lk rfl ?_; refine Agr.hav rfl ?_; (iterate 7 refine Agr.lk rfl ?_); exact Agr.lk rfl (Agr.hav rfl Agr.rfl')), ?_⟩
            exact ⟨⟨by omega, ⟨hoX, grb_trans M.g (grb_trans (grown_ext (he3.trans hq)) hG), .step M.p ⟨by omega, by omega⟩ ⟨by omega, by omega⟩ (by omega)⟩, hSd.step hj hj0 hjn (by omega) hmx hd⟩, by show hi - j < hi - r; omega⟩
          · refine L.va rfl (X.load rfl sc_3 (Ld.num hrw5 (j := f + r) (by omega))) ?_
            refine L.nil ?_
            refine ⟨fun _ => hS, ?_⟩
            refine D.one 13 (by kernel_rfl) rfl ?_
            refine L.va rfl (X.load rfl sc_3 (Ld.num hrw5 (j := f + j) (by omega))) ?_
            refine L.nil ?_
            refine ⟨fun _ => hS, ?_⟩
            refine D.va 20 rfl (by kernel_rfl) (fun _ _ _ h => h) rfl (fun w' hw => X.index1eI (j := f + r) rfl rfl (by omega) Try.underlying74 sz_3 hA (by omega)) hS ?_
            refine D.one 21 (by kernel_rfl) rfl ?_
            refine L.storeON rfl rfl (by conv => lhs; whnf) sz_3 (hoX) (by omega) ?_
            intro w5 hoX hg2 hb2 hs2
            have hS1 := trivial
            refine L.nil ?_
            refine ⟨fun _ => hS1, ?_⟩
            replace hG := grb_trans hG hg2
            refine D.va 22 rfl (by kernel_rfl) (fun _ _ _ h => h) rfl (fun w' hw => X.index1eI (j := f + j) rfl rfl (by omega) Try.underlying74 sz_3 hA (by omega)) hS1 ?_
            refine D.one 23 (by kernel_rfl) rfl ?_
            refine L.storeON rfl rfl (by conv => lhs; whnf) sz_3 (hoX) (by omega) ?_
            intro w5 hoX hg2 hb2 hs2
            have hS2 := trivial
            refine L.nil ?_
            refine ⟨fun _ => hS2, ?_⟩
            replace hG := grb_trans hG hg2
            refine D.done (by kernel_rfl) ?_
            refine J.region ?_
            refine L.va rfl (X.move (by conv => lhs; whnf)) ?_
            refine L.va rfl (X.assign (by conv => lhs; whnf)) ?_
            refine L.nil ?_
            refine ⟨(j, swp m (f + r) (f + j)), At1 (by first | rfl | exact at_int rfl (by omega) | exact at_slice rfl (by omega) | exact at_int rfl (by simp)), (by (iterate 38 refine Agr.lk rfl ?_); refine Agr.lk rfl ?_; refine Agr.hav rfl ?_; (iterate 7 refine Agr.lk rfl ?_); exact Agr.lk rfl (Agr.hav rfl Agr.rfl')), ?_⟩
            exact ⟨⟨by omega, ⟨hoX, grb_trans M.g (grb_trans (grown_ext (he3.trans hq)) hG), .step M.p ⟨by omega, by omega⟩ ⟨by omega, by omega⟩ (by omega)⟩, hSd.step hj hj0 hjn (by omega) hmx hd⟩, by show hi - j < hi - r; omega⟩
        · rw [decide_eq_false hd]
          refine J.iteT rfl ?_
          refine J.ret ?_
          refine thn_ret <|  inB_ret <|  thn_ret <|  inB_ret <| ?_
          refine fin0 (.inl rfl) ?_
          exact ⟨rfl, m, ⟨ho3.ext hq, grb_trans M.g (grown_ext (he3.trans hq)), M.p⟩, hSd.stop fun k h0 hk hp => by have := hmx k h0 hk hp; omega⟩
theorem hsortI (A : Option Addr) (n c N a h : Nat) (l : List Int) (w : World) (ho : w.ownsRow N 3 1 (.slice A n c) n (nums .i64 l)) (hf : a + h ≤ n) (hn : n ≤ 1000000) (h0 : 0 < h) :
    Calls Try.prog 123 #[.slice A n c, .int .i64 (a : Int), .int .i64 ((a + h : Nat) : Int)] w fun e w' => e = .returned (.tuple #[]) ∧ ∃ l', SwI w w' A n c N a (a + h) l l' ∧ In l' a (a + h) := by
  have hl : l.length = n := by have := ho.1; simpa [nums] using this
  have eh : ((a + h : Nat) : Int) - (a : Int) = (h : Int) := by omega
  refine enter Try.func123 rfl (by kernel_rfl) ?_
  refine J.seq ?_
  refine J.region ?_
  refine L.va rfl (X.move (by conv => lhs; whnf)) ?_
  refine L.va rfl (X.assign (by conv => lhs; whnf)) ?_
  refine L.nil ?_
  refine J.seq ?_
  refine J.region ?_
  refine L.va rfl (X.assign (by conv => lhs; whnf)) ?_
  refine L.nil ?_
  refine J.seq ?_
  refine J.region ?_
  refine L.va rfl (X.move (by conv => lhs; whnf)) ?_
  refine L.va rfl (X.move (by conv => lhs; whnf)) ?_
  refine L.va rfl (X.sub rfl rfl (by omega)) ?_
  refine L.va rfl (X.assign (by conv => lhs; whnf)) ?_
  refine L.nil ?_
  rw [eh]
  refine J.seq ?_
  refine J.seq ?_
  refine J.region ?_
  refine L.va rfl (X.move (by conv => lhs; whnf)) ?_
  refine L.va rfl (X.sub rfl rfl (by omega)) ?_
  refine L.va rfl (X.quo rfl rfl (by omega)) ?_
  refine L.va rfl (X.assign (by conv => lhs; whnf)) ?_
  refine L.nil ?_
  refine J.block ?_
  refine J.loop (X := Int × List Int) [9, 18, 19, 20, 21, 22, 23, 24, 25, 26] (fun (i, m) => [(9, .int .i64 i)]) (fun (i, m) w' => -1 ≤ i ∧ 2 * i < h ∧ SwI w w' A n c N a (a + h) l m ∧ Hpr m a (i + 1).toNat h) (fun (i, _) => (i + 1).toNat) ((((h : Int) - 1) / 2, l)) (At1 (by first | rfl | exact at_int rfl (by omega) | exact at_slice rfl (by omega) | exact at_int rfl (by simp))) ?_ ?_
  · refine ⟨by omega, by omega, ⟨ho, grown_ext (Ext.refl _), .refl _⟩, fun k k0 hk hlo => by omega⟩
  · rintro ⟨i, m⟩ g w2 ⟨h1, h2, M, hH⟩
    have hml : m.length = n := by rw [M.p.len, hl]
    refine J.seq ?_
    refine J.seq ?_
    refine J.region ?_
    refine L.va rfl (X.move (by conv => lhs; whnf)) ?_
    refine L.va rfl (X.geq rfl rfl) ?_
    refine L.nil ?_
    refine J.dec rfl (fun hge => ?_) (fun hge => ?_)
    · obtain ⟨p, rfl⟩ := Int.eq_ofNat_of_zero_le hge
      rw [show ((p : Int) + 1).toNat = p + 1 by omega] at hH
      have c1 := sdownI A n c N p h a m w2 M.o hf hn (by omega) (Sd.start hH)
      refine J.skip ?_
      refine J.seq ?_
      refine J.block ?_
      refine J.region ?_
      refine L.va rfl (X.move (by conv => lhs; whnf)) ?_
      refine L.va rfl (X.move (by conv => lhs; whnf)) ?_
      refine L.va rfl (X.move (by conv => lhs; whnf)) ?_
      refine L.va rfl (X.move (by conv => lhs; whnf)) ?_
      refine L.call rfl en_136 rfl (c1) ?_
      rintro e w3 ⟨rfl, m', M', hH'⟩
      refine ⟨_, rfl, ?_⟩
      refine L.nil ?_
      refine J.region ?_
      refine L.va rfl (X.move (by conv => lhs; whnf)) ?_
      refine L.va rfl (X.sub rfl rfl (by omega)) ?_
      refine L.va rfl (X.assign (by conv => lhs; whnf)) ?_
      refine L.nil ?_
      refine ⟨((p : Int) - 1, m'), At1 (by first | rfl | exact at_int rfl (by omega) | exact at_slice rfl (by omega) | exact at_int rfl (by simp)), (by (iterate 10 refine Agr.lk rfl ?_); exact Agr.lk rfl (Agr.hav rfl Agr.rfl')), ?_⟩
      refine ⟨⟨by omega, by omega, ⟨M'.o, grb_trans M.g M'.g, M.p.trans M'.p⟩, ?_⟩, by show ((p : Int) - 1 + 1).toNat < ((p : Int) + 1).toNat; omega⟩
      rw [show ((p : Int) - 1 + 1).toNat = p by omega]
      exact hH'
    · obtain rfl : i = -1 := by omega
      have hH0 : Hpr m a 0 h := hH
      refine J.exit ?_
      refine J.seq ?_
      refine J.region ?_
      refine L.va rfl (X.move (by conv => lhs; whnf)) ?_
      refine L.va rfl (X.sub rfl rfl (by omega)) ?_
      refine L.va rfl (X.assign (by conv => lhs; whnf)) ?_
      refine L.nil ?_
      refine J.block ?_
      refine J.loop (X := Nat × List Int) [10, 29, 30, 31, 32, 33, 34, 35, 36, 37, 38, 39, 40, 41, 42, 43, 44, 45, 46, 47, 48, 49, 50, 51, 52, 53, 54, 55] (fun (p, m) => [(10, .int .i64 ((p : Int) - 1))]) (fun (p, m) w' => p ≤ h ∧ SwI w w' A n c N a (a + h) l m ∧ Off m a p h) (fun (p, _) => p) ((h, m)) (At1 (by first | rfl | exact at_int rfl (by omega) | exact at_slice rfl (by omega) | exact at_int rfl (by simp))) ?_ ?_
      · exact ⟨Nat.le_refl _, M, ⟨hH0, (fun x y x1 x2 x3 => by omega), (fun x y x1 x2 x3 => by omega)⟩⟩
      · rintro ⟨p, m⟩ g w3 ⟨hp, M, hO⟩
        have hml : m.length = n := by rw [M.p.len, hl]
        refine J.seq ?_
        refine J.seq ?_
        refine J.region ?_
        refine L.va rfl (X.move (by conv => lhs; whnf)) ?_
        refine L.va rfl (X.geq rfl rfl) ?_
        refine L.nil ?_
        refine J.dec rfl (fun hge => ?_) (fun hge => ?_)
        · obtain ⟨p, rfl⟩ : ∃ p', p = p' + 1 := ⟨p - 1, by omega⟩
          have hA := (Reads.of_own M.o).some_ (by omega)
          have ep : ((p + 1 : Nat) : Int) - 1 = (p : Int) := by omega
          have ho4 := M.o
          refine J.skip ?_
          refine J.seq ?_
          refine J.block ?_
          refine J.seq ?_
          refine J.draw (ℓ := 1000000) (S := (fun _ => True)) mixed (fun w5d hSE hS_h => ?_)
          have hS : ((fun _ => True)) w5d := trivial
          have hrw5 := (Reads.of_own ho4).ext hSE
          have hoX := ho4.ext hSE
          have hG : w3.grownBy w5d (Value.ownBlock (.slice A n c)) := grown_ext hSE
          refine D.va 0 rfl (by kernel_rfl) (fun _ _ _ h => h) rfl (fun w' hw => X.move (by conv => lhs; whnf)) hS ?_
          refine D.va 1 rfl (by kernel_rfl) (fun _ _ _ h => h) rfl (fun w' hw => X.move (by conv => lhs; whnf)) hS ?_
          refine D.va 2 rfl (by kernel_rfl) (fun _ _ _ h => h) rfl (fun w' hw => X.move (by conv => lhs; whnf)) hS ?_
          refine D.va 3 rfl (by kernel_rfl) (fun _ _ _ h => h) rfl (fun w' hw => X.move (by conv => lhs; whnf)) hS ?_
          refine D.va 4 rfl (by kernel_rfl) (fun _ _ _ h => h) rfl (fun w' hw => X.move (by conv => lhs; whnf)) hS ?_
          refine D.va 5 rfl (by kernel_rfl) (fun _ _ _ h => h) rfl (fun w' hw => X.add rfl rfl (by omega)) hS ?_
          refine D.va 6 rfl (by kernel_rfl) (fun _ _ _ h => h) rfl (fun w' hw => X.move (by conv => lhs; whnf)) hS ?_
          refine D.va 7 rfl (by kernel_rfl) (fun _ _ _ h => h) rfl (fun w' hw => X.move (by conv => lhs; whnf)) hS ?_
          refine D.va 8 rfl (by kernel_rfl) (fun _ _ _ h => h) rfl (fun w' hw => X.move (by conv => lhs; whnf)) hS ?_
          refine D.va 9 rfl (by kernel_rfl) (fun _ _ _ h => h) rfl (fun w' hw => X.add rfl rfl (by omega)) hS ?_
          refine D.va 10 rfl (by kernel_rfl) (fun _ _ _ h => h) rfl (fun w' hw => X.index1eI (j := a + p) rfl rfl (by omega) Try.underlying74 sz_3 hA (by omega)) hS ?_
          refine D.va 12 rfl (by kernel_rfl) (fun _ _ _ h => h) rfl (fun w' hw => X.move (by conv => lhs; whnf)) hS ?_
          refine D.va 13 rfl (by kernel_rfl) (fun _ _ _ h => h) rfl (fun w' hw => X.move (by conv => lhs; whnf)) hS ?_
          refine D.va 14 rfl (by kernel_rfl) (fun _ _ _ h => h) rfl (fun w' hw => (by first | exact X.index1n rfl rfl Try.underlying74 sz_3 (by first | exact Option.some_ne_none _ | exact hA) (by omega) | exact X.index1 rfl rfl Try.underlying74 sz_3 (by first | exact Option.some_ne_none _ | exact hA) (by omega))) hS ?_
          refine D.two 11 15 (by kernel_rfl) rfl rfl ?_ ?_
          · refine L.va rfl (X.load rfl sc_3 (Ld.num hrw5 (j := a + p) (by omega))) ?_
            refine L.nil ?_
            refine ⟨fun _ => hS, ?_⟩
            refine D.one 15 (by kernel_rfl) rfl ?_
            refine L.va rfl (X.load rfl sc_3 (Ld.num hrw5 (j := a) (by omega))) ?_
            refine L.nil ?_
            refine ⟨fun _ => hS, ?_⟩
            refine D.va 16 rfl (by kernel_rfl) (fun _ _ _ h => h) rfl (fun w' hw => (by first | exact X.index1n rfl rfl Try.underlying74 sz_3 (by first | exact Option.some_ne_none _ | exact hA) (by omega) | exact X.index1 rfl rfl Try.underlying74 sz_3 (by first | exact Option.some_ne_none _ | exact hA) (by omega))) hS ?_
            refine D.one 17 (by kernel_rfl) rfl ?_
            refine L.storeON rfl rfl (by conv => lhs; whnf) sz_3 (hoX) (by omega) ?_
            intro w5 hoX hg2 hb2 hs2
            have hS1 := trivial
            refine L.nil ?_
            refine ⟨fun _ => hS1, ?_⟩
            replace hG := grb_trans hG hg2
            refine D.va 18 rfl (by kernel_rfl) (fun _ _ _ h => h) rfl (fun w' hw => X.index1eI (j := a + p) rfl rfl (by omega) Try.underlying74 sz_3 hA (by omega)) hS1 ?_
            refine D.one 19 (by kernel_rfl) rfl ?_
            refine L.storeON rfl rfl (by conv => lhs; whnf) sz_3 (hoX) (by omega) ?_
            intro w5 hoX hg2 hb2 hs2
            have hS2 := trivial
            refine L.nil ?_
            refine ⟨fun _ => hS2, ?_⟩
            replace hG := grb_trans hG hg2
            refine D.done (by kernel_rfl) ?_
            refine J.region ?_
            refine L.va rfl (X.move (by conv => lhs; whnf)) ?_
            refine L.va rfl (X.move (by conv => lhs; whnf)) ?_
            refine L.va rfl (X.move (by conv => lhs; whnf)) ?_
            refine L.va rfl (X.move (by conv => lhs; whnf)) ?_
            have hsw : Pr a (a + h) m (swp m a (a + p)) := .step (.refl _) ⟨by omega, by omega⟩ ⟨by omega, by omega⟩ (by omega)
            have c2 := sdownI A n c N 0 p a (swp m a (a + p)) w5 hoX (by omega) hn (Nat.zero_le _) (hO.swap (by omega) (by omega))
            rw [← ep] at c2
            refine L.call rfl en_136 rfl (c2) ?_
            rintro e w6 ⟨rfl, m', M', hH'⟩
            refine ⟨_, rfl, ?_⟩
            refine L.nil ?_
            refine J.region ?_
            refine L.va rfl (X.move (by conv => lhs; whnf)) ?_
            refine L.va rfl (X.sub rfl rfl (by omega)) ?_
            refine L.va rfl (X.assign (by conv => lhs; whnf)) ?_
            refine L.nil ?_
            refine ⟨(p, m'), At1 (by first | rfl | exact at_int rfl (by omega) | exact at_slice rfl (by omega) | exact at_int rfl (by simp)), (by (iterate 28 refine Agr.lk rfl ?_); exact Agr.lk rfl (Agr.hav rfl Agr.rfl')), ?_⟩
            exact ⟨⟨by omega, ⟨M'.o, grb_trans (grb_trans M.g hG) M'.g, (M.p.trans hsw).trans (M'.p.wide (Nat.le_refl _) (by omega) (by rw [swp_length]; omega))⟩, hO.next (by omega) (by omega) M'.p hH'⟩, by show p < p + 1; omega⟩
          · refine L.va rfl (X.load rfl sc_3 (Ld.num hrw5 (j := a) (by omega))) ?_
            refine L.nil ?_
            refine ⟨fun _ => hS, ?_⟩
            refine D.one 11 (by kernel_rfl) rfl ?_
            refine L.va rfl (X.load rfl sc_3 (Ld.num hrw5 (j := a + p) (by omega))) ?_
            refine L.nil ?_
            refine ⟨fun _ => hS, ?_⟩
            refine D.va 16 rfl (by kernel_rfl) (fun _ _ _ h => h) rfl (fun w' hw => (by first | exact X.index1n rfl rfl Try.underlying74 sz_3 (by first | exact Option.some_ne_none _ | exact hA) (by omega) | exact X.index1 rfl rfl Try.underlying74 sz_3 (by first | exact Option.some_ne_none _ | exact hA) (by omega))) hS ?_
            refine D.one 17 (by kernel_rfl) rfl ?_
            refine L.storeON rfl rfl (by conv => lhs; whnf) sz_3 (hoX) (by omega) ?_
            intro w5 hoX hg2 hb2 hs2
            have hS1 := trivial
            refine L.nil ?_
            refine ⟨fun _ => hS1, ?_⟩
            replace hG := grb_trans hG hg2
            refine D.va 18 rfl (by kernel_rfl) (fun _ _ _ h => h) rfl (fun w' hw => X.index1eI (j := a + p) rfl rfl (by omega) Try.underlying74 sz_3 hA (by omega)) hS1 ?_
            refine D.one 19 (by kernel_rfl) rfl ?_
            refine L.storeON rfl rfl (by conv => lhs; whnf) sz_3 (hoX) (by omega) ?_
            intro w5 hoX hg2 hb2 hs2
            have hS2 := trivial
            refine L.nil ?_
            refine ⟨fun _ => hS2, ?_⟩
            replace hG := grb_trans hG hg2
            refine D.done (by kernel_rfl) ?_
            refine J.region ?_
            refine L.va rfl (X.move (by conv => lhs; whnf)) ?_
            refine L.va rfl (X.move (by conv => lhs; whnf)) ?_
            refine L.va rfl (X.move (by conv => lhs; whnf)) ?_
            refine L.va rfl (X.move (by conv => lhs; whnf)) ?_
            have hsw : Pr a (a + h) m (swp m a (a + p)) := .step (.refl _) ⟨by omega, by omega⟩ ⟨by omega, by omega⟩ (by omega)
            have c2 := sdownI A n c N 0 p a (swp m a (a + p)) w5 hoX (by omega) hn (Nat.zero_le _) (hO.swap (by omega) (by omega))
            rw [← ep] at c2
            refine L.call rfl en_136 rfl (c2) ?_
            rintro e w6 ⟨rfl, m', M', hH'⟩
            refine ⟨_, rfl, ?_⟩
            refine L.nil ?_
            refine J.region ?_
            refine L.va rfl (X.move (by conv => lhs; whnf)) ?_
            refine L.va rfl (X.sub rfl rfl (by omega)) ?_
            refine L.va rfl (X.assign (by conv => lhs; whnf)) ?_
            refine L.nil ?_
            refine ⟨(p, m'), At1 (by first | rfl | exact at_int rfl (by omega) | exact at_slice rfl (by omega) | exact at_int rfl (by simp)), (by (iterate 28 refine Agr.lk rfl ?_); exact Agr.lk rfl (Agr.hav rfl Agr.rfl')), ?_⟩
            exact ⟨⟨by omega, ⟨M'.o, grb_trans (grb_trans M.g hG) M'.g, (M.p.trans hsw).trans (M'.p.wide (Nat.le_refl _) (by omega) (by rw [swp_length]; omega))⟩, hO.next (by omega) (by omega) M'.p hH'⟩, by show p < p + 1; omega⟩
        · obtain rfl : p = 0 := by omega
          refine J.exit ?_
          refine thn_exit <| thn_exit <| inB_eq ?_
          refine fin0 (.inr rfl) ?_
          exact ⟨rfl, m, M, hO.all⟩
end Go.Proofs.Ytpomklkfedpkfaa
