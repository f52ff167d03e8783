/-
  Filters alike: the reference's Same; the reference's plain form.
-/
import Derived.Test.YtlipeplfjkgamaaWNrmD
namespace Go.Proofs.Ytlipeplfjkgamaa
set_option maxRecDepth 100000
open Go.RowKit H
open Nrm (Up sel mem_sel eq_sel up_sel kp sm nrm nf take_next)
set_option linter.unusedVariables false
theorem keys_no {a b : List Fi} {i : Nat} (ha : i < a.length) (hb : i < b.length) (h : (a.getD i fi0).key ≠ (b.getD i fi0).key) : decide (a.map Fi.key = b.map Fi.key) = false := by
  refine decide_eq_false fun e => h ?_
  have := congrArg (fun l : List (Int × List Int) => l[i]?) e
  simp only [List.getElem?_map, gtF ha, gtF hb, Option.map_some, Option.some.injEq] at this
  exact this
theorem keys_all {a b : List Fi} (hl : a.length = b.length) (h : ∀ i, i < a.length → (a.getD i fi0).key = (b.getD i fi0).key) : decide (a.map Fi.key = b.map Fi.key) = true := by
  refine decide_eq_true (List.ext_getElem (by simp [hl]) fun i h1 h2 => ?_)
  rw [List.length_map] at h1 h2
  have := h i h1
  rw [List.getD, List.getD, List.getElem?_eq_getElem h1, List.getElem?_eq_getElem h2] at this
  simpa using this
theorem rsame28 {a b : Fis} {w : World} (ha : a.At w.heap.size w) (hb : b.At w.heap.size w) : Calls Try.prog 101 #[a.val, b.val] w fun e w' => e = .returned (.bool (decide (a.l.map Fi.key = b.l.map Fi.key))) ∧ Ext w w' := by
  have la := ha.l
  have lb := hb.l
  have ma := ha.m
  have mb := hb.m
  unfold maxLen at ma mb
  refine enter Try.func101 rfl (by kernel_rfl) ?_
  refine J.seq ?_
  refine J.region ?_
  refine L.va rfl (X.assign (by conv => lhs; whnf)) ?_
  refine L.nil ?_
  refine J.seq ?_
  refine J.seq ?_
  refine J.region ?_
  refine L.va rfl (X.move (by conv => lhs; whnf)) ?_
  refine L.va rfl (X.len rfl Try.underlying51) ?_
  refine L.va rfl (X.move (by conv => lhs; whnf)) ?_
  refine L.va rfl (X.len rfl Try.underlying51) ?_
  refine L.va rfl (X.neq rfl rfl) ?_
  refine L.nil ?_
  -- cond
  refine J.ndec rfl (fun h1 => ?_) (fun h1 => ?_)
  · have e : decide (a.l.map Fi.key = b.l.map Fi.key) = false := decide_eq_false fun e => by
      have := congrArg List.length e
      rw [List.length_map, List.length_map] at this
      omega
    rw [e]
    refine J.seq ?_
    refine J.region ?_
    refine L.va rfl (X.assign (by conv => lhs; whnf)) ?_
    refine L.nil ?_
    -- ret
    refine J.ret ?_
    refine thn_ret <| ?_
    refine fin1 ?_
    exact ⟨rfl, Ext.refl _⟩
  · refine J.skip ?_
    refine J.seq ?_
    refine J.seq ?_
    refine J.region ?_
    refine L.va rfl (X.assign (by conv => lhs; whnf)) ?_
    refine L.nil ?_
    refine J.block ?_
    -- loop
    refine J.loop (X := Nat) [4, 5, 6, 12, 13, 14, 15, 16, 17, 18, 19, 20, 21, 22, 23, 24, 25, 26, 27, 28, 29, 30, 31, 32, 33, 34, 35, 36, 37, 38, 39, 40, 41, 42, 43, 44, 45, 46, 47, 48, 49, 50, 51, 52, 53, 54, 55, 56, 57, 58, 59, 60, 61, 62, 63, 64, 65, 66, 67, 68, 69, 70] (fun i => [(5, .int .i64 (i : Int))]) (fun i w' => i ≤ a.n ∧ (∀ j, j < i → (a.l.getD j fi0).key = (b.l.getD j fi0).key) ∧ Ext w w') (fun i => a.n - i) (0) (At1 (by first | rfl | exact at_int rfl (by omega) | exact at_slice rfl (by omega) | exact at_int rfl (by simp))) ?_ ?_
    · exact ⟨Nat.zero_le _, fun j hj => absurd hj (by omega), Ext.refl _⟩
    · rintro i g w3 ⟨hi, hP, he3⟩
      have z3 := he3.le
      have ha3 := ha.ext he3
      have hb3 := hb.ext he3
      refine J.seq ?_
      refine J.seq ?_
      refine J.region ?_
      refine L.va rfl (X.move (by conv => lhs; whnf)) ?_
      refine L.va rfl (X.move (by conv => lhs; whnf)) ?_
      refine L.va rfl (X.len rfl Try.underlying51) ?_
      refine L.va rfl (X.lss rfl rfl) ?_
      refine L.nil ?_
      -- cond
      refine J.dec rfl (fun hlt => ?_) (fun hlt => ?_)
      · have hin : i < a.n := by omega
        have hA := ha3.r.some_ (by omega)
        have hB := hb3.r.some_ (by omega)
        have hbad := keys_no (a := a.l) (b := b.l) (i := i) (by omega) (by omega)
        obtain ⟨x, hx⟩ : ∃ x, x = a.l.getD i fi0 := ⟨_, rfl⟩
        obtain ⟨y, hy⟩ : ∃ y, y = b.l.getD i fi0 := ⟨_, rfl⟩
        have hX := ha3.one hin
        have hY := hb3.one (i := i) (by omega)
        have gx := gtF (l := a.l) (i := i) (by omega)
        have gy := gtF (l := b.l) (i := i) (by omega)
        rw [← hx] at hX gx hbad
        rw [← hy] at hY gy hbad
        have mx := hX.m
        have my := hY.m
        have lx := hX.len
        have ly := hY.len
        unfold maxLen at mx my
        refine J.skip ?_
        refine J.seq ?_
        refine J.block ?_
        refine J.seq ?_
        refine J.seq ?_
        -- draw
        refine J.quiet mixed (by kernel_rfl) ?_
        refine Qt.va rfl (fun w' hw => X.move (by conv => lhs; whnf)) ?_
        refine Qt.va rfl (fun w' hw => X.move (by conv => lhs; whnf)) ?_
        refine Qt.va rfl (fun w' hw => (by first | exact X.indexAddrn rfl rfl Try.underlying51 sz_150 (by first | exact Option.some_ne_none _ | exact hA | exact hB) (by omega) | exact X.indexAddr rfl rfl Try.underlying51 sz_150 (by first | exact Option.some_ne_none _ | exact hA | exact hB) (by omega))) ?_
        refine Qt.va rfl (fun w' hw => X.fieldP rfl Try.underlying150 rfl sz_3 (by decide) (by first | exact Option.some_ne_none _ | exact hA | exact hB)) ?_
        refine Qt.va rfl (fun w' hw => X.load rfl sc_3 (by first | exact hA | exact hB | exact Ld.flat2 fi_len (ha3.r.ext hw) gx (r := 0) rfl | exact Ld.flat2 fi_len (ha3.r.ext hw) gx (r := 1) rfl | exact Ld.flat2 fi_len (hb3.r.ext hw) gy (r := 0) rfl | exact Ld.flat2 fi_len (hb3.r.ext hw) gy (r := 1) rfl)) ?_
        refine Qt.va rfl (fun w' hw => X.move (by conv => lhs; whnf)) ?_
        refine Qt.va rfl (fun w' hw => X.move (by conv => lhs; whnf)) ?_
        refine Qt.va rfl (fun w' hw => (by first | exact X.indexAddrn rfl rfl Try.underlying51 sz_150 (by first | exact Option.some_ne_none _ | exact hA | exact hB) (by omega) | exact X.indexAddr rfl rfl Try.underlying51 sz_150 (by first | exact Option.some_ne_none _ | exact hA | exact hB) (by omega))) ?_
        refine Qt.va rfl (fun w' hw => X.fieldP rfl Try.underlying150 rfl sz_3 (by decide) (by first | exact Option.some_ne_none _ | exact hA | exact hB)) ?_
        refine Qt.va rfl (fun w' hw => X.load rfl sc_3 (by first | exact hA | exact hB | exact Ld.flat2 fi_len (ha3.r.ext hw) gx (r := 0) rfl | exact Ld.flat2 fi_len (ha3.r.ext hw) gx (r := 1) rfl | exact Ld.flat2 fi_len (hb3.r.ext hw) gy (r := 0) rfl | exact Ld.flat2 fi_len (hb3.r.ext hw) gy (r := 1) rfl)) ?_
        refine Qt.va rfl (fun w' hw => X.neq rfl rfl) ?_
        refine Qt.va rfl (fun w' hw => X.move (by conv => lhs; whnf)) ?_
        -- case t29
        refine Qt.caseNdec (k := 29) rfl (fun h2 => ?_) (fun h2 => ?_)
        · refine Qt.no rfl ?_
          refine Qt.no rfl ?_
          refine Qt.no rfl ?_
          refine Qt.no rfl ?_
          refine Qt.no rfl ?_
          refine Qt.no rfl ?_
          refine Qt.no rfl ?_
          refine Qt.no rfl ?_
          refine Qt.no rfl ?_
          refine Qt.no rfl ?_
          refine Qt.no rfl ?_
          refine Qt.no rfl ?_
          refine Qt.no rfl ?_
          refine Qt.va rfl (fun w' hw => X.pickT rfl (by conv => lhs; whnf)) ?_
          refine Qt.nil (fun w4 hq => ?_)
          -- cond
          refine J.iteT rfl ?_
          rw [hbad (fun e => by
            have e1 : x.d = y.d := congrArg Prod.fst e
            have e2 : x.l = y.l := congrArg Prod.snd e
            rw [e2] at lx
            omega)]
          refine J.seq ?_
          refine J.region ?_
          refine L.va rfl (X.assign (by conv => lhs; whnf)) ?_
          refine L.nil ?_
          -- ret
          refine J.ret ?_
          refine thn_ret <|  inB_ret <|  thn_ret <|  thn_ret <|  inB_ret <|  thn_ret <| ?_
          refine fin1 ?_
          exact ⟨rfl, he3.trans hq⟩
        refine Qt.va rfl (fun w' hw => X.move (by conv => lhs; whnf)) ?_
        refine Qt.va rfl (fun w' hw => X.move (by conv => lhs; whnf)) ?_
        refine Qt.va rfl (fun w' hw => (by first | exact X.indexAddrn rfl rfl Try.underlying51 sz_150 (by first | exact Option.some_ne_none _ | exact hA | exact hB) (by omega) | exact X.indexAddr rfl rfl Try.underlying51 sz_150 (by first | exact Option.some_ne_none _ | exact hA | exact hB) (by omega))) ?_
        refine Qt.va rfl (fun w' hw => X.fieldP rfl Try.underlying150 rfl sz_23 (by decide) (by first | exact Option.some_ne_none _ | exact hA | exact hB)) ?_
        refine Qt.va rfl (fun w' hw => X.load rfl sc_23 (by first | exact hA | exact hB | exact Ld.flat2 fi_len (ha3.r.ext hw) gx (r := 0) rfl | exact Ld.flat2 fi_len (ha3.r.ext hw) gx (r := 1) rfl | exact Ld.flat2 fi_len (hb3.r.ext hw) gy (r := 0) rfl | exact Ld.flat2 fi_len (hb3.r.ext hw) gy (r := 1) rfl)) ?_
        refine Qt.va rfl (fun w' hw => X.len rfl Try.underlying23) ?_
        refine Qt.va rfl (fun w' hw => X.move (by conv => lhs; whnf)) ?_
        refine Qt.va rfl (fun w' hw => X.move (by conv => lhs; whnf)) ?_
        refine Qt.va rfl (fun w' hw => (by first | exact X.indexAddrn rfl rfl Try.underlying51 sz_150 (by first | exact Option.some_ne_none _ | exact hA | exact hB) (by omega) | exact X.indexAddr rfl rfl Try.underlying51 sz_150 (by first | exact Option.some_ne_none _ | exact hA | exact hB) (by omega))) ?_
        refine Qt.va rfl (fun w' hw => X.fieldP rfl Try.underlying150 rfl sz_23 (by decide) (by first | exact Option.some_ne_none _ | exact hA | exact hB)) ?_
        refine Qt.va rfl (fun w' hw => X.load rfl sc_23 (by first | exact hA | exact hB | exact Ld.flat2 fi_len (ha3.r.ext hw) gx (r := 0) rfl | exact Ld.flat2 fi_len (ha3.r.ext hw) gx (r := 1) rfl | exact Ld.flat2 fi_len (hb3.r.ext hw) gy (r := 0) rfl | exact Ld.flat2 fi_len (hb3.r.ext hw) gy (r := 1) rfl)) ?_
        refine Qt.va rfl (fun w' hw => X.len rfl Try.underlying23) ?_
        refine Qt.va rfl (fun w' hw => X.neq rfl rfl) ?_
        refine Qt.va rfl (fun w' hw => X.pickF rfl (by conv => lhs; whnf)) ?_
        refine Qt.nil (fun w4 hq => ?_)
        -- cond
        refine J.ndec rfl (fun h3 => ?_) (fun h3 => ?_)
        · rw [hbad (fun e => by
            have e1 : x.d = y.d := congrArg Prod.fst e
            have e2 : x.l = y.l := congrArg Prod.snd e
            rw [e2] at lx
            omega)]
          refine J.seq ?_
          refine J.region ?_
          refine L.va rfl (X.assign (by conv => lhs; whnf)) ?_
          refine L.nil ?_
          -- ret
          refine J.ret ?_
          refine thn_ret <|  inB_ret <|  thn_ret <|  thn_ret <|  inB_ret <|  thn_ret <| ?_
          refine fin1 ?_
          exact ⟨rfl, he3.trans hq⟩
        have he4 := he3.trans hq
        have z4 := he4.le
        refine J.skip ?_
        refine J.seq ?_
        refine J.region ?_
        refine L.va rfl (X.assign (by conv => lhs; whnf)) ?_
        refine L.nil ?_
        refine J.block ?_
        -- loop
        refine J.loop (X := Nat) [4, 6, 44, 45, 46, 47, 48, 49, 50, 51, 52, 53, 54, 55, 56, 57, 58, 59, 60, 61, 62, 63, 64, 65, 66, 67, 68, 69, 70] (fun k => [(6, .int .i64 (k : Int))]) (fun k w' => k ≤ x.n ∧ (∀ j, j < k → x.l.getD j 0 = y.l.getD j 0) ∧ Ext w4 w') (fun k => x.n - k) (0) (At1 (by first | rfl | exact at_int rfl (by omega) | exact at_slice rfl (by omega) | exact at_int rfl (by simp))) ?_ ?_
        · exact ⟨Nat.zero_le _, fun j hj => absurd hj (by omega), Ext.refl _⟩
        · rintro k g w5 ⟨hk, hQ, he5⟩
          have ha5 := (ha3.ext hq).ext he5
          have hb5 := (hb3.ext hq).ext he5
          have r5 := (hX.ext hq).ext he5 |>.r
          have s5 := (hY.ext hq).ext he5 |>.r
          refine J.seq ?_
          refine J.seq ?_
          refine J.region ?_
          refine L.va rfl (X.move (by conv => lhs; whnf)) ?_
          refine L.va rfl (X.move (by conv => lhs; whnf)) ?_
          refine L.va rfl (X.move (by conv => lhs; whnf)) ?_
          refine L.va rfl ((by first | exact X.indexAddrn rfl rfl Try.underlying51 sz_150 (by first | exact Option.some_ne_none _ | exact r5.some_ (by omega) | exact s5.some_ (by omega) | exact hA | exact hB) (by omega) | exact X.indexAddr rfl rfl Try.underlying51 sz_150 (by first | exact Option.some_ne_none _ | exact r5.some_ (by omega) | exact s5.some_ (by omega) | exact hA | exact hB) (by omega))) ?_
          refine L.va rfl (X.fieldP rfl Try.underlying150 rfl sz_23 (by decide) (by first | exact Option.some_ne_none _ | exact r5.some_ (by omega) | exact s5.some_ (by omega) | exact hA | exact hB)) ?_
          refine L.va rfl (X.load rfl sc_23 (by first | exact Ld.num r5 (by omega) | exact Ld.num s5 (by omega) | exact hA | exact hB | exact Ld.flat2 fi_len ha5.r gx (r := 0) rfl | exact Ld.flat2 fi_len ha5.r gx (r := 1) rfl | exact Ld.flat2 fi_len hb5.r gy (r := 0) rfl | exact Ld.flat2 fi_len hb5.r gy (r := 1) rfl)) ?_
          refine L.va rfl (X.len rfl Try.underlying23) ?_
          refine L.va rfl (X.lss rfl rfl) ?_
          refine L.nil ?_
          -- cond
          refine J.dec rfl (fun hlt2 => ?_) (fun hlt2 => ?_)
          · have hA1 := r5.some_ (by omega)
            have hB1 := s5.some_ (by omega)
            refine J.skip ?_
            refine J.seq ?_
            refine J.block ?_
            refine J.seq ?_
            -- draw
            refine J.quiet mixed (by kernel_rfl) ?_
            refine Qt.va rfl (fun w' hw => X.move (by conv => lhs; whnf)) ?_
            refine Qt.va rfl (fun w' hw => X.move (by conv => lhs; whnf)) ?_
            refine Qt.va rfl (fun w' hw => (by first | exact X.indexAddrn rfl rfl Try.underlying51 sz_150 (by first | exact Option.some_ne_none _ | exact r5.some_ (by omega) | exact s5.some_ (by omega) | exact hA | exact hB | exact hA1 | exact hB1) (by omega) | exact X.indexAddr rfl rfl Try.underlying51 sz_150 (by first | exact Option.some_ne_none _ | exact r5.some_ (by omega) | exact s5.some_ (by omega) | exact hA | exact hB | exact hA1 | exact hB1) (by omega))) ?_
            refine Qt.va rfl (fun w' hw => X.fieldP rfl Try.underlying150 rfl sz_23 (by decide) (by first | exact Option.some_ne_none _ | exact r5.some_ (by omega) | exact s5.some_ (by omega) | exact hA | exact hB | exact hA1 | exact hB1)) ?_
            refine Qt.va rfl (fun w' hw => X.load rfl sc_23 (by first | exact Ld.num (r5.ext hw) (by omega) | exact Ld.num (s5.ext hw) (by omega) | exact hA | exact hB | exact hA1 | exact hB1 | exact Ld.flat2 fi_len (ha5.r.ext hw) gx (r := 1) rfl | exact Ld.flat2 fi_len (hb5.r.ext hw) gy (r := 1) rfl)) ?_
            refine Qt.va rfl (fun w' hw => X.move (by conv => lhs; whnf)) ?_
            refine Qt.va rfl (fun w' hw => (by first | exact X.index1n rfl rfl Try.underlying23 sz_3 (by first | exact Option.some_ne_none _ | exact r5.some_ (by omega) | exact s5.some_ (by omega) | exact hA | exact hB | exact hA1 | exact hB1) (by omega) | exact X.index1 rfl rfl Try.underlying23 sz_3 (by first | exact Option.some_ne_none _ | exact r5.some_ (by omega) | exact s5.some_ (by omega) | exact hA | exact hB | exact hA1 | exact hB1) (by omega))) ?_
            refine Qt.va rfl (fun w' hw => X.load rfl sc_3 (by first | exact Ld.num (r5.ext hw) (by omega) | exact Ld.num (s5.ext hw) (by omega) | exact hA | exact hB | exact hA1 | exact hB1 | exact Ld.flat2 fi_len (ha5.r.ext hw) gx (r := 1) rfl | exact Ld.flat2 fi_len (hb5.r.ext hw) gy (r := 1) rfl)) ?_
            refine Qt.va rfl (fun w' hw => X.move (by conv => lhs; whnf)) ?_
            refine Qt.va rfl (fun w' hw => X.move (by conv => lhs; whnf)) ?_
            refine Qt.va rfl (fun w' hw => (by first | exact X.indexAddrn rfl rfl Try.underlying51 sz_150 (by first | exact Option.some_ne_none _ | exact r5.some_ (by omega) | exact s5.some_ (by omega) | exact hA | exact hB | exact hA1 | exact hB1) (by omega) | exact X.indexAddr rfl rfl Try.underlying51 sz_150 (by first | exact Option.some_ne_none _ | exact r5.some_ (by omega) | exact s5.some_ (by omega) | exact hA | exact hB | exact hA1 | exact hB1) (by omega))) ?_
            refine Qt.va rfl (fun w' hw => X.fieldP rfl Try.underlying150 rfl sz_23 (by decide) (by first | exact Option.some_ne_none _ | exact r5.some_ (by omega) | exact s5.some_ (by omega) | exact hA | exact hB | exact hA1 | exact hB1)) ?_
            refine Qt.va rfl (fun w' hw => X.load rfl sc_23 (by first | exact Ld.num (r5.ext hw) (by omega) | exact Ld.num (s5.ext hw) (by omega) | exact hA | exact hB | exact hA1 | exact hB1 | exact Ld.flat2 fi_len (ha5.r.ext hw) gx (r := 1) rfl | exact Ld.flat2 fi_len (hb5.r.ext hw) gy (r := 1) rfl)) ?_
            refine Qt.va rfl (fun w' hw => X.move (by conv => lhs; whnf)) ?_
            refine Qt.va rfl (fun w' hw => (by first | exact X.index1n rfl rfl Try.underlying23 sz_3 (by first | exact Option.some_ne_none _ | exact r5.some_ (by omega) | exact s5.some_ (by omega) | exact hA | exact hB | exact hA1 | exact hB1) (by omega) | exact X.index1 rfl rfl Try.underlying23 sz_3 (by first | exact Option.some_ne_none _ | exact r5.some_ (by omega) | exact s5.some_ (by omega) | exact hA | exact hB | exact hA1 | exact hB1) (by omega))) ?_
            refine Qt.va rfl (fun w' hw => X.load rfl sc_3 (by first | exact Ld.num (r5.ext hw) (by omega) | exact Ld.num (s5.ext hw) (by omega) | exact hA | exact hB | exact hA1 | exact hB1 | exact Ld.flat2 fi_len (ha5.r.ext hw) gx (r := 1) rfl | exact Ld.flat2 fi_len (hb5.r.ext hw) gy (r := 1) rfl)) ?_
            refine Qt.va rfl (fun w' hw => X.neq rfl rfl) ?_
            refine Qt.nil (fun w6 hq6 => ?_)
            replace r5 := r5.ext hq6
            replace s5 := s5.ext hq6
            -- cond
            refine J.ndec rfl (fun hne => ?_) (fun hne => ?_)
            · rw [hbad (fun e => hne (by have e2 : x.l = y.l := congrArg Prod.snd e; rw [e2]))]
              refine J.seq ?_
              refine J.region ?_
              refine L.va rfl (X.assign (by conv => lhs; whnf)) ?_
              refine L.nil ?_
              -- ret
              refine J.ret ?_
              refine inB_ret <|  thn_ret <|  thn_ret <|  inB_ret <|  inB_ret <|  thn_ret <|  thn_ret <|  inB_ret <|  thn_ret <| ?_
              refine fin1 ?_
              exact ⟨rfl, (he4.trans he5).trans hq6⟩
            · skip
              refine J.skip ?_
              refine J.region ?_
              refine L.va rfl (X.move (by conv => lhs; whnf)) ?_
              refine L.va rfl (X.add rfl rfl (by omega)) ?_
              refine L.va rfl (X.assign (by conv => lhs; whnf)) ?_
              refine L.nil ?_
              -- loopend
              refine ⟨k + 1, At1 (by first | rfl | exact at_int rfl (by omega) | exact at_slice rfl (by omega) | exact at_int rfl (by simp)), (by (iterate 28 refine Agr.lk rfl ?_); exact Agr.lk rfl (Agr.hav rfl Agr.rfl')), ?_⟩
              refine ⟨⟨by omega, fun j hj => ?_, he5.trans hq6⟩, by omega⟩
              rcases Nat.lt_or_ge j k with h | h
              · exact hQ j h
              · obtain rfl : j = k := by omega
                exact hne
          · skip
            refine J.exit ?_
            refine J.region ?_
            refine L.va rfl (X.move (by conv => lhs; whnf)) ?_
            refine L.va rfl (X.add rfl rfl (by omega)) ?_
            refine L.va rfl (X.assign (by conv => lhs; whnf)) ?_
            refine L.nil ?_
            -- loopend
            refine ⟨i + 1, At1 (by first | rfl | exact at_int rfl (by omega) | exact at_slice rfl (by omega) | exact at_int rfl (by simp)), (by (iterate 11 refine Agr.lk rfl ?_); refine Agr.lk rfl ?_; refine Agr.hav rfl ?_; (iterate 32 refine Agr.lk rfl ?_); exact Agr.lk rfl (Agr.hav rfl Agr.rfl')), ?_⟩
            refine ⟨⟨by omega, fun j hj => ?_, he4.trans he5⟩, by omega⟩
            rcases Nat.lt_or_ge j i with h | h
            · exact hP j h
            · obtain rfl : j = i := by omega
              rw [← hx, ← hy]
              have e1 : x.d = y.d := by omega
              have e2 : x.l = y.l := List.ext_getElem (by omega) fun q h1 h2 => by
                have := hQ q (by omega)
                rw [List.getD, List.getD, List.getElem?_eq_getElem h1, List.getElem?_eq_getElem h2] at this
                exact this
              show (x.d, x.l) = (y.d, y.l)
              rw [e1, e2]
      · rw [keys_all (by omega) (fun j hj => hP j (by omega))]
        refine J.exit ?_
        refine J.seq ?_
        refine J.region ?_
        refine L.va rfl (X.assign (by conv => lhs; whnf)) ?_
        refine L.nil ?_
        -- ret
        refine J.ret ?_
        refine fin1 ?_
        exact ⟨rfl, he3⟩
theorem kp_part {l : Nrm.Ks} {j : Nat} {d c : Int} (h : kp (l.take j) d c = false) : kp l d c = false := by
  cases hk : kp l d c
  · rfl
  · rw [Nrm.kp_iff] at hk
    have : kp (l.take j) d c = true := Nrm.kp_iff.2 fun f hf => hk f (List.mem_of_mem_take hf)
    rw [h] at this
    cases this
theorem rnorm28 {s : Sch} {f : Fis} {w : World} (H : s.Here w) (hf : f.At w.heap.size w) (hc : s.code = 0) : Calls Try.prog 102 #[s.val, f.val] w fun e w' => ∃ r : Fis, e = .returned r.val ∧ FisOwn r w.heap.size w' ∧ r.l.map Fi.key = nrm (f.l.map Fi.key) 0 (szs s s.nd) ∧ Ext w w' := by
  have hl := hf.l
  have hfm := hf.m
  unfold maxLen at hfm
  have hsl := H.len
  have G := Sch.good hc
  have hnd := G.1
  obtain ⟨ky, eky⟩ : ∃ ky, ky = f.l.map Fi.key := ⟨_, rfl⟩
  have hkl : ky.length = f.n := by rw [eky, List.length_map, hl]
  refine enter Try.func102 rfl (by kernel_rfl) ?_
  refine J.seq ?_
  refine J.region ?_
  -- box
  refine L.boxA (l := [_, _, _, _]) rfl rfl ?_
  intro b1 w1 hb1 hs1 hk1 he1
  have z1 := he1.le
  refine L.va rfl (X.assign (by conv => lhs; whnf)) ?_
  refine L.nil ?_
  refine J.seq ?_
  refine J.region ?_
  refine L.va rfl (X.assign (by conv => lhs; whnf)) ?_
  refine L.nil ?_
  refine J.seq ?_
  refine J.seq ?_
  refine J.region ?_
  refine L.va rfl (X.assign (by conv => lhs; whnf)) ?_
  refine L.nil ?_
  refine J.block ?_
  -- loop
  refine J.loop (X := Nat × Fis) [5, 6, 7, 8, 9, 10, 11, 12, 13, 14, 15, 16, 17, 18, 19, 20, 21, 22, 23, 24, 25, 26, 27, 28, 29, 30, 31, 32, 33, 34, 35, 36, 37, 38, 39, 40, 41, 42, 43, 44, 45, 46, 47, 48, 49, 50, 51, 52, 53, 54, 55, 56, 57, 58, 59, 60, 61, 62, 63, 64, 65, 66, 67, 68, 69, 70, 71, 72, 73, 74, 75] (fun (i, r) => [(6, .int .i64 (i : Int)), (5, r.val)]) (fun (i, r) w' => i ≤ s.nd ∧ FisOwn r w1.heap.size w' ∧ r.l.map Fi.key = nrm ky 0 (szs s i) ∧ Ext w1 w') (fun (i, _) => s.nd - i) ((0, ⟨none, 0, 0, []⟩)) (At2 (by first | rfl | exact at_int rfl (by omega) | exact at_slice rfl (by omega) | exact at_int rfl (by simp)) (by first | rfl | exact at_int rfl (by omega) | exact at_slice rfl (by omega) | exact at_int rfl (by simp))) ?_ ?_
  · exact ⟨Nat.zero_le _, ⟨own_nil _ _ _ _, (fun x hx => by cases hx), rfl⟩, rfl, Ext.refl _⟩
  · rintro ⟨i, r⟩ g w3 ⟨hi, hr, hrk, he3⟩
    have hk3 := hk1.ext he3
    have he03 := he1.trans he3
    have z3 := he03.le
    have y3 := he3.le
    refine J.seq ?_
    refine J.seq ?_
    refine J.region ?_
    refine L.va rfl (X.move (by conv => lhs; whnf)) ?_
    refine L.va rfl (X.fieldAddr rfl Try.underlying49 rfl sz_45 (by decide)) ?_
    refine L.va rfl (X.load rfl sc_45 (by first | exact Ld.blk hk3 rfl)) ?_
    refine L.va rfl (X.len rfl Try.underlying45) ?_
    refine L.va rfl (X.lss rfl rfl) ?_
    refine L.nil ?_
    -- cond
    refine J.dec rfl (fun hlt => ?_) (fun hlt => ?_)
    · have hil : i < s.nd := by omega
      have hbd := szB_at (mono_b (szB_s s.ds) (by omega : i + 1 ≤ s.nd) G.2)
      have hn : (s.ds.getD i d0).2 = ((szN s i : Nat) : Int) := by unfold szN; omega
      have hn5 : szN s i ≤ 4096 := by omega
      refine J.skip ?_
      refine J.seq ?_
      refine J.block ?_
      refine J.seq ?_
      refine J.region ?_
      refine L.va rfl (X.move (by conv => lhs; whnf)) ?_
      refine L.va rfl (X.build (l := [_, _]) (Evs.cons (by conv => lhs; whnf) Evs.nil) (bld_run Try.underlying150 (bp_150 Try.underlying150) zr_150 rfl)) ?_
      -- alloc
      refine L.alloc rfl zr_150 ?_
      intro b4 w4 hb4 hs4 hk4 he4
      -- store
      refine L.storeAgg (vs := [_, _]) rfl rfl rfl rfl sz_150 (hk4) rfl ?_
      intro w5 hk5 hg5 hs5
      have he35 : Ext w3 w5 := he4.grw hg5 (by intro g hg; injection hg with hg; omega)
      have hk5 : Blk w5 b4 150 #[.int .i64 (i : Int), .slice none 0 0] := hk5
      have he5 := he03.trans he35
      have hk15 := hk3.ext he35
      have z5 := he5.le
      refine L.nil ?_
      refine J.seq ?_
      refine J.seq ?_
      refine J.region ?_
      refine L.va rfl (X.assign (by conv => lhs; whnf)) ?_
      refine L.nil ?_
      refine J.block ?_
      -- loop
      refine J.loop (X := Nat × Cs) [8, 9, 10, 20, 21, 22, 23, 24, 25, 26, 27, 28, 29, 30, 31, 32, 33, 34, 35, 36, 37, 38, 39, 40, 41, 42, 43, 44, 45, 46, 47, 48, 49, 50, 51, 52, 53, 54, 55, 56, 57, 58, 59, 60, 61] (fun (c, cs) => [(8, .int .i64 (c : Int))]) (fun (c, cs) w' => c ≤ szN s i ∧ cs.l = sel c (kp ky i) ∧ w'.ownsRow w3.heap.size 3 1 cs.val cs.n (nums .i64 cs.l) ∧ Blk w' b4 150 #[.int .i64 (i : Int), cs.val] ∧ Ext w3 w') (fun (c, _) => szN s i - c) ((0, ⟨none, 0, 0, []⟩)) (At1 (by first | rfl | exact at_int rfl (by omega) | exact at_slice rfl (by omega) | exact at_int rfl (by simp))) ?_ ?_
      · exact ⟨Nat.zero_le _, rfl, own_nilN _ _ _ _, hk5, he35⟩
      · rintro ⟨c, cs⟩ g w6 ⟨hci, hcs, hoc, hk6, he6⟩
        have hk16 := hk3.ext he6
        have he06 := he03.trans he6
        have z6 := he06.le
        have hd6 := (H.ext he06).hd
        have hA := hd6.some_ (by omega)
        have hf6 := hf.ext he06
        have hcl : cs.l.length = cs.n := (Cs.At.own hoc).len
        have hcn : cs.n ≤ c := by
          have := Nrm.sel_le c (kp ky i)
          rw [← hcs] at this
          omega
        refine J.seq ?_
        refine J.seq ?_
        refine J.region ?_
        refine L.va rfl (X.move (by conv => lhs; whnf)) ?_
        refine L.va rfl (X.fieldAddr rfl Try.underlying49 rfl sz_45 (by decide)) ?_
        refine L.va rfl (X.load rfl sc_45 (by first | exact Ld.blk hk16 rfl | exact Ld.blk hk6 rfl | exact Ld.dimS hd6 (by omega) | exact Ld.dimN hd6 (by omega) | exact hA)) ?_
        refine L.va rfl (X.move (by conv => lhs; whnf)) ?_
        refine L.va rfl ((by first | exact X.indexAddrn rfl rfl Try.underlying45 sz_128 (by first | exact Option.some_ne_none _ | exact hd6.some_ (by omega) | exact hA) (by omega) | exact X.indexAddr rfl rfl Try.underlying45 sz_128 (by first | exact Option.some_ne_none _ | exact hd6.some_ (by omega) | exact hA) (by omega))) ?_
        refine L.va rfl (X.fieldP rfl Try.underlying128 rfl sz_3 (by decide) (by first | exact Option.some_ne_none _ | exact hd6.some_ (by omega) | exact hA)) ?_
        refine L.va rfl (X.load rfl sc_3 (by first | exact Ld.blk hk16 rfl | exact Ld.blk hk6 rfl | exact Ld.dimS hd6 (by omega) | exact Ld.dimN hd6 (by omega) | exact hA)) ?_
        refine L.va rfl (X.lss rfl rfl) ?_
        refine L.nil ?_
        -- cond
        refine J.dec rfl (fun hlt2 => ?_) (fun hlt2 => ?_)
        · have hcn2 : c < szN s i := by rw [hn] at hlt2; omega
          refine J.skip ?_
          refine J.seq ?_
          refine J.block ?_
          refine J.seq ?_
          refine J.region ?_
          refine L.va rfl (X.assign (by conv => lhs; whnf)) ?_
          refine L.nil ?_
          refine J.seq ?_
          refine J.seq ?_
          refine J.region ?_
          refine L.va rfl (X.assign (by conv => lhs; whnf)) ?_
          refine L.nil ?_
          refine J.block ?_
          -- loop
          refine J.loop (X := Nat × Bool) [9, 10, 30, 31, 32, 33, 34, 35, 36, 37, 38, 39, 40, 41, 42, 43, 44, 45, 46, 47, 48, 49, 50, 51, 52, 53, 54] (fun (j, b) => [(10, .int .i64 (j : Int)), (9, .bool b)]) (fun (j, b) w' => j ≤ f.n ∧ b = kp (ky.take j) i c ∧ Ext w6 w') (fun (j, _) => f.n - j) ((0, true)) (At2 (by first | rfl | exact at_int rfl (by omega) | exact at_slice rfl (by omega) | exact at_int rfl (by simp)) (by first | rfl | exact at_int rfl (by omega) | exact at_slice rfl (by omega) | exact at_int rfl (by simp))) ?_ ?_
          · exact ⟨Nat.zero_le _, rfl, Ext.refl _⟩
          · rintro ⟨j, b⟩ g w7 ⟨hj, hb, he7⟩
            have hf7 := hf6.ext he7
            have hk7 := hk6.ext he7
            have hk17 := hk16.ext he7
            have z7 := he7.le
            refine J.seq ?_
            refine J.seq ?_
            refine J.region ?_
            refine L.va rfl (X.move (by conv => lhs; whnf)) ?_
            refine L.va rfl (X.move (by conv => lhs; whnf)) ?_
            refine L.va rfl (X.len rfl Try.underlying51) ?_
            refine L.va rfl (X.lss rfl rfl) ?_
            refine L.va rfl (X.move (by conv => lhs; whnf)) ?_
            -- case t34
            refine L.caseDec (k := 34) rfl (fun hlt3 => ?_) (fun hlt3 => ?_)
            · refine L.va rfl (X.move (by conv => lhs; whnf)) ?_
              refine L.va rfl (X.pickT rfl (by conv => lhs; whnf)) ?_
              refine L.nil ?_
              -- cond
              cases b
              · refine J.iteF rfl ?_
                refine J.exit ?_
                refine J.seq ?_
                refine J.region ?_
                refine L.va rfl (X.move (by conv => lhs; whnf)) ?_
                refine L.nil ?_
                -- cond
                refine J.iteF rfl ?_
                refine J.skip ?_
                refine J.region ?_
                refine L.va rfl (X.move (by conv => lhs; whnf)) ?_
                refine L.va rfl (X.add rfl rfl (by omega)) ?_
                refine L.va rfl (X.assign (by conv => lhs; whnf)) ?_
                refine L.nil ?_
                -- loopend
                refine ⟨(c + 1, cs), At1 (by first | rfl | exact at_int rfl (by omega) | exact at_slice rfl (by omega) | exact at_int rfl (by simp)), (by (iterate 12 refine Agr.lk rfl ?_); refine Agr.lk rfl ?_; refine Agr.hav rfl ?_; (iterate 10 refine Agr.lk rfl ?_); exact Agr.lk rfl (Agr.hav rfl Agr.rfl')), ?_⟩
                refine ⟨⟨by omega, ?_, hoc.ext he7, hk7, he6.trans he7⟩, by show szN s i - (c + 1) < szN s i - c; omega⟩
                rw [Nrm.sel_next, if_neg (by rw [kp_part hb.symm]; decide), List.append_nil]
                exact hcs
              · have hjn : j < f.n := by omega
                have hA2 := hf7.r.some_ (by omega)
                obtain ⟨x, hx⟩ : ∃ x, x = f.l.getD j fi0 := ⟨_, rfl⟩
                have hX := hf7.one hjn
                have hgt := gtF (l := f.l) (i := j) (by omega)
                have hnk := key_at (l := f.l) (i := j) (by omega)
                rw [← hx] at hX hgt hnk
                rw [← eky] at hnk
                refine J.iteT rfl ?_
                refine J.skip ?_
                refine J.seq ?_
                refine J.block ?_
                refine J.region ?_
                refine L.va rfl (X.move (by conv => lhs; whnf)) ?_
                refine L.va rfl (X.move (by conv => lhs; whnf)) ?_
                refine L.va rfl ((by first | exact X.indexAddrn rfl rfl Try.underlying51 sz_150 (by first | exact Option.some_ne_none _ | exact hA2) (by omega) | exact X.indexAddr rfl rfl Try.underlying51 sz_150 (by first | exact Option.some_ne_none _ | exact hA2) (by omega))) ?_
                refine L.va rfl (X.fieldP rfl Try.underlying150 rfl sz_3 (by decide) (by first | exact Option.some_ne_none _ | exact hA2)) ?_
                refine L.va rfl (X.load rfl sc_3 (by first | exact Ld.blk hk7 rfl | exact Ld.blk hk17 rfl | exact hA2 | exact Ld.flat2 fi_len hf7.r hgt (r := 0) rfl | exact Ld.flat2 fi_len hf7.r hgt (r := 1) rfl)) ?_
                refine L.va rfl (X.move (by conv => lhs; whnf)) ?_
                refine L.va rfl (X.neq rfl rfl) ?_
                refine L.va rfl (X.move (by conv => lhs; whnf)) ?_
                -- case t46
                refine L.caseNdec (k := 46) rfl (fun hne => ?_) (fun hne => ?_)
                · skip
                  refine L.no rfl ?_
                  refine L.no rfl ?_
                  refine L.no rfl ?_
                  refine L.no rfl ?_
                  refine L.no rfl ?_
                  refine L.no rfl ?_
                  refine L.no rfl ?_
                  refine L.va rfl (X.pickT rfl (by conv => lhs; whnf)) ?_
                  refine L.va rfl (X.assign (by conv => lhs; whnf)) ?_
                  refine L.nil ?_
                  refine J.region ?_
                  refine L.va rfl (X.move (by conv => lhs; whnf)) ?_
                  refine L.va rfl (X.add rfl rfl (by omega)) ?_
                  refine L.va rfl (X.assign (by conv => lhs; whnf)) ?_
                  refine L.nil ?_
                  -- loopend
                  refine ⟨(j + 1, true), At2 (by first | rfl | exact at_int rfl (by omega) | exact at_slice rfl (by omega) | exact at_int rfl (by simp)) (by first | rfl | exact at_int rfl (by omega) | exact at_slice rfl (by omega) | exact at_int rfl (by simp)), (by (iterate 29 refine Agr.lk rfl ?_); exact Agr.lk rfl (Agr.hav rfl Agr.rfl')), ?_⟩
                  refine ⟨⟨by omega, ?_, he7⟩, by show f.n - (j + 1) < f.n - j; omega⟩
                  rw [hnk, Nrm.kp_next, ← hb, decide_eq_false hne]
                  rfl
                · refine L.va rfl (X.move (by conv => lhs; whnf)) ?_
                  refine L.va rfl (X.move (by conv => lhs; whnf)) ?_
                  refine L.va rfl ((by first | exact X.indexAddrn rfl rfl Try.underlying51 sz_150 (by first | exact Option.some_ne_none _ | exact hA2) (by omega) | exact X.indexAddr rfl rfl Try.underlying51 sz_150 (by first | exact Option.some_ne_none _ | exact hA2) (by omega))) ?_
                  refine L.va rfl (X.fieldP rfl Try.underlying150 rfl sz_23 (by decide) (by first | exact Option.some_ne_none _ | exact hA2)) ?_
                  refine L.va rfl (X.load rfl sc_23 (by first | exact Ld.blk hk7 rfl | exact Ld.blk hk17 rfl | exact hA2 | exact Ld.flat2 fi_len hf7.r hgt (r := 0) rfl | exact Ld.flat2 fi_len hf7.r hgt (r := 1) rfl)) ?_
                  refine L.va rfl (X.move (by conv => lhs; whnf)) ?_
                  -- callfn bushel/bushelref28.has
                  refine L.call rfl en_179 rfl (has28 x.A x.n x.c x.l c w7 (hX.r.more (by omega)) hX.m) ?_
                  rintro e _ ⟨rfl, rfl⟩
                  refine ⟨_, rfl, ?_⟩
                  refine L.va rfl (X.pickF rfl (by conv => lhs; whnf)) ?_
                  refine L.va rfl (X.assign (by conv => lhs; whnf)) ?_
                  refine L.nil ?_
                  refine J.region ?_
                  refine L.va rfl (X.move (by conv => lhs; whnf)) ?_
                  refine L.va rfl (X.add rfl rfl (by omega)) ?_
                  refine L.va rfl (X.assign (by conv => lhs; whnf)) ?_
                  refine L.nil ?_
                  -- loopend
                  refine ⟨(j + 1, x.l.contains (c : Int)), At2 (by first | rfl | exact at_int rfl (by omega) | exact at_slice rfl (by omega) | exact at_int rfl (by simp)) (by first | rfl | exact at_int rfl (by omega) | exact at_slice rfl (by omega) | exact at_int rfl (by simp)), (by (iterate 29 refine Agr.lk rfl ?_); exact Agr.lk rfl (Agr.hav rfl Agr.rfl')), ?_⟩
                  refine ⟨⟨by omega, ?_, he7⟩, by show f.n - (j + 1) < f.n - j; omega⟩
                  rw [hnk, Nrm.kp_next, ← hb, decide_eq_true hne]
                  rfl
            · obtain rfl : j = f.n := by omega
              rw [List.take_of_length_le (by omega)] at hb
              refine L.no rfl ?_
              refine L.va rfl (X.pickF rfl (by conv => lhs; whnf)) ?_
              refine L.nil ?_
              -- cond
              refine J.iteF rfl ?_
              refine J.exit ?_
              refine J.seq ?_
              refine J.region ?_
              refine L.va rfl (X.move (by conv => lhs; whnf)) ?_
              refine L.nil ?_
              -- cond
              cases b
              · refine J.iteF rfl ?_
                refine J.skip ?_
                refine J.region ?_
                refine L.va rfl (X.move (by conv => lhs; whnf)) ?_
                refine L.va rfl (X.add rfl rfl (by omega)) ?_
                refine L.va rfl (X.assign (by conv => lhs; whnf)) ?_
                refine L.nil ?_
                -- loopend
                refine ⟨(c + 1, cs), At1 (by first | rfl | exact at_int rfl (by omega) | exact at_slice rfl (by omega) | exact at_int rfl (by simp)), (by (iterate 12 refine Agr.lk rfl ?_); refine Agr.lk rfl ?_; refine Agr.hav rfl ?_; (iterate 10 refine Agr.lk rfl ?_); exact Agr.lk rfl (Agr.hav rfl Agr.rfl')), ?_⟩
                refine ⟨⟨by omega, ?_, hoc.ext he7, hk7, he6.trans he7⟩, by show szN s i - (c + 1) < szN s i - c; omega⟩
                rw [Nrm.sel_next, if_neg (by rw [← hb]; decide), List.append_nil]
                exact hcs
              · refine J.iteT rfl ?_
                refine J.region ?_
                refine L.va rfl (X.fieldAddr rfl Try.underlying150 rfl sz_23 (by decide)) ?_
                refine L.va rfl (X.load rfl sc_23 (by first | exact Ld.blk hk7 rfl | exact Ld.blk hk17 rfl | exact hA)) ?_
                refine L.va rfl (X.move (by conv => lhs; whnf)) ?_
                -- buildSlice
                refine L.bslice (vs := [_]) rfl (Evs.cons (by conv => lhs; whnf) Evs.nil) rfl rfl rfl rfl Try.underlying23 sz_3 zr_3 (by decide) ?_
                intro b8 w8 hb8 hs8 hk8 he8
                have hoX := (hoc.ext he7).ext he8
                have hkX := hk7.ext he8
                have he68 := (he6.trans he7).trans he8
                have z68 := he68.le
                -- append
                refine L.appendQ (q := cs.n + 1) (ys := cs.l ++ [(c : Int)]) rfl rfl rfl Try.underlying23 el_3 (hoX) ((blk_reads (q := 1) (l := nums .i64 [(c : Int)]) hk8 hk8.lt rfl)) (by omega) (by simp) (by unfold maxLen; omega) (by omega) ?_
                intro A9 c9 w9 ho9 hg9 hb9 hor9
                have hkY := hkX.grown hg9 (fun e ↦ own_blk_ne hoX hkX (by decide) e.symm)
                have he39 : Ext w3 w9 := he68.grw hg9 (fun g hg ↦ own_bot hoX g hg)
                refine L.va rfl (X.fieldAddr rfl Try.underlying150 rfl sz_23 (by decide)) ?_
                -- store
                refine L.store rfl rfl (by conv => lhs; whnf) rfl sz_23 (hkY) (by first | decide | exact Nat.le_of_ble_eq_true rfl) ?_
                intro wa hka hga hsa
                have hka : Blk wa b4 150 #[.int .i64 (i : Int), .slice A9 (cs.n + 1) c9] := hka
                refine L.nil ?_
                refine J.region ?_
                refine L.va rfl (X.move (by conv => lhs; whnf)) ?_
                refine L.va rfl (X.add rfl rfl (by omega)) ?_
                refine L.va rfl (X.assign (by conv => lhs; whnf)) ?_
                refine L.nil ?_
                -- loopend
                refine ⟨(c + 1, ⟨A9, cs.n + 1, c9, cs.l ++ [(c : Int)]⟩), At1 (by first | rfl | exact at_int rfl (by omega) | exact at_slice rfl (by omega) | exact at_int rfl (by simp)), (by (iterate 18 refine Agr.lk rfl ?_); refine Agr.lk rfl ?_; refine Agr.hav rfl ?_; (iterate 10 refine Agr.lk rfl ?_); exact Agr.lk rfl (Agr.hav rfl Agr.rfl')), ?_⟩
                refine ⟨⟨by omega, ?_, ho9.kept hga (.inr (fun e => own_blk_ne ho9 hkY (by decide) e)), hka, he39.grw hga (by intro g hg; injection hg with hg; omega)⟩, by show szN s i - (c + 1) < szN s i - c; omega⟩
                show cs.l ++ [(c : Int)] = _
                rw [Nrm.sel_next, if_pos hb.symm, hcs]
        · obtain rfl : c = szN s i := by rw [hn] at hlt2; omega
          have hnx : nrm ky 0 (szs s (i + 1)) = nrm ky 0 (szs s i) ++ nf ky i (szN s i) := by
            rw [szs_next, Nrm.nrm_snoc, szs_len, Nat.zero_add]
          have hrl := hr.l
          have hrn : r.n ≤ i := by
            have h1 := congrArg List.length hrk
            rw [List.length_map] at h1
            have h2 := Nrm.nrm_len ky (szs s i) 0
            rw [szs_len] at h2
            omega
          refine J.exit ?_
          refine J.seq ?_
          -- draw
          refine J.quiet mixed (by kernel_rfl) ?_
          refine Qt.va rfl (fun w' hw => X.fieldAddr rfl Try.underlying150 rfl sz_23 (by decide)) ?_
          refine Qt.va rfl (fun w' hw => X.load rfl sc_23 (by first | exact Ld.blk (hk16.ext hw) rfl | exact Ld.blk (hk6.ext hw) rfl | exact Ld.dimS (hd6.ext hw) (by omega) | exact Ld.dimN (hd6.ext hw) (by omega) | exact hA)) ?_
          refine Qt.va rfl (fun w' hw => X.len rfl Try.underlying23) ?_
          refine Qt.va rfl (fun w' hw => X.fieldAddr rfl Try.underlying49 rfl sz_45 (by decide)) ?_
          refine Qt.va rfl (fun w' hw => X.load rfl sc_45 (by first | exact Ld.blk (hk16.ext hw) rfl | exact Ld.blk (hk6.ext hw) rfl | exact Ld.dimS (hd6.ext hw) (by omega) | exact Ld.dimN (hd6.ext hw) (by omega) | exact hA)) ?_
          refine Qt.va rfl (fun w' hw => X.move (by conv => lhs; whnf)) ?_
          refine Qt.va rfl (fun w' hw => (by first | exact X.indexAddrn rfl rfl Try.underlying45 sz_128 (by first | exact Option.some_ne_none _ | exact hd6.some_ (by omega) | exact hA) (by omega) | exact X.indexAddr rfl rfl Try.underlying45 sz_128 (by first | exact Option.some_ne_none _ | exact hd6.some_ (by omega) | exact hA) (by omega))) ?_
          refine Qt.va rfl (fun w' hw => X.fieldP rfl Try.underlying128 rfl sz_3 (by decide) (by first | exact Option.some_ne_none _ | exact hd6.some_ (by omega) | exact hA)) ?_
          refine Qt.va rfl (fun w' hw => X.load rfl sc_3 (by first | exact Ld.blk (hk16.ext hw) rfl | exact Ld.blk (hk6.ext hw) rfl | exact Ld.dimS (hd6.ext hw) (by omega) | exact Ld.dimN (hd6.ext hw) (by omega) | exact hA)) ?_
          refine Qt.va rfl (fun w' hw => X.lss rfl rfl) ?_
          refine Qt.nil (fun w7 hq => ?_)
          replace hk16 := hk16.ext hq
          replace hk6 := hk6.ext hq
          replace hd6 := hd6.ext hq
          -- cond
          have hr7 := (hr.ext he6).ext hq
          have hoc7 := hoc.ext hq
          have he7 := he6.trans hq
          have hy7 := he3.trans he7
          have he07 := he03.trans he7
          have z7 := he07.le
          refine J.dec rfl (fun hlt3 => ?_) (fun hlt3 => ?_)
          · rw [hn] at hlt3
            refine J.region ?_
            refine L.va rfl (X.move (by conv => lhs; whnf)) ?_
            refine L.va rfl ((by first | exact X.loadAgg rfl (range_l hk16) Try.underlying150 rfl (by kernel_rfl) | exact X.loadAgg rfl (range_blk hk16) Try.underlying150 rfl (by kernel_rfl) | exact X.loadAgg rfl (range_l hk6) Try.underlying150 rfl (by kernel_rfl) | exact X.loadAgg rfl (range_blk hk6) Try.underlying150 rfl (by kernel_rfl))) ?_
            -- buildSlice
            refine L.bslice1 (l := [_, _]) rfl rfl rfl Try.underlying51 sz_150 zr_150 rfl ?_
            intro b8 w8 hb8 hs8 hk8 he8
            have hoX := hr7.o.ext he8
            have z18 := (hy7.trans he8).le
            -- append
            refine L.appendV (q := r.n + 1) (ys := ((r.l ++ [Fi.mk i cs.A cs.n cs.c cs.l]).flatMap Fi.vs)) rfl rfl rfl Try.underlying51 el_150 (hoX) ((blk_readsN (sz := 2) (q := 1) (l := (Fi.mk i cs.A cs.n cs.c cs.l).vs) hk8 hk8.lt rfl)) (by first | rfl | exact strs_ones _ | assumption) (by omega) (by simp) (by unfold maxLen; omega) (by omega) ?_
            intro A9 c9 w9 ho9 hg9 hb9 hor9
            refine L.va rfl (X.assign (by conv => lhs; whnf)) ?_
            refine L.nil ?_
            refine J.region ?_
            refine L.va rfl (X.move (by conv => lhs; whnf)) ?_
            refine L.va rfl (X.add rfl rfl (by omega)) ?_
            refine L.va rfl (X.assign (by conv => lhs; whnf)) ?_
            refine L.nil ?_
            -- loopend
            refine ⟨(i + 1, ⟨A9, r.n + 1, c9, r.l ++ [Fi.mk i cs.A cs.n cs.c cs.l]⟩), At2 (by first | rfl | exact at_int rfl (by omega) | exact at_slice rfl (by omega) | exact at_int rfl (by simp)) (by first | rfl | exact at_int rfl (by omega) | exact at_slice rfl (by omega) | exact at_int rfl (by simp)), (by (iterate 26 refine Agr.lk rfl ?_); refine Agr.lk rfl ?_; refine Agr.hav rfl ?_; (iterate 9 refine Agr.lk rfl ?_); exact Agr.lk rfl (Agr.hav rfl Agr.rfl')), ?_⟩
            refine ⟨⟨by omega, ⟨ho9, fun y hy => ?_, by show (r.l ++ [_]).length = r.n + 1; rw [List.length_append, hrl]; rfl⟩, ?_, (hy7.trans he8).low hb9 (Nat.le_refl _)⟩, by show s.nd - (i + 1) < s.nd - i; omega⟩
            · rcases List.mem_append.1 hy with hy | hy
              · exact World.ownsRow.kept (World.ownsRow.ext (hr7.h y hy) he8) hg9 (own_or (World.ownsRow.ext (hr7.h y hy) he8) hoX (by decide))
              · rw [List.mem_singleton] at hy
                subst hy
                exact own_lower ((hoc7.ext he8).kept hg9 (own_or (hoc7.ext he8) hoX (by decide))) y3
            · show (r.l ++ [Fi.mk i cs.A cs.n cs.c cs.l]).map Fi.key = _
              rw [List.map_append, hrk, hnx]
              congr 1
              unfold nf
              rw [← hcs, if_pos (by omega)]
              rfl
          · rw [hn] at hlt3
            refine J.skip ?_
            refine J.region ?_
            refine L.va rfl (X.move (by conv => lhs; whnf)) ?_
            refine L.va rfl (X.add rfl rfl (by omega)) ?_
            refine L.va rfl (X.assign (by conv => lhs; whnf)) ?_
            refine L.nil ?_
            -- loopend
            refine ⟨(i + 1, r), At2 (by first | rfl | exact at_int rfl (by omega) | exact at_slice rfl (by omega) | exact at_int rfl (by simp)) (by first | rfl | exact at_int rfl (by omega) | exact at_slice rfl (by omega) | exact at_int rfl (by simp)), (by (iterate 21 refine Agr.lk rfl ?_); refine Agr.lk rfl ?_; refine Agr.hav rfl ?_; (iterate 9 refine Agr.lk rfl ?_); exact Agr.lk rfl (Agr.hav rfl Agr.rfl')), ?_⟩
            refine ⟨⟨by omega, hr7, ?_, hy7⟩, by show s.nd - (i + 1) < s.nd - i; omega⟩
            rw [hnx]
            unfold nf
            rw [← hcs, if_neg (by omega), List.append_nil]
            exact hrk
    · obtain rfl : i = s.nd := by omega
      refine J.exit ?_
      refine J.seq ?_
      refine J.region ?_
      refine L.va rfl (X.move (by conv => lhs; whnf)) ?_
      refine L.va rfl (X.assign (by conv => lhs; whnf)) ?_
      refine L.nil ?_
      -- ret
      refine J.ret ?_
      refine fin1 ?_
      rw [eky] at hrk
      exact ⟨r, rfl, hr.lower z1, hrk, he03⟩
end Go.Proofs.Ytlipeplfjkgamaa
