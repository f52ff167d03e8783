import Derived.Test.YtjleobcbgldhmaaZOrderKeys1
/-
  What the law leans on, part 2: WRowC, WOrdA, WOrdB, WOrdC, WOrdD, WOrdE, WOrdF, WOrdG, HeapPlain, HeapK, TouPlain, TouPlainB, WHeapK, WTouA, WTouB, WTouC, WClone, WOrdH.
-/
namespace Go.Proofs.Ytjleobcbgldhmaa
set_option maxRecDepth 100000
open Go.RowKit H
open Flo
set_option linter.unusedVariables false
theorem rsame33 (a b : Rw) (w : World) (ha : a.At w.heap.size w) (hb : b.At w.heap.size w) : Calls Try.prog 12 #[a.val, b.val] w fun e w' => e = .returned (.bool (a.same b)) ∧ Ext w w' := by
  have la := ha.lc
  have lb := hb.lc
  have lva := ha.lv
  have lvb := hb.lv
  have m1 := ha.n1
  have m2 := ha.n2
  have m3 := hb.n1
  have m4 := hb.n2
  unfold maxLen at m1 m2 m3 m4
  refine enter Try.func12 rfl (by kernel_rfl) ?_
  refine J.seq ?_
  refine J.region ?_
  refine L.boxA (l := [_, _]) rfl rfl ?_
  intro b1 w1 hb1 hs1 hk1 he1
  refine L.boxA (l := [_, _]) rfl rfl ?_
  intro b2 w2 hb2 hs2 hk2 he2
  have hk12 := hk1.ext he2
  have he := he1.trans he2
  have z2 := he.le
  have ha2 := (ha.ext he).more he.le
  have hb2' := (hb.ext he).more he.le
  refine L.va rfl (X.assign (by conv => lhs; whnf)) ?_
  refine L.nil ?_
  refine J.seq ?_
  refine J.seq ?_
  refine J.region ?_
  refine L.va rfl (X.fieldAddr rfl Try.underlying26 rfl sz_23 (by decide)) ?_
  refine L.va rfl (X.load rfl sc_23 (by first | exact Ld.blk hk2 rfl | exact Ld.blk hk12 rfl)) ?_
  refine L.va rfl (X.len rfl Try.underlying23) ?_
  refine L.va rfl (X.fieldAddr rfl Try.underlying26 rfl sz_23 (by decide)) ?_
  refine L.va rfl (X.load rfl sc_23 (by first | exact Ld.blk hk2 rfl | exact Ld.blk hk12 rfl)) ?_
  refine L.va rfl (X.len rfl Try.underlying23) ?_
  refine L.va rfl (X.neq rfl rfl) ?_
  refine L.va rfl (X.move (by conv => lhs; whnf)) ?_
  refine L.caseNdec (k := 14) rfl (fun h1 => ?_) (fun h1 => ?_)
  · refine L.no rfl ?_
    refine L.no rfl ?_
    refine L.no rfl ?_
    refine L.no rfl ?_
    refine L.no rfl ?_
    refine L.no rfl ?_
    refine L.no rfl ?_
    refine L.va rfl (X.pickT rfl (by conv => lhs; whnf)) ?_
    refine L.nil ?_
    refine J.iteT rfl ?_
    have e : a.same b = false := by
      unfold Rw.same
      rw [Bool.and_eq_false_iff]
      first
        | exact .inl (eqL_len (by omega))
        | exact .inr (eqL_len (by omega))
    rw [e]
    refine J.seq ?_
    refine J.region ?_
    refine L.va rfl (X.assign (by conv => lhs; whnf)) ?_
    refine L.nil ?_
    refine J.ret ?_
    refine thn_ret <| ?_
    refine fin1 ?_
    exact ⟨rfl, he⟩
  refine L.va rfl (X.fieldAddr rfl Try.underlying26 rfl sz_24 (by decide)) ?_
  refine L.va rfl (X.load rfl sc_24 (by first | exact Ld.blk hk2 rfl | exact Ld.blk hk12 rfl)) ?_
  refine L.va rfl (X.len rfl Try.underlying24) ?_
  refine L.va rfl (X.fieldAddr rfl Try.underlying26 rfl sz_24 (by decide)) ?_
  refine L.va rfl (X.load rfl sc_24 (by first | exact Ld.blk hk2 rfl | exact Ld.blk hk12 rfl)) ?_
  refine L.va rfl (X.len rfl Try.underlying24) ?_
  refine L.va rfl (X.neq rfl rfl) ?_
  refine L.va rfl (X.pickF rfl (by conv => lhs; whnf)) ?_
  refine L.nil ?_
  refine J.ndec rfl (fun h2 => ?_) (fun h2 => ?_)
  · have e : a.same b = false := by
      unfold Rw.same
      rw [Bool.and_eq_false_iff]
      first
        | exact .inl (eqL_len (by omega))
        | exact .inr (eqL_len (by omega))
    rw [e]
    refine J.seq ?_
    refine J.region ?_
    refine L.va rfl (X.assign (by conv => lhs; whnf)) ?_
    refine L.nil ?_
    refine J.ret ?_
    refine thn_ret <| ?_
    refine fin1 ?_
    exact ⟨rfl, he⟩
  refine J.skip ?_
  refine J.seq ?_
  refine J.seq ?_
  refine J.region ?_
  refine L.va rfl (X.assign (by conv => lhs; whnf)) ?_
  refine L.nil ?_
  refine J.block ?_
  refine J.loop (X := Nat) [4, 5, 23, 24, 25, 26, 27, 28, 29, 30, 31, 32, 33, 34, 35, 36, 37, 38, 39, 40] (fun i => [(5, .int .i64 (i : Int))]) (fun i w' => i ≤ a.nc ∧ (∀ j, j < i → decide (a.c.getD j 0 = b.c.getD j 0) = true) ∧ Ext w2 w') (fun i => a.nc - i) (0) (At1 (by first | rfl | exact at_int rfl (by omega) | exact at_slice rfl (by omega) | exact at_int rfl (by simp))) ?_ ?_
  · exact ⟨by omega, fun j hj => absurd hj (by omega), Ext.refl _⟩
  · rintro i g w3 ⟨hi, hP, he3⟩
    have hk3 := hk2.ext he3
    have hk13 := hk12.ext he3
    have k1 := ha2.hc.ext he3
    have k2 := hb2'.hc.ext he3
    refine J.seq ?_
    refine J.seq ?_
    refine J.region ?_
    refine L.va rfl (X.move (by conv => lhs; whnf)) ?_
    refine L.va rfl (X.fieldAddr rfl Try.underlying26 rfl sz_23 (by decide)) ?_
    refine L.va rfl (X.load rfl sc_23 (by first | exact Ld.blk hk3 rfl | exact Ld.blk hk13 rfl | exact Ld.num k1 (by omega) | exact Ld.num k2 (by omega))) ?_
    refine L.va rfl (X.len rfl Try.underlying23) ?_
    refine L.va rfl (X.lss rfl rfl) ?_
    refine L.nil ?_
    refine J.dec rfl (fun hlt => ?_) (fun hlt => ?_)
    · have hA1 := k1.some_ (by omega)
      have hA2 := k2.some_ (by omega)
      refine J.skip ?_
      refine J.seq ?_
      refine J.block ?_
      refine J.seq ?_
      refine J.quiet mixed (by kernel_rfl) ?_
      refine Qt.va rfl (fun w' hw => X.fieldAddr rfl Try.underlying26 rfl sz_23 (by decide)) ?_
      refine Qt.va rfl (fun w' hw => X.load rfl sc_23 (by first | exact Ld.blk (hk3.ext hw) rfl | exact Ld.blk (hk13.ext hw) rfl | exact Ld.num (k1.ext hw) (by omega) | exact Ld.num (k2.ext hw) (by omega) | exact hA1 | exact hA2)) ?_
      refine Qt.va rfl (fun w' hw => X.move (by conv => lhs; whnf)) ?_
      refine Qt.va rfl (fun w' hw => (by first | exact X.index1n rfl rfl Try.underlying23 sz_3 (by first | exact Option.some_ne_none _ | exact k1.some_ (by omega) | exact k2.some_ (by omega) | exact hA1 | exact hA2) (by omega) | exact X.index1 rfl rfl Try.underlying23 sz_3 (by first | exact Option.some_ne_none _ | exact k1.some_ (by omega) | exact k2.some_ (by omega) | exact hA1 | exact hA2) (by omega))) ?_
      refine Qt.va rfl (fun w' hw => X.load rfl sc_3 (by first | exact Ld.blk (hk3.ext hw) rfl | exact Ld.blk (hk13.ext hw) rfl | exact Ld.num (k1.ext hw) (by omega) | exact Ld.num (k2.ext hw) (by omega) | exact hA1 | exact hA2)) ?_
      refine Qt.va rfl (fun w' hw => X.fieldAddr rfl Try.underlying26 rfl sz_23 (by decide)) ?_
      refine Qt.va rfl (fun w' hw => X.load rfl sc_23 (by first | exact Ld.blk (hk3.ext hw) rfl | exact Ld.blk (hk13.ext hw) rfl | exact Ld.num (k1.ext hw) (by omega) | exact Ld.num (k2.ext hw) (by omega) | exact hA1 | exact hA2)) ?_
      refine Qt.va rfl (fun w' hw => X.move (by conv => lhs; whnf)) ?_
      refine Qt.va rfl (fun w' hw => (by first | exact X.index1n rfl rfl Try.underlying23 sz_3 (by first | exact Option.some_ne_none _ | exact k1.some_ (by omega) | exact k2.some_ (by omega) | exact hA1 | exact hA2) (by omega) | exact X.index1 rfl rfl Try.underlying23 sz_3 (by first | exact Option.some_ne_none _ | exact k1.some_ (by omega) | exact k2.some_ (by omega) | exact hA1 | exact hA2) (by omega))) ?_
      refine Qt.va rfl (fun w' hw => X.load rfl sc_3 (by first | exact Ld.blk (hk3.ext hw) rfl | exact Ld.blk (hk13.ext hw) rfl | exact Ld.num (k1.ext hw) (by omega) | exact Ld.num (k2.ext hw) (by omega) | exact hA1 | exact hA2)) ?_
      refine Qt.va rfl (fun w' hw => X.neq rfl rfl) ?_
      refine Qt.nil (fun w4 hq => ?_)
      replace hk3 := hk3.ext hq
      replace hk13 := hk13.ext hq
      replace k1 := k1.ext hq
      replace k2 := k2.ext hq
      refine J.ndec rfl (fun hd => ?_) (fun hd => ?_)
      · have e : a.same b = false := by
          unfold Rw.same
          rw [show eqI a.c b.c = false from eqL_no (i := i) (by omega) (decide_eq_false hd)]; rfl
        rw [e]
        refine J.seq ?_
        refine J.region ?_
        refine L.va rfl (X.assign (by conv => lhs; whnf)) ?_
        refine L.nil ?_
        refine J.ret ?_
        refine inB_ret <|  thn_ret <|  thn_ret <|  inB_ret <|  thn_ret <| ?_
        refine fin1 ?_
        exact ⟨rfl, he.trans (he3.trans hq)⟩
      · skip
        refine J.skip ?_
        refine J.region ?_
        refine L.va rfl (X.move (by conv => lhs; whnf)) ?_
        refine L.va rfl (X.add rfl rfl (by omega)) ?_
        refine L.va rfl (X.assign (by conv => lhs; whnf)) ?_
        refine L.nil ?_
        refine ⟨i + 1, At1 (by first | rfl | exact at_int rfl (by omega) | exact at_slice rfl (by omega) | exact at_int rfl (by simp)), (by (iterate 19 refine Agr.lk rfl ?_); exact Agr.lk rfl (Agr.hav rfl Agr.rfl')), ?_⟩
        refine ⟨⟨by omega, fun j hj => ?_, he3.trans hq⟩, by omega⟩
        rcases Nat.lt_or_ge j i with h | h
        · exact hP j h
        · obtain rfl : j = i := by omega
          exact decide_eq_true hd
    · have eI : eqI a.c b.c = true := eqL_yes (by omega) (fun j hj => hP j (by omega))
      have e : a.same b = eqV a.v b.v := by unfold Rw.same; rw [eI, Bool.true_and]
      rw [e]
      refine J.exit ?_
      refine J.seq ?_
      refine J.seq ?_
      refine J.region ?_
      refine L.va rfl (X.assign (by conv => lhs; whnf)) ?_
      refine L.nil ?_
      refine J.block ?_
      refine J.loop (X := Nat) [4, 6, 41, 42, 43, 44, 45, 46, 47, 48, 49, 50, 51, 52, 53, 54, 55, 56, 57, 58, 59] (fun i => [(6, .int .i64 (i : Int))]) (fun i w' => i ≤ a.nv ∧ (∀ j, j < i → (a.v.getD j Vl.z).same (b.v.getD j Vl.z) = true) ∧ Ext w2 w') (fun i => a.nv - i) (0) (At1 (by first | rfl | exact at_int rfl (by omega) | exact at_slice rfl (by omega) | exact at_int rfl (by simp))) ?_ ?_
      · exact ⟨by omega, fun j hj => absurd hj (by omega), he3⟩
      · rintro j g w4 ⟨hj, hPv, he4⟩
        have hk4 := hk2.ext he4
        have hk14 := hk12.ext he4
        have k1 := ha2.hv.ext he4
        have k2 := hb2'.hv.ext he4
        refine J.seq ?_
        refine J.seq ?_
        refine J.region ?_
        refine L.va rfl (X.move (by conv => lhs; whnf)) ?_
        refine L.va rfl (X.fieldAddr rfl Try.underlying26 rfl sz_24 (by decide)) ?_
        refine L.va rfl (X.load rfl sc_24 (by first | exact Ld.blk hk4 rfl | exact Ld.blk hk14 rfl)) ?_
        refine L.va rfl (X.len rfl Try.underlying24) ?_
        refine L.va rfl (X.lss rfl rfl) ?_
        refine L.nil ?_
        refine J.dec rfl (fun hlt2 => ?_) (fun hlt2 => ?_)
        · have hA1 := k1.some_ (by omega)
          have hA2 := k2.some_ (by omega)
          refine J.skip ?_
          refine J.seq ?_
          refine J.block ?_
          refine J.seq ?_
          refine J.quiet mixed (by kernel_rfl) ?_
          refine Qt.va rfl (fun w' hw => X.fieldAddr rfl Try.underlying26 rfl sz_24 (by decide)) ?_
          refine Qt.va rfl (fun w' hw => X.load rfl sc_24 (by first | exact Ld.blk (hk4.ext hw) rfl | exact Ld.blk (hk14.ext hw) rfl | exact hA1 | exact hA2)) ?_
          refine Qt.va rfl (fun w' hw => X.move (by conv => lhs; whnf)) ?_
          refine Qt.va rfl (fun w' hw => (by first | exact X.indexAddrn rfl rfl Try.underlying24 sz_40 (by first | exact Option.some_ne_none _ | exact hA1 | exact hA2) (by omega) | exact X.indexAddr rfl rfl Try.underlying24 sz_40 (by first | exact Option.some_ne_none _ | exact hA1 | exact hA2) (by omega))) ?_
          refine Qt.va rfl (fun w' hw => X.loadRow (cs := (a.v.getD j Vl.z).vs) rfl (k1.ext hw) (fun r u hu => flat_row vs_len (gtV (by omega)) r u hu) (Nat.zero_lt_succ _) Try.underlying40 rfl (by kernel_rfl)) ?_
          refine Qt.va rfl (fun w' hw => X.fieldAddr rfl Try.underlying26 rfl sz_24 (by decide)) ?_
          refine Qt.va rfl (fun w' hw => X.load rfl sc_24 (by first | exact Ld.blk (hk4.ext hw) rfl | exact Ld.blk (hk14.ext hw) rfl | exact hA1 | exact hA2)) ?_
          refine Qt.va rfl (fun w' hw => X.move (by conv => lhs; whnf)) ?_
          refine Qt.va rfl (fun w' hw => (by first | exact X.indexAddrn rfl rfl Try.underlying24 sz_40 (by first | exact Option.some_ne_none _ | exact hA1 | exact hA2) (by omega) | exact X.indexAddr rfl rfl Try.underlying24 sz_40 (by first | exact Option.some_ne_none _ | exact hA1 | exact hA2) (by omega))) ?_
          refine Qt.va rfl (fun w' hw => X.loadRow (cs := (b.v.getD j Vl.z).vs) rfl (k2.ext hw) (fun r u hu => flat_row vs_len (gtV (by omega)) r u hu) (Nat.zero_lt_succ _) Try.underlying40 rfl (by kernel_rfl)) ?_
          refine Qt.call rfl en_25 rfl (fun w' hw => calls_ext hw (rsame32 (a.v.getD j Vl.z) (b.v.getD j Vl.z) w' (wfV_at ha.hw j) (wfV_at hb.hw j))) ?_
          refine Qt.va rfl (fun w' hw => X.not rfl) ?_
          refine Qt.nil (fun w5 hq => ?_)
          replace hk4 := hk4.ext hq
          replace hk14 := hk14.ext hq
          by_cases hd : (a.v.getD j Vl.z).same (b.v.getD j Vl.z) = true
          · rw [hd]
            refine J.iteF rfl ?_
            refine J.skip ?_
            refine J.region ?_
            refine L.va rfl (X.move (by conv => lhs; whnf)) ?_
            refine L.va rfl (X.add rfl rfl (by omega)) ?_
            refine L.va rfl (X.assign (by conv => lhs; whnf)) ?_
            refine L.nil ?_
            refine ⟨j + 1, At1 (by first | rfl | exact at_int rfl (by omega) | exact at_slice rfl (by omega) | exact at_int rfl (by simp)), (by (iterate 20 refine Agr.lk rfl ?_); exact Agr.lk rfl (Agr.hav rfl Agr.rfl')), ?_⟩
            refine ⟨⟨by omega, fun j' hj' => ?_, he4.trans hq⟩, by omega⟩
            rcases Nat.lt_or_ge j' j with h | h
            · exact hPv j' h
            · obtain rfl : j' = j := by omega
              exact hd
          · have hd : (a.v.getD j Vl.z).same (b.v.getD j Vl.z) = false := by simpa using hd
            rw [show eqV a.v b.v = false from eqL_no (i := j) (by omega) hd, hd]
            refine J.iteT rfl ?_
            refine J.seq ?_
            refine J.region ?_
            refine L.va rfl (X.assign (by conv => lhs; whnf)) ?_
            refine L.nil ?_
            refine J.ret ?_
            refine inB_ret <|  thn_ret <|  thn_ret <|  inB_ret <|  thn_ret <| ?_
            refine fin1 ?_
            exact ⟨rfl, he.trans (he4.trans hq)⟩
        · rw [show eqV a.v b.v = true from eqL_yes (by omega) (fun j hj => hPv j (by omega))]
          refine J.exit ?_
          refine J.seq ?_
          refine J.region ?_
          refine L.va rfl (X.assign (by conv => lhs; whnf)) ?_
          refine L.nil ?_
          refine J.ret ?_
          refine fin1 ?_
          exact ⟨rfl, he.trans he4⟩
structure Rws where
  (A : Option Addr) (n c : Nat) (l : List Rw)
namespace Rws
abbrev val (s : Rws) : Value := .slice s.A s.n s.c
structure At (s : Rws) (N : Nat) (w : World) : Prop where
  r : Reads w N 2 s.A s.n (s.l.flatMap Rw.vs)
  h : ∀ x ∈ s.l, x.At N w
  l : s.l.length = s.n
  m : s.n ≤ maxLen
theorem At.ext {s : Rws} {N : Nat} {w w' : World} (h : s.At N w) (he : Ext w w') : s.At N w' := ⟨h.r.ext he, fun x hx => (h.h x hx).ext he, h.l, h.m⟩
theorem At.more {s : Rws} {N N' : Nat} {w : World} (h : s.At N w) (hN : N ≤ N') : s.At N' w := ⟨h.r.more hN, fun x hx => (h.h x hx).more hN, h.l, h.m⟩
def Light (s : Rws) : Prop := s.n ≤ 60 ∧ ∀ x ∈ s.l, x.nc ≤ 20 ∧ x.nv ≤ 30
end Rws
theorem rw_len (r : Rw) : r.vs.length = 2 := rfl
def rw0 : Rw := ⟨none, 0, 0, [], none, 0, 0, []⟩
theorem gtR {l : List Rw} {i : Nat} (h : i < l.length) : l[i]? = some (l.getD i rw0) := by rw [List.getD, List.getElem?_eq_getElem h]; rfl
theorem memR {l : List Rw} {i : Nat} (h : i < l.length) : l.getD i rw0 ∈ l := by rw [List.getD, List.getElem?_eq_getElem h]; exact List.getElem_mem _
theorem light33 (s : Rws) (N : Nat) (w : World) (hs : s.At N w) : Calls Try.prog 4 #[s.val] w fun e w' => ∃ b, e = .returned (.bool b) ∧ (b = true → s.Light) ∧ Ext w w' := by
  have hl := hs.l
  have hm := hs.m
  unfold maxLen at hm
  refine enter Try.func4 rfl (by kernel_rfl) ?_
  refine J.seq ?_
  refine J.region ?_
  refine L.va rfl (X.assign (by conv => lhs; whnf)) ?_
  refine L.nil ?_
  refine J.seq ?_
  refine J.seq ?_
  refine J.region ?_
  refine L.va rfl (X.move (by conv => lhs; whnf)) ?_
  refine L.va rfl (X.len rfl Try.underlying28) ?_
  refine L.va rfl (X.gtr rfl rfl) ?_
  refine L.nil ?_
  refine J.dec rfl (fun h1 => ?_) (fun h1 => ?_)
  · refine J.seq ?_
    refine J.region ?_
    refine L.va rfl (X.assign (by conv => lhs; whnf)) ?_
    refine L.nil ?_
    refine J.ret ?_
    refine thn_ret <| ?_
    refine fin1 ?_
    exact ⟨false, rfl, (fun h => by cases h), Ext.refl _⟩
  · refine J.skip ?_
    refine J.seq ?_
    refine J.seq ?_
    refine J.region ?_
    refine L.va rfl (X.assign (by conv => lhs; whnf)) ?_
    refine L.nil ?_
    refine J.block ?_
    refine J.loop (X := Nat) [2, 3, 7, 8, 9, 10, 11, 12, 13, 14, 15, 16, 17, 18, 19, 20, 21, 22, 23, 24, 25, 26, 27, 28] (fun i => [(3, .int .i64 (i : Int))]) (fun i w' => i ≤ s.n ∧ (∀ j, j < i → (s.l.getD j rw0).nc ≤ 20 ∧ (s.l.getD j rw0).nv ≤ 30) ∧ Ext w w') (fun i => s.n - i) (0) (At1 (by first | rfl | exact at_int rfl (by omega) | exact at_slice rfl (by omega) | exact at_int rfl (by simp))) ?_ ?_
    · exact ⟨by omega, fun j hj => absurd hj (by omega), Ext.refl _⟩
    · rintro i g w2 ⟨hi, hP, he⟩
      have k := hs.r.ext he
      refine J.seq ?_
      refine J.seq ?_
      refine J.region ?_
      refine L.va rfl (X.move (by conv => lhs; whnf)) ?_
      refine L.va rfl (X.move (by conv => lhs; whnf)) ?_
      refine L.va rfl (X.len rfl Try.underlying28) ?_
      refine L.va rfl (X.lss rfl rfl) ?_
      refine L.nil ?_
      refine J.dec rfl (fun hlt => ?_) (fun hlt => ?_)
      · have hil : i < s.l.length := by omega
        have hA := k.some_ (by omega)
        refine J.skip ?_
        refine J.seq ?_
        refine J.block ?_
        refine J.seq ?_
        refine J.region ?_
        refine L.va rfl (X.move (by conv => lhs; whnf)) ?_
        refine L.va rfl (X.move (by conv => lhs; whnf)) ?_
        refine L.va rfl ((by first | exact X.indexAddrn rfl rfl Try.underlying28 sz_26 (by first | exact Option.some_ne_none _ | exact hA) (by omega) | exact X.indexAddr rfl rfl Try.underlying28 sz_26 (by first | exact Option.some_ne_none _ | exact hA) (by omega))) ?_
        refine L.va rfl (X.fieldP rfl Try.underlying26 rfl sz_23 (by decide) (by first | exact Option.some_ne_none _ | exact hA)) ?_
        refine L.va rfl (X.load rfl sc_23 (by first | exact hA | exact Ld.flat2 rw_len k (gtR hil) (r := 0) rfl | exact Ld.flat2 rw_len k (gtR hil) (r := 1) rfl)) ?_
        refine L.va rfl (X.len rfl Try.underlying23) ?_
        refine L.va rfl (X.gtr rfl rfl) ?_
        refine L.va rfl (X.move (by conv => lhs; whnf)) ?_
        refine L.caseDec (k := 20) rfl (fun h2 => ?_) (fun h2 => ?_)
        · refine L.no rfl ?_
          refine L.no rfl ?_
          refine L.no rfl ?_
          refine L.no rfl ?_
          refine L.no rfl ?_
          refine L.no rfl ?_
          refine L.no rfl ?_
          refine L.va rfl (X.pickT rfl (by conv => lhs; whnf)) ?_
          refine L.nil ?_
          refine J.iteT rfl ?_
          refine J.seq ?_
          refine J.region ?_
          refine L.va rfl (X.assign (by conv => lhs; whnf)) ?_
          refine L.nil ?_
          refine J.ret ?_
          refine inB_ret <|  thn_ret <|  thn_ret <|  inB_ret <|  thn_ret <| ?_
          refine fin1 ?_
          exact ⟨false, rfl, (fun h => by cases h), he⟩
        refine L.va rfl (X.move (by conv => lhs; whnf)) ?_
        refine L.va rfl (X.move (by conv => lhs; whnf)) ?_
        refine L.va rfl ((by first | exact X.indexAddrn rfl rfl Try.underlying28 sz_26 (by first | exact Option.some_ne_none _ | exact hA) (by omega) | exact X.indexAddr rfl rfl Try.underlying28 sz_26 (by first | exact Option.some_ne_none _ | exact hA) (by omega))) ?_
        refine L.va rfl (X.fieldP rfl Try.underlying26 rfl sz_24 (by decide) (by first | exact Option.some_ne_none _ | exact hA)) ?_
        refine L.va rfl (X.load rfl sc_24 (by first | exact hA | exact Ld.flat2 rw_len k (gtR hil) (r := 0) rfl | exact Ld.flat2 rw_len k (gtR hil) (r := 1) rfl)) ?_
        refine L.va rfl (X.len rfl Try.underlying24) ?_
        refine L.va rfl (X.gtr rfl rfl) ?_
        refine L.va rfl (X.pickF rfl (by conv => lhs; whnf)) ?_
        refine L.nil ?_
        refine J.dec rfl (fun h3 => ?_) (fun h3 => ?_)
        · refine J.seq ?_
          refine J.region ?_
          refine L.va rfl (X.assign (by conv => lhs; whnf)) ?_
          refine L.nil ?_
          refine J.ret ?_
          refine inB_ret <|  thn_ret <|  thn_ret <|  inB_ret <|  thn_ret <| ?_
          refine fin1 ?_
          exact ⟨false, rfl, (fun h => by cases h), he⟩
        refine J.skip ?_
        refine J.region ?_
        refine L.va rfl (X.move (by conv => lhs; whnf)) ?_
        refine L.va rfl (X.add rfl rfl (by omega)) ?_
        refine L.va rfl (X.assign (by conv => lhs; whnf)) ?_
        refine L.nil ?_
        refine ⟨i + 1, At1 (by first | rfl | exact at_int rfl (by omega) | exact at_slice rfl (by omega) | exact at_int rfl (by simp)), (by (iterate 24 refine Agr.lk rfl ?_); exact Agr.lk rfl (Agr.hav rfl Agr.rfl')), ?_⟩
        refine ⟨⟨by omega, fun j hj => ?_, he⟩, by omega⟩
        rcases Nat.lt_or_ge j i with h | h
        · exact hP j h
        · obtain rfl : j = i := by omega
          exact ⟨by omega, by omega⟩
      · refine J.exit ?_
        refine J.seq ?_
        refine J.region ?_
        refine L.va rfl (X.assign (by conv => lhs; whnf)) ?_
        refine L.nil ?_
        refine J.ret ?_
        refine fin1 ?_
        refine ⟨true, rfl, fun _ => ⟨by omega, fun x hx => ?_⟩, he⟩
        obtain ⟨j, hj, rfl⟩ := List.getElem_of_mem hx
        have := hP j (by omega)
        rwa [List.getD, List.getElem?_eq_getElem hj] at this
end Go.Proofs.Ytjleobcbgldhmaa
namespace Go.Proofs.Ytjleobcbgldhmaa
set_option maxRecDepth 100000
open Go.RowKit H
open Byts Cod Flo Odr
set_option linter.unusedVariables false
theorem keyF_lt {a b : Nat} (ha : ¬ nanF a) (hb : ¬ nanF b) : keyF a < keyF b ↔ ltF a b ∨ (eqF a b ∧ belowF a = true ∧ belowF b = false) := by
  have h1 := rg_lt a
  have h2 := rg_lt b
  unfold keyF belowF ltF eqF od
  rw [if_neg ha, if_neg hb, decide_eq_true ha, decide_eq_true hb]
  cases hs : sg a <;> cases ht : sg b <;> simp [ha, hb] <;> omega
theorem keyF_nan {a : Nat} (ha : nanF a) : keyF a = 18446744073709551615 := by unfold keyF; rw [if_pos ha]
theorem keyF_num {a : Nat} (ha : ¬ nanF a) : keyF a < 18446744073709551615 := by
  have h := rg_lt a
  have hi : inf = 9218868437227405312 := rfl
  have hx : rg a ≤ inf := Nat.not_lt.1 ha
  unfold keyF
  rw [if_neg ha]
  split <;> omega
def aheadV (a b : Vl) : Bool := if a.r ≠ b.r then !a.r else if a.r = true then decide (keyF a.x < keyF b.x) else decide (a.n < b.n)
def vC (v : Vl) : List Int := if v.r = true then 1 :: be 8 (keyF v.x) else 0 :: cI v.n
theorem vC_dif {a b : Vl} (h : aheadV a b = true) : Dif (vC a) (vC b) := by
  obtain ⟨ar, an, ax⟩ := a
  obtain ⟨br, bn, bx⟩ := b
  have k1 := keyF_bd ax
  have k2 := keyF_bd bx
  unfold aheadV at h
  unfold vC
  cases ar <;> cases br
  · exact Dif.cons (cI_dif (by simpa using h)) _
  · exact Dif.head (by decide) _ _
  · simp at h
  · exact Dif.cons (be_dif 8 _ _ k1.1 (by simpa using h) (by show keyF bx < _; rw [show (256 : Int) ^ 8 = 18446744073709551616 by decide]; omega)) _
theorem vC_same {a b : Vl} (h1 : aheadV a b = false) (h2 : aheadV b a = false) : vC a = vC b := by
  obtain ⟨ar, an, ax⟩ := a
  obtain ⟨br, bn, bx⟩ := b
  unfold aheadV at h1 h2
  unfold vC
  cases ar <;> cases br
  · simp at h1 h2
    have e : an = bn := by omega
    simp [e]
  · simp at h1
  · simp at h2
  · simp at h1 h2
    have e : keyF ax = keyF bx := by omega
    simp [e]
abbrev Or := List (Int × Bool)
def valAt (r : Rw) (c : Int) : Vl := if c < 0 ∨ (r.nv : Int) ≤ c then Vl.z else r.v.getD c.toNat Vl.z
def colC (r : Rw) (x : Int × Bool) : List Int := if x.2 = true then inv (vC (valAt r x.1)) else vC (valAt r x.1)
def keyO (o : Or) (r : Rw) : List Int := o.flatMap (colC r) ++ r.c.flatMap cI
def lessO : Or → Rw → Rw → Bool
  | [], a, b => lessL a.c b.c
  | x :: t, a, b => if aheadV (valAt a x.1) (valAt b x.1) = true ∨ aheadV (valAt b x.1) (valAt a x.1) = true then (aheadV (valAt a x.1) (valAt b x.1) != x.2) else lessO t a b
theorem less_key : ∀ (o : Or) (a b : Rw), lessB (keyO o a) (keyO o b) = lessO o a b
  | [], a, b => less_codes a.c b.c
  | (c, d) :: t, a, b => by
    have ih := less_key t a b
    unfold keyO at ih ⊢
    rw [List.flatMap_cons, List.flatMap_cons, List.append_assoc, List.append_assoc]
    unfold lessO
    dsimp only
    by_cases h1 : aheadV (valAt a c) (valAt b c) = true
    · rw [if_pos (.inl h1), h1]
      have hd := vC_dif h1
      cases d
      · exact (hd.app _ _).less
      · exact (hd.inv.app _ _).more
    · by_cases h2 : aheadV (valAt b c) (valAt a c) = true
      · rw [if_pos (.inr h2)]
        have h1 : aheadV (valAt a c) (valAt b c) = false := by simpa using h1
        rw [h1]
        have hd := vC_dif h2
        cases d
        · exact (hd.app _ _).more
        · exact (hd.inv.app _ _).less
      · rw [if_neg (fun h => h.elim h1 h2)]
        have e : colC a (c, d) = colC b (c, d) := by unfold colC; rw [vC_same (by simpa using h1) (by simpa using h2)]
        rw [e, lessB_same]
        exact ih
theorem ones64 (b : Nat) (hb : b < 2 ^ 64) : (2 ^ 64 - 1) ^^^ b = 2 ^ 64 - 1 - b := by
  refine Nat.eq_of_testBit_eq fun i => ?_
  rw [Nat.testBit_xor, Nat.testBit_two_pow_sub_one, show 2 ^ 64 - 1 - b = 2 ^ 64 - (b + 1) by omega, Nat.testBit_two_pow_sub_succ hb]
  by_cases h : i < 64
  · rw [decide_eq_true h]; cases b.testBit i <;> rfl
  · rw [decide_eq_false h, Nat.testBit_lt_two_pow (Nat.lt_of_lt_of_le hb (Nat.pow_le_pow_right (by decide) (by omega)))]; rfl
theorem compl64 {y : Int} (h0 : 0 ≤ y) (h1 : y ≤ 18446744073709551615) : bits .xor .u64 (if IntKind.u64.signed then -1 else IntKind.u64.max) y = 18446744073709551615 - y := by
  obtain ⟨b, rfl⟩ := Int.eq_ofNat_of_zero_le h0
  have h := u64_xor_nat 18446744073709551615 b (by decide) (by omega)
  have k := ones64 b (by omega)
  rw [show (18446744073709551615 : Nat) = 2 ^ 64 - 1 by decide, k] at h
  refine Eq.trans h ?_
  omega
theorem be_compl (n : Nat) (y : Int) (h : n ≤ 8) : be n (18446744073709551615 - y) = inv (be n y) := by
  refine be_inv n y _ ⟨256 ^ (8 - n), ?_⟩
  rw [← Int.pow_add, show 8 - n + n = 8 by omega]
  decide
namespace H
theorem X.complE {P : Program} {w : World} {ρ : Operand → Value} {d : Option Tmp} {t ty : TypeId} {x : Operand} {pos : String} {aft : Array Edge} {g : Option (Nat × Bool)} {k : IntKind} {m z : Int} (hx : ρ x = .int k m) (h : bits .xor k (if k.signed then -1 else k.max) m = z) : (execOp ρ ⟨d, .unOp .xor t x, ty, pos, aft, g⟩).run P w = .ok (.value (.int k z)) w := by
  rw [← h]; exact X.compl hx
theorem X.negE {P : Program} {w : World} {ρ : Operand → Value} {d : Option Tmp} {t ty : TypeId} {x : Operand} {pos : String} {aft : Array Edge} {g : Option (Nat × Bool)} {k : IntKind} {m z : Int} (hx : ρ x = .int k m) (h : k.wrap (0 - m) = z) : (execOp ρ ⟨d, .unOp .neg t x, ty, pos, aft, g⟩).run P w = .ok (.value (.int k z)) w := by
  rw [← h]; exact X.negw hx
end H
theorem code_I (z : Int) (w : World) (h0 : -9223372036854775808 ≤ z) (h1 : z ≤ 9223372036854775807) :
    Calls Try.prog 16 #[.int .i64 z] w fun e w' => ∃ A' c', e = .returned (.slice A' (cI z).length c') ∧ w'.ownsRow w.heap.size 5 1 (.slice A' (cI z).length c') (cI z).length (nums .u8 (cI z)) ∧ Ext w w' := by
  refine enter Try.func16 rfl (by kernel_rfl) ?_
  refine J.seq ?_
  refine J.region ?_
  refine L.va rfl (X.assign (by conv => lhs; whnf)) ?_
  refine L.nil ?_
  refine J.seq ?_
  refine J.seq ?_
  refine J.region ?_
  refine L.va rfl (X.move (by conv => lhs; whnf)) ?_
  refine L.va rfl (X.geq rfl rfl) ?_
  refine L.nil ?_
  refine J.dec rfl (fun hz => ?_) (fun hz => ?_)
  · have h8 := wd_le8 (x := z) (by omega) (by omega)
    have e : cI z = [9 + (wd z : Int)] ++ be (wd z) z := by unfold cI; rw [if_pos (by omega)]; rfl
    have el : (cI z).length = 1 + wd z := by rw [e]; simp [be_length]; omega
    rw [el, e]
    refine J.seq ?_
    refine J.region ?_
    refine L.va rfl (X.move (by conv => lhs; whnf)) ?_
    refine L.va rfl ((by first | exact X.convU rfl is_2 Try.underlying52 (by omega) | exact X.convw rfl is_2 Try.underlying52)) ?_
    refine L.call rfl en_31 rfl (code_wide z _ (by omega) (by omega)) ?_
    rintro e _ ⟨rfl, rfl⟩
    refine ⟨_, rfl, ?_⟩
    refine L.va rfl (X.assign (by conv => lhs; whnf)) ?_
    refine L.nil ?_
    refine J.seq ?_
    refine J.region ?_
    refine L.va rfl (X.move (by conv => lhs; whnf)) ?_
    refine L.va rfl (X.add rfl rfl (by omega)) ?_
    refine L.va rfl ((by first | exact X.conv8 rfl is_3 Try.underlying5 (by omega) | exact X.convw rfl is_3 Try.underlying5)) ?_
    refine L.bslice (vs := [_]) rfl (Evs.cons (by conv => lhs; whnf) Evs.nil) rfl rfl rfl rfl Try.underlying30 sz_5 zr_5 (by decide) ?_
    intro b1 w1 hb1 hs1 hk1 he1
    have ho := blk_own1 (l := nums .u8 [9 + (wd z : Int)]) (q := 1) hk1 (by omega : w.heap.size ≤ b1) (by decide) rfl
    refine L.va rfl (X.move (by conv => lhs; whnf)) ?_
    refine L.va rfl ((by first | exact X.convU rfl is_2 Try.underlying52 (by omega) | exact X.convw rfl is_2 Try.underlying52)) ?_
    refine L.va rfl (X.move (by conv => lhs; whnf)) ?_
    refine L.call rfl en_29 rfl (code_bytes w.heap.size _ 1 1 [9 + (wd z : Int)] z (wd z) _ ho (by omega) (by omega) h8 (by omega) (by omega)) ?_
    rintro e w2 ⟨A', c', rfl, ho2, hb2⟩
    refine ⟨_, rfl, ?_⟩
    have hb2 : Below w.heap.size w1 w2 := hb2
    refine L.va rfl (X.assign (by conv => lhs; whnf)) ?_
    refine L.nil ?_
    refine J.ret ?_
    refine thn_ret <| ?_
    refine fin1 ?_
    exact ⟨A', c', rfl, ho2, (he1.low hb2 (Nat.le_refl _))⟩
  · have h8 := wd_le8 (x := -(z + 1)) (by omega) (by omega)
    have e : cI z = [8 - (wd (-(z + 1)) : Int)] ++ inv (bz (-(z + 1))) := by unfold cI; rw [if_neg (by omega)]; rfl
    have el : (cI z).length = 1 + wd (-(z + 1)) := by rw [e]; simp [inv_length, bz_length]; omega
    rw [el, e]
    obtain ⟨y, hy⟩ : ∃ y, y = -(z + 1) := ⟨_, rfl⟩
    rw [← hy] at h8 ⊢
    refine J.skip ?_
    refine J.seq ?_
    refine J.region ?_
    refine L.va rfl (X.move (by conv => lhs; whnf)) ?_
    refine L.va rfl (X.add rfl rfl (by omega)) ?_
    refine L.va rfl (X.negE rfl (show IntKind.i64.wrap (0 - (z + 1)) = y by rw [w64 (by omega)]; omega)) ?_
    refine L.va rfl ((by first | exact X.convU rfl is_2 Try.underlying52 (by omega) | exact X.convw rfl is_2 Try.underlying52)) ?_
    refine L.va rfl (X.assign (by conv => lhs; whnf)) ?_
    refine L.nil ?_
    refine J.seq ?_
    refine J.region ?_
    refine L.va rfl (X.move (by conv => lhs; whnf)) ?_
    refine L.call rfl en_31 rfl (code_wide y _ (by omega) (by omega)) ?_
    rintro e _ ⟨rfl, rfl⟩
    refine ⟨_, rfl, ?_⟩
    refine L.va rfl (X.assign (by conv => lhs; whnf)) ?_
    refine L.nil ?_
    refine J.seq ?_
    refine J.region ?_
    refine L.va rfl (X.move (by conv => lhs; whnf)) ?_
    refine L.va rfl (X.sub rfl rfl (by omega)) ?_
    refine L.va rfl ((by first | exact X.conv8 rfl is_3 Try.underlying5 (by omega) | exact X.convw rfl is_3 Try.underlying5)) ?_
    refine L.bslice (vs := [_]) rfl (Evs.cons (by conv => lhs; whnf) Evs.nil) rfl rfl rfl rfl Try.underlying30 sz_5 zr_5 (by decide) ?_
    intro b1 w1 hb1 hs1 hk1 he1
    have ho := blk_own1 (l := nums .u8 [8 - (wd y : Int)]) (q := 1) hk1 (by omega : w.heap.size ≤ b1) (by decide) rfl
    refine L.va rfl (X.move (by conv => lhs; whnf)) ?_
    refine L.va rfl (X.complE rfl (compl64 (y := y) (by omega) (by omega))) ?_
    refine L.va rfl (X.move (by conv => lhs; whnf)) ?_
    refine L.call rfl en_29 rfl (code_bytes w.heap.size _ 1 1 [8 - (wd y : Int)] (18446744073709551615 - y) (wd y) _ ho (by omega) (by omega) h8 (by omega) (by omega)) ?_
    rintro e w2 ⟨A', c', rfl, ho2, hb2⟩
    refine ⟨_, rfl, ?_⟩
    have hb2 : Below w.heap.size w1 w2 := hb2
    rw [be_compl _ _ h8] at ho2
    refine L.va rfl (X.assign (by conv => lhs; whnf)) ?_
    refine L.nil ?_
    refine J.ret ?_
    refine fin1 ?_
    exact ⟨A', c', rfl, ho2, (he1.low hb2 (Nat.le_refl _))⟩
theorem code_F (x : Nat) (w : World) (hx : x < 18446744073709551616) :
    Calls Try.prog 15 #[.float .f64 x] w fun e w' => ∃ A' c', e = .returned (.slice A' 8 c') ∧ w'.ownsRow w.heap.size 5 1 (.slice A' 8 c') 8 (nums .u8 (be 8 (keyF x))) ∧ Ext w w' := by
  have k := keyF_bd x
  refine enter Try.func15 rfl (by kernel_rfl) ?_
  refine J.seq ?_
  refine J.region ?_
  refine L.va rfl (X.assign (by conv => lhs; whnf)) ?_
  refine L.nil ?_
  refine J.seq ?_
  refine J.region ?_
  refine L.va rfl (X.move (by conv => lhs; whnf)) ?_
  refine L.call rfl en_30 rfl (flo_key x w hx) ?_
  rintro e _ ⟨rfl, rfl⟩
  refine ⟨_, rfl, ?_⟩
  refine L.call rfl en_29 rfl (code_bytes w.heap.size none 0 0 [] (keyF x) 8 w (own_nil _ _ _ _) (Nat.le_refl _) (by decide) (by decide) k.1 k.2) ?_
  rintro e w2 ⟨A', c', rfl, ho2, hb2⟩
  refine ⟨_, rfl, ?_⟩
  have hb2 : Below w.heap.size w w2 := hb2
  have ho2 : w2.ownsRow w.heap.size 5 1 (.slice A' 8 c') 8 (nums .u8 (be 8 (keyF x))) := ho2
  refine L.va rfl (X.assign (by conv => lhs; whnf)) ?_
  refine L.nil ?_
  refine J.ret ?_
  refine fin1 ?_
  exact ⟨A', c', rfl, ho2, hb2⟩
end Go.Proofs.Ytjleobcbgldhmaa
namespace Go.Proofs.Ytjleobcbgldhmaa
set_option maxRecDepth 100000
open Go.RowKit H
open Byts Cod Flo Odr
set_option linter.unusedVariables false
theorem oval (r : Rw) (c : Int) (w : World) (hr : r.At w.heap.size w) : Calls Try.prog 14 #[r.val, .int .i64 c] w fun e w' => e = .returned (valAt r c).val ∧ Ext w w' := by
  have hl := hr.lv
  have hm := hr.n2
  unfold maxLen at hm
  refine enter Try.func14 rfl (by kernel_rfl) ?_
  refine J.seq ?_
  refine J.region ?_
  refine L.boxA (l := [_, _]) rfl rfl ?_
  intro b1 w1 hb1 hs1 hk1 he1
  refine L.alloc rfl zr_40 ?_
  intro b2 w2 hb2 hs2 hk2 he2
  have hk12 := hk1.ext he2
  have he02 := he1.trans he2
  have hk12 : Blk w2 b1 26 r.vs.toArray := hk12
  refine L.nil ?_
  refine J.seq ?_
  refine J.seq ?_
  refine J.region ?_
  refine L.va rfl (X.move (by conv => lhs; whnf)) ?_
  refine L.va rfl (X.lss rfl rfl) ?_
  refine L.va rfl (X.move (by conv => lhs; whnf)) ?_
  refine L.caseDec (k := 7) rfl (fun h1 => ?_) (fun h1 => ?_)
  · have e : valAt r c = Vl.z := by unfold valAt; rw [if_pos (.inl h1)]
    rw [e]
    refine L.no rfl ?_
    refine L.no rfl ?_
    refine L.no rfl ?_
    refine L.no rfl ?_
    refine L.no rfl ?_
    refine L.va rfl (X.pickT rfl (by conv => lhs; whnf)) ?_
    refine L.nil ?_
    refine J.iteT rfl ?_
    refine J.seq ?_
    refine J.region ?_
    refine L.va rfl (X.build (l := [_, _, _]) Evs.nil (bld_run Try.underlying40 (bp_40 Try.underlying40) zr_40 rfl)) ?_
    refine L.storeAgg (vs := [_, _, _]) rfl rfl rfl rfl sz_40 (hk2) rfl ?_
    intro w3 hk3 hg3 hs3
    have he03 : Ext w w3 := he02.grw hg3 (by intro g hg; injection hg with hg; omega)
    have hk3 : Blk w3 b2 40 Vl.z.vs.toArray := hk3
    refine L.nil ?_
    refine J.ret ?_
    refine thn_ret <| ?_
    refine finC rfl (run_cell hk3 Try.underlying40 rfl (by kernel_rfl)) ?_
    exact ⟨rfl, he03⟩
  · refine L.va rfl (X.move (by conv => lhs; whnf)) ?_
    refine L.va rfl (X.fieldAddr rfl Try.underlying26 rfl sz_24 (by decide)) ?_
    refine L.va rfl (X.load rfl sc_24 (by first | exact Ld.blk hk12 rfl)) ?_
    refine L.va rfl (X.len rfl Try.underlying24) ?_
    refine L.va rfl (X.geq rfl rfl) ?_
    refine L.va rfl (X.pickF rfl (by conv => lhs; whnf)) ?_
    refine L.nil ?_
    refine J.dec rfl (fun h2 => ?_) (fun h2 => ?_)
    · have e : valAt r c = Vl.z := by unfold valAt; rw [if_pos (.inr (by omega))]
      rw [e]
      refine J.seq ?_
      refine J.region ?_
      refine L.va rfl (X.build (l := [_, _, _]) Evs.nil (bld_run Try.underlying40 (bp_40 Try.underlying40) zr_40 rfl)) ?_
      refine L.storeAgg (vs := [_, _, _]) rfl rfl rfl rfl sz_40 (hk2) rfl ?_
      intro w3 hk3 hg3 hs3
      have he03 : Ext w w3 := he02.grw hg3 (by intro g hg; injection hg with hg; omega)
      have hk3 : Blk w3 b2 40 Vl.z.vs.toArray := hk3
      refine L.nil ?_
      refine J.ret ?_
      refine thn_ret <| ?_
      refine finC rfl (run_cell hk3 Try.underlying40 rfl (by kernel_rfl)) ?_
      exact ⟨rfl, he03⟩
    · obtain ⟨i, rfl⟩ := Int.eq_ofNat_of_zero_le (show 0 ≤ c by omega)
      have hin : i < r.nv := by omega
      have e : valAt r (i : Int) = r.v.getD i Vl.z := by unfold valAt; rw [if_neg (by omega), Int.toNat_natCast]
      have hv := hr.hv.ext he02
      have hA := hv.some_ (by omega)
      rw [e]
      obtain ⟨x, hx⟩ : ∃ x, x = r.v.getD i Vl.z := ⟨_, rfl⟩
      have hgt := gtV (l := r.v) (i := i) (by omega)
      rw [← hx] at hgt ⊢
      refine J.skip ?_
      refine J.seq ?_
      refine J.region ?_
      refine L.va rfl (X.fieldAddr rfl Try.underlying26 rfl sz_24 (by decide)) ?_
      refine L.va rfl (X.load rfl sc_24 (by first | exact Ld.blk hk12 rfl | exact hA)) ?_
      refine L.va rfl (X.move (by conv => lhs; whnf)) ?_
      refine L.va rfl ((by first | exact X.indexAddrn rfl rfl Try.underlying24 sz_40 (by first | exact Option.some_ne_none _ | exact hA) (by omega) | exact X.indexAddr rfl rfl Try.underlying24 sz_40 (by first | exact Option.some_ne_none _ | exact hA) (by omega))) ?_
      refine L.va rfl (X.loadRow (cs := x.vs) rfl hv (fun r u hu => flat_row vs_len hgt r u hu) (Nat.zero_lt_succ _) Try.underlying40 rfl (by kernel_rfl)) ?_
      refine L.storeAgg (vs := [_, _, _]) rfl rfl rfl rfl sz_40 (hk2) rfl ?_
      intro w3 hk3 hg3 hs3
      have he03 : Ext w w3 := he02.grw hg3 (by intro g hg; injection hg with hg; omega)
      have hk3 : Blk w3 b2 40 x.vs.toArray := hk3
      refine L.nil ?_
      refine J.ret ?_
      refine finC rfl (run_cell hk3 Try.underlying40 rfl (by kernel_rfl)) ?_
      exact ⟨rfl, he03⟩
theorem rval (r : Rw) (c : Int) (w : World) (hr : r.At w.heap.size w) : Calls Try.prog 17 #[r.val, .int .i64 c] w fun e w' => e = .returned (valAt r c).val ∧ Ext w w' := by
  have hl := hr.lv
  have hm := hr.n2
  unfold maxLen at hm
  refine enter Try.func17 rfl (by kernel_rfl) ?_
  refine J.seq ?_
  refine J.region ?_
  refine L.boxA (l := [_, _]) rfl rfl ?_
  intro b1 w1 hb1 hs1 hk1 he1
  refine L.alloc rfl zr_40 ?_
  intro b2 w2 hb2 hs2 hk2 he2
  have hk12 := hk1.ext he2
  have he02 := he1.trans he2
  have hk12 : Blk w2 b1 26 r.vs.toArray := hk12
  refine L.nil ?_
  refine J.seq ?_
  refine J.seq ?_
  refine J.region ?_
  refine L.va rfl (X.move (by conv => lhs; whnf)) ?_
  refine L.va rfl (X.lss rfl rfl) ?_
  refine L.va rfl (X.move (by conv => lhs; whnf)) ?_
  refine L.caseDec (k := 7) rfl (fun h1 => ?_) (fun h1 => ?_)
  · have e : valAt r c = Vl.z := by unfold valAt; rw [if_pos (.inl h1)]
    rw [e]
    refine L.no rfl ?_
    refine L.no rfl ?_
    refine L.no rfl ?_
    refine L.no rfl ?_
    refine L.no rfl ?_
    refine L.va rfl (X.pickT rfl (by conv => lhs; whnf)) ?_
    refine L.nil ?_
    refine J.iteT rfl ?_
    refine J.seq ?_
    refine J.region ?_
    refine L.va rfl (X.build (l := [_, _, _]) Evs.nil (bld_run Try.underlying40 (bp_40 Try.underlying40) zr_40 rfl)) ?_
    refine L.storeAgg (vs := [_, _, _]) rfl rfl rfl rfl sz_40 (hk2) rfl ?_
    intro w3 hk3 hg3 hs3
    have he03 : Ext w w3 := he02.grw hg3 (by intro g hg; injection hg with hg; omega)
    have hk3 : Blk w3 b2 40 Vl.z.vs.toArray := hk3
    refine L.nil ?_
    refine J.ret ?_
    refine thn_ret <| ?_
    refine finC rfl (run_cell hk3 Try.underlying40 rfl (by kernel_rfl)) ?_
    exact ⟨rfl, he03⟩
  · refine L.va rfl (X.move (by conv => lhs; whnf)) ?_
    refine L.va rfl (X.fieldAddr rfl Try.underlying26 rfl sz_24 (by decide)) ?_
    refine L.va rfl (X.load rfl sc_24 (by first | exact Ld.blk hk12 rfl)) ?_
    refine L.va rfl (X.len rfl Try.underlying24) ?_
    refine L.va rfl (X.geq rfl rfl) ?_
    refine L.va rfl (X.pickF rfl (by conv => lhs; whnf)) ?_
    refine L.nil ?_
    refine J.dec rfl (fun h2 => ?_) (fun h2 => ?_)
    · have e : valAt r c = Vl.z := by unfold valAt; rw [if_pos (.inr (by omega))]
      rw [e]
      refine J.seq ?_
      refine J.region ?_
      refine L.va rfl (X.build (l := [_, _, _]) Evs.nil (bld_run Try.underlying40 (bp_40 Try.underlying40) zr_40 rfl)) ?_
      refine L.storeAgg (vs := [_, _, _]) rfl rfl rfl rfl sz_40 (hk2) rfl ?_
      intro w3 hk3 hg3 hs3
      have he03 : Ext w w3 := he02.grw hg3 (by intro g hg; injection hg with hg; omega)
      have hk3 : Blk w3 b2 40 Vl.z.vs.toArray := hk3
      refine L.nil ?_
      refine J.ret ?_
      refine thn_ret <| ?_
      refine finC rfl (run_cell hk3 Try.underlying40 rfl (by kernel_rfl)) ?_
      exact ⟨rfl, he03⟩
    · obtain ⟨i, rfl⟩ := Int.eq_ofNat_of_zero_le (show 0 ≤ c by omega)
      have hin : i < r.nv := by omega
      have e : valAt r (i : Int) = r.v.getD i Vl.z := by unfold valAt; rw [if_neg (by omega), Int.toNat_natCast]
      have hv := hr.hv.ext he02
      have hA := hv.some_ (by omega)
      rw [e]
      obtain ⟨x, hx⟩ : ∃ x, x = r.v.getD i Vl.z := ⟨_, rfl⟩
      have hgt := gtV (l := r.v) (i := i) (by omega)
      rw [← hx] at hgt ⊢
      refine J.skip ?_
      refine J.seq ?_
      refine J.region ?_
      refine L.va rfl (X.fieldAddr rfl Try.underlying26 rfl sz_24 (by decide)) ?_
      refine L.va rfl (X.load rfl sc_24 (by first | exact Ld.blk hk12 rfl | exact hA)) ?_
      refine L.va rfl (X.move (by conv => lhs; whnf)) ?_
      refine L.va rfl ((by first | exact X.indexAddrn rfl rfl Try.underlying24 sz_40 (by first | exact Option.some_ne_none _ | exact hA) (by omega) | exact X.indexAddr rfl rfl Try.underlying24 sz_40 (by first | exact Option.some_ne_none _ | exact hA) (by omega))) ?_
      refine L.va rfl (X.loadRow (cs := x.vs) rfl hv (fun r u hu => flat_row vs_len hgt r u hu) (Nat.zero_lt_succ _) Try.underlying40 rfl (by kernel_rfl)) ?_
      refine L.storeAgg (vs := [_, _, _]) rfl rfl rfl rfl sz_40 (hk2) rfl ?_
      intro w3 hk3 hg3 hs3
      have he03 : Ext w w3 := he02.grw hg3 (by intro g hg; injection hg with hg; omega)
      have hk3 : Blk w3 b2 40 x.vs.toArray := hk3
      refine L.nil ?_
      refine J.ret ?_
      refine finC rfl (run_cell hk3 Try.underlying40 rfl (by kernel_rfl)) ?_
      exact ⟨rfl, he03⟩
end Go.Proofs.Ytjleobcbgldhmaa
namespace Go.Proofs.Ytjleobcbgldhmaa
set_option maxRecDepth 100000
open Go.RowKit H
open Byts Cod Flo Odr
set_option linter.unusedVariables false
theorem less03 (a b : Nat) (w : World) (ha : a < 18446744073709551616) (hb : b < 18446744073709551616) : Calls Try.prog 32 #[.float .f64 a, .float .f64 b] w fun e w' => e = .returned (.bool (decide (keyF a < keyF b))) ∧ Ext w w' := by
  have k1 := (keyF_bd a).2
  have k2 := (keyF_bd b).2
  refine enter Try.func32 rfl (by kernel_rfl) ?_
  refine J.seq ?_
  refine J.region ?_
  refine L.va rfl (X.assign (by conv => lhs; whnf)) ?_
  refine L.nil ?_
  refine J.seq ?_
  refine J.seq ?_
  refine J.region ?_
  refine L.va rfl (X.move (by conv => lhs; whnf)) ?_
  refine L.call rfl en_44 rfl (kind03 a w) ?_
  rintro e w1 ⟨rfl, he1⟩
  refine ⟨_, rfl, ?_⟩
  refine L.va rfl (X.eql rfl rfl) ?_
  refine L.va rfl (X.move (by conv => lhs; whnf)) ?_
  refine L.caseDec (k := 8) rfl (fun h1 => ?_) (fun h1 => ?_)
  · rw [kind3] at h1
    rw [decide_eq_false (by rw [keyF_nan h1]; omega)]
    refine L.no rfl ?_
    refine L.no rfl ?_
    refine L.no rfl ?_
    refine L.va rfl (X.pickT rfl (by conv => lhs; whnf)) ?_
    refine L.nil ?_
    refine J.iteT rfl ?_
    refine J.seq ?_
    refine J.region ?_
    refine L.va rfl (X.move (by conv => lhs; whnf)) ?_
    refine L.call rfl en_44 rfl (kind03 a w1) ?_
    rintro e w2 ⟨rfl, he2⟩
    refine ⟨_, rfl, ?_⟩
    rw [(kind3 a).2 h1]
    refine L.va rfl (X.neq rfl rfl) ?_
    refine L.va rfl (X.assign (by conv => lhs; whnf)) ?_
    refine L.nil ?_
    refine J.ret ?_
    refine thn_ret <| ?_
    refine fin1 ?_
    exact ⟨rfl, he1.trans he2⟩
  · refine L.va rfl (X.move (by conv => lhs; whnf)) ?_
    refine L.call rfl en_44 rfl (kind03 b w1) ?_
    rintro e w2 ⟨rfl, he2⟩
    refine ⟨_, rfl, ?_⟩
    have hna : ¬ nanF a := fun h => h1 ((kind3 a).2 h)
    refine L.va rfl (X.eql rfl rfl) ?_
    refine L.va rfl (X.pickF rfl (by conv => lhs; whnf)) ?_
    refine L.nil ?_
    refine J.dec rfl (fun h2 => ?_) (fun h2 => ?_)
    · rw [kind3] at h2
      rw [decide_eq_true (by rw [keyF_nan h2]; exact keyF_num hna)]
      refine J.seq ?_
      refine J.region ?_
      refine L.va rfl (X.move (by conv => lhs; whnf)) ?_
      refine L.call rfl en_44 rfl (kind03 a w2) ?_
      rintro e w3 ⟨rfl, he3⟩
      refine ⟨_, rfl, ?_⟩
      have hd : decide (kindF a = 3) = false := decide_eq_false h1
      obtain ⟨kk, hkk⟩ : ∃ kk, kk = kindF a := ⟨_, rfl⟩
      rw [← hkk] at hd ⊢
      refine L.va rfl (X.neq rfl rfl) ?_
      refine L.va rfl (X.assign (by conv => lhs; whnf)) ?_
      refine L.nil ?_
      refine J.ret ?_
      refine thn_ret <| ?_
      refine fin1 ?_
      exact ⟨by show Ending.returned (.bool !decide (kk = 3)) = _; rw [hd]; rfl, (he1.trans he2).trans he3⟩
    · rw [kind3] at h2
      have hl := keyF_lt hna h2
      refine J.skip ?_
      refine J.seq ?_
      refine J.region ?_
      refine L.va rfl (X.move (by conv => lhs; whnf)) ?_
      refine L.va rfl (X.move (by conv => lhs; whnf)) ?_
      refine L.va rfl (X.lssF rfl rfl) ?_
      refine L.va rfl (X.move (by conv => lhs; whnf)) ?_
      refine L.caseDec (k := 19) rfl (fun h3 => ?_) (fun h3 => ?_)
      · rw [decide_eq_true (hl.2 (.inl h3))]
        refine L.no rfl ?_
        refine L.no rfl ?_
        refine L.no rfl ?_
        refine L.no rfl ?_
        refine L.no rfl ?_
        refine L.no rfl ?_
        refine L.no rfl ?_
        refine L.no rfl ?_
        refine L.no rfl ?_
        refine L.no rfl ?_
        refine L.no rfl ?_
        refine L.no rfl ?_
        refine L.va rfl (X.pickT rfl (by conv => lhs; whnf)) ?_
        refine L.va rfl (X.assign (by conv => lhs; whnf)) ?_
        refine L.nil ?_
        refine J.ret ?_
        refine fin1 ?_
        exact ⟨rfl, he1.trans he2⟩
      · refine L.va rfl (X.move (by conv => lhs; whnf)) ?_
        refine L.va rfl (X.move (by conv => lhs; whnf)) ?_
        refine L.va rfl (X.eqlF rfl rfl) ?_
        refine L.va rfl (X.move (by conv => lhs; whnf)) ?_
        refine L.caseDec (k := 23) rfl (fun h4 => ?_) (fun h4 => ?_)
        · refine L.va rfl (X.move (by conv => lhs; whnf)) ?_
          refine L.call rfl en_45 rfl (below03 a w2 ha) ?_
          rintro e _ ⟨rfl, rfl⟩
          refine ⟨_, rfl, ?_⟩
          refine L.va rfl (X.pickT rfl (by conv => lhs; whnf)) ?_
          refine L.va rfl (X.move (by conv => lhs; whnf)) ?_
          by_cases h5 : belowF a = true
          · rw [h5]
            refine L.caseBT (k := 27) rfl (by rfl) ?_
            refine L.va rfl (X.move (by conv => lhs; whnf)) ?_
            refine L.call rfl en_45 rfl (below03 b w2 hb) ?_
            rintro e _ ⟨rfl, rfl⟩
            refine ⟨_, rfl, ?_⟩
            refine L.va rfl (X.not rfl) ?_
            refine L.va rfl (X.pickT rfl (by conv => lhs; whnf)) ?_
            refine L.va rfl (X.pickF rfl (by conv => lhs; whnf)) ?_
            refine L.va rfl (X.assign (by conv => lhs; whnf)) ?_
            refine L.nil ?_
            refine J.ret ?_
            refine fin1 ?_
            refine ⟨?_, he1.trans he2⟩
            cases h6 : belowF b
            · rw [decide_eq_true (hl.2 (.inr ⟨h4, h5, h6⟩))]; rfl
            · rw [decide_eq_false (fun h => (hl.1 h).elim h3 (fun k => by rw [h6] at k; cases k.2.2))]; rfl
          · have h5 : belowF a = false := by simpa using h5
            rw [h5, decide_eq_false (fun h => (hl.1 h).elim h3 (fun k => by rw [h5] at k; cases k.2.1))]
            refine L.caseBF (k := 27) rfl (by rfl) ?_
            refine L.no rfl ?_
            refine L.no rfl ?_
            refine L.no rfl ?_
            refine L.va rfl (X.pickF rfl (by conv => lhs; whnf)) ?_
            refine L.va rfl (X.pickF rfl (by conv => lhs; whnf)) ?_
            refine L.va rfl (X.assign (by conv => lhs; whnf)) ?_
            refine L.nil ?_
            refine J.ret ?_
            refine fin1 ?_
            exact ⟨rfl, he1.trans he2⟩
        · rw [decide_eq_false (fun h => (hl.1 h).elim h3 (fun k => h4 k.1))]
          refine L.no rfl ?_
          refine L.no rfl ?_
          refine L.va rfl (X.pickF rfl (by conv => lhs; whnf)) ?_
          refine L.va rfl (X.move (by conv => lhs; whnf)) ?_
          refine L.no rfl ?_
          refine L.no rfl ?_
          refine L.no rfl ?_
          refine L.va rfl (X.pickF rfl (by conv => lhs; whnf)) ?_
          refine L.va rfl (X.pickF rfl (by conv => lhs; whnf)) ?_
          refine L.va rfl (X.assign (by conv => lhs; whnf)) ?_
          refine L.nil ?_
          refine J.ret ?_
          refine fin1 ?_
          exact ⟨rfl, he1.trans he2⟩
theorem ahead33 (a b : Vl) (w : World) (ha : a.x < 18446744073709551616) (hb : b.x < 18446744073709551616) : Calls Try.prog 18 #[a.val, b.val] w fun e w' => e = .returned (.bool (aheadV a b)) ∧ Ext w w' := by
  obtain ⟨ar, an, ax⟩ := a
  obtain ⟨br, bn, bx⟩ := b
  dsimp only at ha hb
  refine enter Try.func18 rfl (by kernel_rfl) ?_
  refine J.seq ?_
  refine J.region ?_
  refine L.boxA (l := [_, _, _]) rfl rfl ?_
  intro b1 w1 hb1 hs1 hk1 he1
  refine L.boxA (l := [_, _, _]) rfl rfl ?_
  intro b2 w2 hb2 hs2 hk2 he2
  have hk12 := hk1.ext he2
  have he := he1.trans he2
  have hc : (ar = true ∧ br = true) ∨ (ar = false ∧ br = false) ∨ (ar = true ∧ br = false) ∨ (ar = false ∧ br = true) := by cases ar <;> cases br <;> simp
  rcases hc with ⟨rfl, rfl⟩ | ⟨rfl, rfl⟩ | ⟨rfl, rfl⟩ | ⟨rfl, rfl⟩
  · refine L.va rfl (X.assign (by conv => lhs; whnf)) ?_
    refine L.nil ?_
    refine J.seq ?_
    refine J.seq ?_
    refine J.region ?_
    refine L.va rfl (X.fieldAddr rfl Try.underlying40 rfl sz_4 (by decide)) ?_
    refine L.va rfl (X.load rfl sc_4 (by first | exact Ld.blk hk2 rfl | exact Ld.blk hk12 rfl)) ?_
    refine L.va rfl (X.fieldAddr rfl Try.underlying40 rfl sz_4 (by decide)) ?_
    refine L.va rfl (X.load rfl sc_4 (by first | exact Ld.blk hk2 rfl | exact Ld.blk hk12 rfl)) ?_
    refine L.va rfl (X.neqB rfl rfl Try.underlying4) ?_
    refine L.nil ?_
    refine J.iteF rfl ?_
    refine J.skip ?_
    refine J.seq ?_
    refine J.seq ?_
    refine J.region ?_
    refine L.va rfl (X.fieldAddr rfl Try.underlying40 rfl sz_4 (by decide)) ?_
    refine L.va rfl (X.load rfl sc_4 (by first | exact Ld.blk hk2 rfl | exact Ld.blk hk12 rfl)) ?_
    refine L.nil ?_
    refine J.iteT rfl ?_
    refine J.seq ?_
    refine J.region ?_
    refine L.va rfl (X.fieldAddr rfl Try.underlying40 rfl sz_38 (by decide)) ?_
    refine L.va rfl (X.load rfl sc_38 (by first | exact Ld.blk hk2 rfl | exact Ld.blk hk12 rfl)) ?_
    refine L.va rfl (X.fieldAddr rfl Try.underlying40 rfl sz_38 (by decide)) ?_
    refine L.va rfl (X.load rfl sc_38 (by first | exact Ld.blk hk2 rfl | exact Ld.blk hk12 rfl)) ?_
    refine L.call rfl en_32 rfl (less03 ax bx w2 ha hb) ?_
    rintro e w3 ⟨rfl, he3⟩
    refine ⟨_, rfl, ?_⟩
    refine L.va rfl (X.assign (by conv => lhs; whnf)) ?_
    refine L.nil ?_
    refine J.ret ?_
    refine thn_ret <| ?_
    refine fin1 ?_
    exact ⟨rfl, he.trans he3⟩
  · refine L.va rfl (X.assign (by conv => lhs; whnf)) ?_
    refine L.nil ?_
    refine J.seq ?_
    refine J.seq ?_
    refine J.region ?_
    refine L.va rfl (X.fieldAddr rfl Try.underlying40 rfl sz_4 (by decide)) ?_
    refine L.va rfl (X.load rfl sc_4 (by first | exact Ld.blk hk2 rfl | exact Ld.blk hk12 rfl)) ?_
    refine L.va rfl (X.fieldAddr rfl Try.underlying40 rfl sz_4 (by decide)) ?_
    refine L.va rfl (X.load rfl sc_4 (by first | exact Ld.blk hk2 rfl | exact Ld.blk hk12 rfl)) ?_
    refine L.va rfl (X.neqB rfl rfl Try.underlying4) ?_
    refine L.nil ?_
    refine J.iteF rfl ?_
    refine J.skip ?_
    refine J.seq ?_
    refine J.seq ?_
    refine J.region ?_
    refine L.va rfl (X.fieldAddr rfl Try.underlying40 rfl sz_4 (by decide)) ?_
    refine L.va rfl (X.load rfl sc_4 (by first | exact Ld.blk hk2 rfl | exact Ld.blk hk12 rfl)) ?_
    refine L.nil ?_
    refine J.iteF rfl ?_
    refine J.skip ?_
    refine J.seq ?_
    refine J.region ?_
    refine L.va rfl (X.fieldAddr rfl Try.underlying40 rfl sz_2 (by decide)) ?_
    refine L.va rfl (X.load rfl sc_2 (by first | exact Ld.blk hk2 rfl | exact Ld.blk hk12 rfl)) ?_
    refine L.va rfl (X.fieldAddr rfl Try.underlying40 rfl sz_2 (by decide)) ?_
    refine L.va rfl (X.load rfl sc_2 (by first | exact Ld.blk hk2 rfl | exact Ld.blk hk12 rfl)) ?_
    refine L.va rfl (X.lss rfl rfl) ?_
    refine L.va rfl (X.assign (by conv => lhs; whnf)) ?_
    refine L.nil ?_
    refine J.ret ?_
    refine fin1 ?_
    exact ⟨rfl, he⟩
  · refine L.va rfl (X.assign (by conv => lhs; whnf)) ?_
    refine L.nil ?_
    refine J.seq ?_
    refine J.seq ?_
    refine J.region ?_
    refine L.va rfl (X.fieldAddr rfl Try.underlying40 rfl sz_4 (by decide)) ?_
    refine L.va rfl (X.load rfl sc_4 (by first | exact Ld.blk hk2 rfl | exact Ld.blk hk12 rfl)) ?_
    refine L.va rfl (X.fieldAddr rfl Try.underlying40 rfl sz_4 (by decide)) ?_
    refine L.va rfl (X.load rfl sc_4 (by first | exact Ld.blk hk2 rfl | exact Ld.blk hk12 rfl)) ?_
    refine L.va rfl (X.neqB rfl rfl Try.underlying4) ?_
    refine L.nil ?_
    refine J.iteT rfl ?_
    refine J.seq ?_
    refine J.region ?_
    refine L.va rfl (X.fieldAddr rfl Try.underlying40 rfl sz_4 (by decide)) ?_
    refine L.va rfl (X.load rfl sc_4 (by first | exact Ld.blk hk2 rfl | exact Ld.blk hk12 rfl)) ?_
    refine L.va rfl (X.not rfl) ?_
    refine L.va rfl (X.assign (by conv => lhs; whnf)) ?_
    refine L.nil ?_
    refine J.ret ?_
    refine thn_ret <| ?_
    refine fin1 ?_
    exact ⟨rfl, he⟩
  · refine L.va rfl (X.assign (by conv => lhs; whnf)) ?_
    refine L.nil ?_
    refine J.seq ?_
    refine J.seq ?_
    refine J.region ?_
    refine L.va rfl (X.fieldAddr rfl Try.underlying40 rfl sz_4 (by decide)) ?_
    refine L.va rfl (X.load rfl sc_4 (by first | exact Ld.blk hk2 rfl | exact Ld.blk hk12 rfl)) ?_
    refine L.va rfl (X.fieldAddr rfl Try.underlying40 rfl sz_4 (by decide)) ?_
    refine L.va rfl (X.load rfl sc_4 (by first | exact Ld.blk hk2 rfl | exact Ld.blk hk12 rfl)) ?_
    refine L.va rfl (X.neqB rfl rfl Try.underlying4) ?_
    refine L.nil ?_
    refine J.iteT rfl ?_
    refine J.seq ?_
    refine J.region ?_
    refine L.va rfl (X.fieldAddr rfl Try.underlying40 rfl sz_4 (by decide)) ?_
    refine L.va rfl (X.load rfl sc_4 (by first | exact Ld.blk hk2 rfl | exact Ld.blk hk12 rfl)) ?_
    refine L.va rfl (X.not rfl) ?_
    refine L.va rfl (X.assign (by conv => lhs; whnf)) ?_
    refine L.nil ?_
    refine J.ret ?_
    refine thn_ret <| ?_
    refine fin1 ?_
    exact ⟨rfl, he⟩
theorem lessB_at : ∀ {u v : List Int} {i : Nat}, i < u.length → i < v.length → (∀ j, j < i → u.getD j 0 = v.getD j 0) → u.getD i 0 ≠ v.getD i 0 → lessB u v = decide (u.getD i 0 < v.getD i 0)
  | [], _, i, h, _, _, _ => absurd h (by simp)
  | _ :: _, [], i, _, h, _, _ => absurd h (by simp)
  | a :: u, b :: v, 0, _, _, _, h => by
    have h : a ≠ b := h
    show (if a ≠ b then decide (a < b) else _) = _
    rw [if_pos h]
    rfl
  | a :: u, b :: v, i + 1, h1, h2, hP, h => by
    have h0 : a = b := hP 0 (by omega)
    show (if a ≠ b then _ else lessB u v) = _
    rw [if_neg (fun k => k h0)]
    exact lessB_at (i := i) (by simpa using h1) (by simpa using h2) (fun j hj => hP (j + 1) (by omega)) h
theorem lessB_end : ∀ {u v : List Int}, (∀ j, j < u.length → j < v.length → u.getD j 0 = v.getD j 0) → lessB u v = decide (u.length < v.length)
  | u, [], _ => by rw [lessB_nil]; simp
  | [], b :: v, _ => by simp [lessB]
  | a :: u, b :: v, hP => by
    have h0 : a = b := hP 0 (by simp) (by simp)
    show (if a ≠ b then _ else lessB u v) = _
    rw [if_neg (fun k => k h0), lessB_end fun j h1 h2 => hP (j + 1) (by simpa using h1) (by simpa using h2)]
    simp
theorem code_Less (A1 : Option Addr) (n1 c1 : Nat) (A2 : Option Addr) (n2 c2 : Nat) (u v : List Int) (w : World) (h1 : Reads w w.heap.size 1 A1 n1 (nums .u8 u)) (h2 : Reads w w.heap.size 1 A2 n2 (nums .u8 v)) (hn1 : n1 ≤ maxLen) (hn2 : n2 ≤ maxLen) :
    Calls Try.prog 21 #[.slice A1 n1 c1, .slice A2 n2 c2] w fun e w' => e = .returned (.bool (lessB u v)) ∧ Ext w w' := by
  have l1 : u.length = n1 := by have := h1.1; simpa [nums] using this
  have l2 : v.length = n2 := by have := h2.1; simpa [nums] using this
  unfold maxLen at hn1 hn2
  refine enter Try.func21 rfl (by kernel_rfl) ?_
  refine J.seq ?_
  refine J.region ?_
  refine L.va rfl (X.assign (by conv => lhs; whnf)) ?_
  refine L.nil ?_
  refine J.seq ?_
  refine J.seq ?_
  refine J.region ?_
  refine L.va rfl (X.move (by conv => lhs; whnf)) ?_
  refine L.va rfl (X.len rfl Try.underlying30) ?_
  refine L.va rfl (X.move (by conv => lhs; whnf)) ?_
  refine L.va rfl (X.len rfl Try.underlying30) ?_
  refine L.va rfl (X.min2 rfl rfl) ?_
  refine L.va rfl (X.move (by conv => lhs; whnf)) ?_
  refine L.nil ?_
  refine J.block ?_
  refine J.loop (X := Nat) [4, 5, 11, 12, 13, 14, 15, 16, 17, 18, 19, 20, 21, 22, 23, 24, 25, 26, 27, 28, 29, 30, 31, 32] (fun i => [(11, .int .i64 (i : Int))]) (fun i w' => i ≤ n1 ∧ i ≤ n2 ∧ (∀ j, j < i → u.getD j 0 = v.getD j 0) ∧ Ext w w') (fun i => n1 - i) (0) (At1 (by first | rfl | exact at_int rfl (by omega) | exact at_slice rfl (by omega) | exact at_int rfl (by simp))) ?_ ?_
  · exact ⟨Nat.zero_le _, Nat.zero_le _, fun j hj => absurd hj (by omega), Ext.refl _⟩
  · rintro i g w2 ⟨hi, hi2, hP, he⟩
    have k1 := h1.ext he
    have k2 := h2.ext he
    refine J.seq ?_
    refine J.region ?_
    refine L.va rfl (X.lss rfl rfl) ?_
    refine L.nil ?_
    refine J.seq ?_
    refine J.dec rfl (fun hlt => ?_) (fun hlt => ?_)
    · have hA1 := k1.some_ (by omega)
      have hA2 := k2.some_ (by omega)
      refine J.skip ?_
      refine J.seq ?_
      refine J.block ?_
      refine J.seq ?_
      refine J.region ?_
      refine L.va rfl (X.move (by conv => lhs; whnf)) ?_
      refine L.va rfl (X.assign (by conv => lhs; whnf)) ?_
      refine L.nil ?_
      refine J.seq ?_
      refine J.quiet mixed (by kernel_rfl) ?_
      refine Qt.va rfl (fun w' hw => X.move (by conv => lhs; whnf)) ?_
      refine Qt.va rfl (fun w' hw => X.move (by conv => lhs; whnf)) ?_
      refine Qt.va rfl (fun w' hw => (by first | exact X.index1n rfl rfl Try.underlying30 sz_5 (by first | exact Option.some_ne_none _ | exact k1.some_ (by omega) | exact k2.some_ (by omega) | exact hA1 | exact hA2) (by omega) | exact X.index1 rfl rfl Try.underlying30 sz_5 (by first | exact Option.some_ne_none _ | exact k1.some_ (by omega) | exact k2.some_ (by omega) | exact hA1 | exact hA2) (by omega))) ?_
      refine Qt.va rfl (fun w' hw => X.load rfl sc_5 (by first | exact Ld.num (k1.ext hw) (by omega) | exact Ld.num (k2.ext hw) (by omega) | exact hA1 | exact hA2)) ?_
      refine Qt.va rfl (fun w' hw => X.move (by conv => lhs; whnf)) ?_
      refine Qt.va rfl (fun w' hw => X.move (by conv => lhs; whnf)) ?_
      refine Qt.va rfl (fun w' hw => (by first | exact X.index1n rfl rfl Try.underlying30 sz_5 (by first | exact Option.some_ne_none _ | exact k1.some_ (by omega) | exact k2.some_ (by omega) | exact hA1 | exact hA2) (by omega) | exact X.index1 rfl rfl Try.underlying30 sz_5 (by first | exact Option.some_ne_none _ | exact k1.some_ (by omega) | exact k2.some_ (by omega) | exact hA1 | exact hA2) (by omega))) ?_
      refine Qt.va rfl (fun w' hw => X.load rfl sc_5 (by first | exact Ld.num (k1.ext hw) (by omega) | exact Ld.num (k2.ext hw) (by omega) | exact hA1 | exact hA2)) ?_
      refine Qt.va rfl (fun w' hw => X.neq rfl rfl) ?_
      refine Qt.nil (fun w3 hq => ?_)
      replace k1 := k1.ext hq
      replace k2 := k2.ext hq
      refine J.ndec rfl (fun hd => ?_) (fun hd => ?_)
      · rw [lessB_at (i := i) (by omega) (by omega) hP hd]
        refine J.seq ?_
        refine J.quiet mixed (by kernel_rfl) ?_
        refine Qt.va rfl (fun w' hw => X.move (by conv => lhs; whnf)) ?_
        refine Qt.va rfl (fun w' hw => X.move (by conv => lhs; whnf)) ?_
        refine Qt.va rfl (fun w' hw => (by first | exact X.index1n rfl rfl Try.underlying30 sz_5 (by first | exact Option.some_ne_none _ | exact k1.some_ (by omega) | exact k2.some_ (by omega) | exact hA1 | exact hA2) (by omega) | exact X.index1 rfl rfl Try.underlying30 sz_5 (by first | exact Option.some_ne_none _ | exact k1.some_ (by omega) | exact k2.some_ (by omega) | exact hA1 | exact hA2) (by omega))) ?_
        refine Qt.va rfl (fun w' hw => X.load rfl sc_5 (by first | exact Ld.num (k1.ext hw) (by omega) | exact Ld.num (k2.ext hw) (by omega) | exact hA1 | exact hA2)) ?_
        refine Qt.va rfl (fun w' hw => X.move (by conv => lhs; whnf)) ?_
        refine Qt.va rfl (fun w' hw => X.move (by conv => lhs; whnf)) ?_
        refine Qt.va rfl (fun w' hw => (by first | exact X.index1n rfl rfl Try.underlying30 sz_5 (by first | exact Option.some_ne_none _ | exact k1.some_ (by omega) | exact k2.some_ (by omega) | exact hA1 | exact hA2) (by omega) | exact X.index1 rfl rfl Try.underlying30 sz_5 (by first | exact Option.some_ne_none _ | exact k1.some_ (by omega) | exact k2.some_ (by omega) | exact hA1 | exact hA2) (by omega))) ?_
        refine Qt.va rfl (fun w' hw => X.load rfl sc_5 (by first | exact Ld.num (k1.ext hw) (by omega) | exact Ld.num (k2.ext hw) (by omega) | exact hA1 | exact hA2)) ?_
        refine Qt.va rfl (fun w' hw => X.lss rfl rfl) ?_
        refine Qt.va rfl (fun w' hw => X.assign (by conv => lhs; whnf)) ?_
        refine Qt.nil (fun w4 hq4 => ?_)
        replace k1 := k1.ext hq4
        replace k2 := k2.ext hq4
        refine J.ret ?_
        refine inB_ret <|  thn_ret <|  thn_ret <|  inB_ret <|  thn_ret <| ?_
        refine fin1 ?_
        exact ⟨rfl, (he.trans hq).trans hq4⟩
      · skip
        refine J.skip ?_
        refine J.region ?_
        refine L.va rfl (X.add rfl rfl (by omega)) ?_
        refine L.va rfl (X.move (by conv => lhs; whnf)) ?_
        refine L.nil ?_
        refine ⟨i + 1, At1 (by first | rfl | exact at_int rfl (by omega) | exact at_slice rfl (by omega) | exact at_int rfl (by simp)), (by (iterate 14 refine Agr.lk rfl ?_); exact Agr.lk rfl (Agr.hav rfl Agr.rfl')), ?_⟩
        refine ⟨⟨by omega, by omega, fun j hj => ?_, he.trans hq⟩, by omega⟩
        rcases Nat.lt_or_ge j i with h | h
        · exact hP j h
        · obtain rfl : j = i := by omega
          exact hd
    · rw [lessB_end fun j k1 k2 => hP j (by omega), l1, l2]
      refine J.exit ?_
      refine J.seq ?_
      refine J.region ?_
      refine L.va rfl (X.move (by conv => lhs; whnf)) ?_
      refine L.va rfl (X.len rfl Try.underlying30) ?_
      refine L.va rfl (X.move (by conv => lhs; whnf)) ?_
      refine L.va rfl (X.len rfl Try.underlying30) ?_
      refine L.va rfl (X.lss rfl rfl) ?_
      refine L.va rfl (X.assign (by conv => lhs; whnf)) ?_
      refine L.nil ?_
      refine J.ret ?_
      refine fin1 ?_
      exact ⟨congrArg (fun b => Ending.returned (.bool b)) (decide_eq_decide.2 Int.ofNat_lt), he⟩
end Go.Proofs.Ytjleobcbgldhmaa
namespace Go.Proofs.Ytjleobcbgldhmaa
set_option maxRecDepth 100000
open Go.RowKit H
open Byts Cod Flo Odr
set_option linter.unusedVariables false
namespace H
end H
abbrev oR (x : Int × Bool) : List Value := [.int .i64 x.1, .bool x.2]
theorem oR_len (x : Int × Bool) : (oR x).length = 2 := rfl
def or0 : Int × Bool := (0, false)
theorem gtOr {l : List (Int × Bool)} {i : Nat} (h : i < l.length) : l[i]? = some (l.getD i or0) := by rw [List.getD, List.getElem?_eq_getElem h]; rfl
theorem valAt_lt {r : Rw} {N : Nat} {w : World} (h : r.At N w) (c : Int) : (valAt r c).x < 18446744073709551616 := by
  unfold valAt
  split
  · decide
  · exact wfV_at h.hw _
theorem lessL_eq : ∀ u v : List Int, lessL u v = lessB u v
  | u, [] => by rw [lessB_nil]; cases u <;> rfl
  | [], _ :: _ => rfl
  | a :: u, b :: v => by
    show (if a ≠ b then decide (a < b) else lessL u v) = if a ≠ b then decide (a < b) else lessB u v
    rw [lessL_eq u v]
theorem rless (A : Option Addr) (n c : Nat) (o : List (Int × Bool)) (a b : Rw) (w : World) (ho : Reads w w.heap.size 2 A n (o.flatMap oR)) (lo : o.length = n) (hn : n ≤ maxLen) (ha : a.At w.heap.size w) (hb : b.At w.heap.size w) :
    Calls Try.prog 7 #[.slice A n c, a.val, b.val] w fun e w' => e = .returned (.bool (lessO o a b)) ∧ Ext w w' := by
  unfold maxLen at hn
  refine enter Try.func7 rfl (by kernel_rfl) ?_
  refine J.seq ?_
  refine J.region ?_
  refine L.boxA (l := [_, _]) rfl rfl ?_
  intro b1 w1 hb1 hs1 hk1 he1
  refine L.boxA (l := [_, _]) rfl rfl ?_
  intro b2 w2 hb2 hs2 hk2 he2
  have hk12 := hk1.ext he2
  have he02 := he1.trans he2
  have hk12 : Blk w2 b1 26 a.vs.toArray := hk12
  have hk2 : Blk w2 b2 26 b.vs.toArray := hk2
  refine L.va rfl (X.assign (by conv => lhs; whnf)) ?_
  refine L.nil ?_
  refine J.seq ?_
  refine J.seq ?_
  refine J.region ?_
  refine L.va rfl (X.assign (by conv => lhs; whnf)) ?_
  refine L.nil ?_
  refine J.block ?_
  refine J.loop (X := Nat) [6, 7, 8, 9, 11, 12, 13, 14, 15, 16, 17, 18, 19, 20, 21, 22, 23, 24, 25, 26, 27, 28, 29, 30, 31, 32, 33, 34, 35, 36, 37, 38, 39, 40, 41, 42, 43, 44, 45, 46, 47] (fun i => [(7, .int .i64 (i : Int))]) (fun i w' => i ≤ n ∧ lessO o a b = lessO (o.drop i) a b ∧ Ext w2 w') (fun i => n - i) (0) (At1 (by first | rfl | exact at_int rfl (by omega) | exact at_slice rfl (by omega) | exact at_int rfl (by simp))) ?_ ?_
  · exact ⟨Nat.zero_le _, rfl, Ext.refl _⟩
  · rintro i g w3 ⟨hi, hP, he3⟩
    have hk13 := hk12.ext he3
    have hk23 := hk2.ext he3
    have he03 := he02.trans he3
    refine J.seq ?_
    refine J.seq ?_
    refine J.region ?_
    refine L.va rfl (X.move (by conv => lhs; whnf)) ?_
    refine L.va rfl (X.move (by conv => lhs; whnf)) ?_
    refine L.va rfl (X.len rfl Try.underlying22) ?_
    refine L.va rfl (X.lss rfl rfl) ?_
    refine L.nil ?_
    refine J.dec rfl (fun hlt => ?_) (fun hlt => ?_)
    · have hin : i < o.length := by omega
      obtain ⟨x, hx⟩ : ∃ x, x = o.getD i or0 := ⟨_, rfl⟩
      have hgt := gtOr hin
      rw [← hx] at hgt
      have hA := ho.some_ (by omega)
      have hld := fun (w' : World) (hw : Ext w3 w') => Ld.flat2 oR_len (ho.ext (he03.trans hw)) hgt (r := 0) rfl
      have hld2 := fun (w' : World) (hw : Ext w3 w') => Ld.flat2 oR_len (ho.ext (he03.trans hw)) hgt (r := 1) rfl
      refine J.skip ?_
      refine J.seq ?_
      refine J.block ?_
      refine J.cut (X := Nat × Nat) [8, 9, 17, 18, 19, 20, 21, 22, 23, 24, 25, 26, 27, 28, 29, 30] (fun (b8, b9) => [(8, .pointer (some ⟨b8, 0, none⟩)), (9, .pointer (some ⟨b9, 0, none⟩))]) (fun (b8, b9) w' => Blk w' b8 40 (valAt a x.1).vs.toArray ∧ Blk w' b9 40 (valAt b x.1).vs.toArray ∧ Ext w3 w') ?_ ?_
      · skip
        refine J.draw (ℓ := 1000000) (S := Ext w3) mixed (fun w4 hS hS_h => ?_)
        refine D.va 0 rfl (by kernel_rfl) (fun _ _ _ h => h) rfl (fun w' hw => (by first | exact X.loadAgg rfl (range_l (hk13.ext hw)) Try.underlying26 rfl (by kernel_rfl) | exact X.loadAgg rfl (range_blk (hk13.ext hw)) Try.underlying26 rfl (by kernel_rfl) | exact X.loadAgg rfl (range_l (hk23.ext hw)) Try.underlying26 rfl (by kernel_rfl) | exact X.loadAgg rfl (range_blk (hk23.ext hw)) Try.underlying26 rfl (by kernel_rfl))) hS ?_
        refine D.va 1 rfl (by kernel_rfl) (fun _ _ _ h => h) rfl (fun w' hw => X.move (by conv => lhs; whnf)) hS ?_
        refine D.va 2 rfl (by kernel_rfl) (fun _ _ _ h => h) rfl (fun w' hw => X.move (by conv => lhs; whnf)) hS ?_
        refine D.va 3 rfl (by kernel_rfl) (fun _ _ _ h => h) rfl (fun w' hw => (by first | exact X.indexAddrn rfl rfl Try.underlying22 sz_37 (by first | exact Option.some_ne_none _ | exact hA | exact hld w' hw) (by omega) | exact X.indexAddr rfl rfl Try.underlying22 sz_37 (by first | exact Option.some_ne_none _ | exact hA | exact hld w' hw) (by omega))) hS ?_
        refine D.va 4 rfl (by kernel_rfl) (fun _ _ _ h => h) rfl (fun w' hw => X.fieldP rfl Try.underlying37 rfl sz_3 (by decide) (by first | exact Option.some_ne_none _ | exact hA | exact hld w' hw)) hS ?_
        refine D.va 5 rfl (by kernel_rfl) (fun _ _ _ h => h) rfl (fun w' hw => X.load rfl sc_3 (by first | exact Ld.blk (hk13.ext hw) rfl | exact Ld.blk (hk23.ext hw) rfl | exact hA | exact hld w' hw)) hS ?_
        refine D.va 7 rfl (by kernel_rfl) (fun _ _ _ h => h) rfl (fun w' hw => (by first | exact X.loadAgg rfl (range_l (hk13.ext hw)) Try.underlying26 rfl (by kernel_rfl) | exact X.loadAgg rfl (range_blk (hk13.ext hw)) Try.underlying26 rfl (by kernel_rfl) | exact X.loadAgg rfl (range_l (hk23.ext hw)) Try.underlying26 rfl (by kernel_rfl) | exact X.loadAgg rfl (range_blk (hk23.ext hw)) Try.underlying26 rfl (by kernel_rfl))) hS ?_
        refine D.va 8 rfl (by kernel_rfl) (fun _ _ _ h => h) rfl (fun w' hw => X.move (by conv => lhs; whnf)) hS ?_
        refine D.va 9 rfl (by kernel_rfl) (fun _ _ _ h => h) rfl (fun w' hw => X.move (by conv => lhs; whnf)) hS ?_
        refine D.va 10 rfl (by kernel_rfl) (fun _ _ _ h => h) rfl (fun w' hw => (by first | exact X.indexAddrn rfl rfl Try.underlying22 sz_37 (by first | exact Option.some_ne_none _ | exact hA | exact hld w' hw) (by omega) | exact X.indexAddr rfl rfl Try.underlying22 sz_37 (by first | exact Option.some_ne_none _ | exact hA | exact hld w' hw) (by omega))) hS ?_
        refine D.va 11 rfl (by kernel_rfl) (fun _ _ _ h => h) rfl (fun w' hw => X.fieldP rfl Try.underlying37 rfl sz_3 (by decide) (by first | exact Option.some_ne_none _ | exact hA | exact hld w' hw)) hS ?_
        refine D.va 12 rfl (by kernel_rfl) (fun _ _ _ h => h) rfl (fun w' hw => X.load rfl sc_3 (by first | exact Ld.blk (hk13.ext hw) rfl | exact Ld.blk (hk23.ext hw) rfl | exact hA | exact hld w' hw)) hS ?_
        refine D.three 6 14 15 (by kernel_rfl) rfl rfl rfl ?_ ?_ ?_
        · refine L.call rfl en_17 rfl (rval a x.1 _ ((ha.ext (he03.trans (hS))).more (he03.trans (hS)).le)) ?_
          rintro e wa ⟨rfl, hea⟩
          refine ⟨_, rfl, ?_⟩
          have hS1 := (hS).trans hea
          refine L.nil ?_
          refine ⟨fun _ => hS1, ?_⟩
          try replace hk8 := hk8.ext hea
          try replace hk9 := hk9.ext hea
          refine D.three 13 14 15 (by kernel_rfl) rfl rfl rfl ?_ ?_ ?_
          · refine L.call rfl en_17 rfl (rval b x.1 _ ((hb.ext (he03.trans (hS1))).more (he03.trans (hS1)).le)) ?_
            rintro e wb ⟨rfl, heb⟩
            refine ⟨_, rfl, ?_⟩
            have hS2 := (hS1).trans heb
            refine L.nil ?_
            refine ⟨fun _ => hS2, ?_⟩
            try replace hk8 := hk8.ext heb
            try replace hk9 := hk9.ext heb
            refine D.two 14 15 (by kernel_rfl) rfl rfl ?_ ?_
            · have q8 := (hS2).le
              refine L.alloc rfl zr_40 ?_
              intro b8 wc hb8 hs8 hk8 he8
              have hS3 := (hS2).trans he8
              refine L.nil ?_
              refine ⟨fun _ => hS3, ?_⟩
              try have hne : b8 ≠ b9 := by have := hk9.lt; omega
              try replace hk9 := hk9.ext he8
              have q9 := (hS3).le
              refine D.one 15 (by kernel_rfl) rfl ?_
              refine L.alloc rfl zr_40 ?_
              intro b9 wd hb9 hs9 hk9 he9
              have hS4 := (hS3).trans he9
              refine L.nil ?_
              refine ⟨fun _ => hS4, ?_⟩
              try have hne : b8 ≠ b9 := by have := hk8.lt; omega
              try replace hk8 := hk8.ext he9
              refine D.one 16 (by kernel_rfl) rfl ?_
              refine L.storeAgg (vs := [_, _, _]) rfl rfl rfl rfl sz_40 (hk8) rfl ?_
              intro we hk8' hg8 hs8'
              have hS5 := (hS4).grw hg8 (by intro g hg; injection hg with hg; omega)
              refine L.nil ?_
              refine ⟨fun _ => hS5, ?_⟩
              try replace hk9 := hk9.grown hg8 (by intro h; injection h with h; omega)
              refine D.one 17 (by kernel_rfl) rfl ?_
              refine L.storeAgg (vs := [_, _, _]) rfl rfl rfl rfl sz_40 (hk9) rfl ?_
              intro wf hk9' hg9 hs9'
              have hS6 := (hS5).grw hg9 (by intro g hg; injection hg with hg; omega)
              refine L.nil ?_
              refine ⟨fun _ => hS6, ?_⟩
              try replace hk8' := hk8'.grown hg9 (by intro h; injection h with h; omega)
              refine D.done (by kernel_rfl) ?_
              replace hk13 := hk13.ext hS6
              replace hk23 := hk23.ext hS6
              refine ⟨(b8, b9), At2 (by first | rfl | exact at_int rfl (by omega) | exact at_slice rfl (by omega) | exact at_int rfl (by simp)) (by first | rfl | exact at_int rfl (by omega) | exact at_slice rfl (by omega) | exact at_int rfl (by simp)), (by (iterate 16 refine Agr.lk rfl ?_); exact Agr.rfl'), ?_⟩
              exact ⟨hk8', hk9', hS6⟩
            · have q9 := (hS2).le
              refine L.alloc rfl zr_40 ?_
              intro b9 wd hb9 hs9 hk9 he9
              have hS3 := (hS2).trans he9
              refine L.nil ?_
              refine ⟨fun _ => hS3, ?_⟩
              try have hne : b8 ≠ b9 := by have := hk8.lt; omega
              try replace hk8 := hk8.ext he9
              have q8 := (hS3).le
              refine D.one 14 (by kernel_rfl) rfl ?_
              refine L.alloc rfl zr_40 ?_
              intro b8 wc hb8 hs8 hk8 he8
              have hS4 := (hS3).trans he8
              refine L.nil ?_
              refine ⟨fun _ => hS4, ?_⟩
              try have hne : b8 ≠ b9 := by have := hk9.lt; omega
              try replace hk9 := hk9.ext he8
              refine D.one 16 (by kernel_rfl) rfl ?_
              refine L.storeAgg (vs := [_, _, _]) rfl rfl rfl rfl sz_40 (hk8) rfl ?_
              intro we hk8' hg8 hs8'
              have hS5 := (hS4).grw hg8 (by intro g hg; injection hg with hg; omega)
              refine L.nil ?_
              refine ⟨fun _ => hS5, ?_⟩
              try replace hk9 := hk9.grown hg8 (by intro h; injection h with h; omega)
              refine D.one 17 (by kernel_rfl) rfl ?_
              refine L.storeAgg (vs := [_, _, _]) rfl rfl rfl rfl sz_40 (hk9) rfl ?_
              intro wf hk9' hg9 hs9'
              have hS6 := (hS5).grw hg9 (by intro g hg; injection hg with hg; omega)
              refine L.nil ?_
              refine ⟨fun _ => hS6, ?_⟩
              try replace hk8' := hk8'.grown hg9 (by intro h; injection h with h; omega)
              refine D.done (by kernel_rfl) ?_
              replace hk13 := hk13.ext hS6
              replace hk23 := hk23.ext hS6
              refine ⟨(b8, b9), At2 (by first | rfl | exact at_int rfl (by omega) | exact at_slice rfl (by omega) | exact at_int rfl (by simp)) (by first | rfl | exact at_int rfl (by omega) | exact at_slice rfl (by omega) | exact at_int rfl (by simp)), (by (iterate 16 refine Agr.lk rfl ?_); exact Agr.rfl'), ?_⟩
              exact ⟨hk8', hk9', hS6⟩
          · have q8 := (hS1).le
            refine L.alloc rfl zr_40 ?_
            intro b8 wc hb8 hs8 hk8 he8
            have hS2 := (hS1).trans he8
            refine L.nil ?_
            refine ⟨fun _ => hS2, ?_⟩
            try have hne : b8 ≠ b9 := by have := hk9.lt; omega
            try replace hk9 := hk9.ext he8
            refine D.two 13 15 (by kernel_rfl) rfl rfl ?_ ?_
            · refine L.call rfl en_17 rfl (rval b x.1 _ ((hb.ext (he03.trans (hS2))).more (he03.trans (hS2)).le)) ?_
              rintro e wb ⟨rfl, heb⟩
              refine ⟨_, rfl, ?_⟩
              have hS3 := (hS2).trans heb
              refine L.nil ?_
              refine ⟨fun _ => hS3, ?_⟩
              try replace hk8 := hk8.ext heb
              try replace hk9 := hk9.ext heb
              have q9 := (hS3).le
              refine D.one 15 (by kernel_rfl) rfl ?_
              refine L.alloc rfl zr_40 ?_
              intro b9 wd hb9 hs9 hk9 he9
              have hS4 := (hS3).trans he9
              refine L.nil ?_
              refine ⟨fun _ => hS4, ?_⟩
              try have hne : b8 ≠ b9 := by have := hk8.lt; omega
              try replace hk8 := hk8.ext he9
              refine D.one 16 (by kernel_rfl) rfl ?_
              refine L.storeAgg (vs := [_, _, _]) rfl rfl rfl rfl sz_40 (hk8) rfl ?_
              intro we hk8' hg8 hs8'
              have hS5 := (hS4).grw hg8 (by intro g hg; injection hg with hg; omega)
              refine L.nil ?_
              refine ⟨fun _ => hS5, ?_⟩
              try replace hk9 := hk9.grown hg8 (by intro h; injection h with h; omega)
              refine D.one 17 (by kernel_rfl) rfl ?_
              refine L.storeAgg (vs := [_, _, _]) rfl rfl rfl rfl sz_40 (hk9) rfl ?_
              intro wf hk9' hg9 hs9'
              have hS6 := (hS5).grw hg9 (by intro g hg; injection hg with hg; omega)
              refine L.nil ?_
              refine ⟨fun _ => hS6, ?_⟩
              try replace hk8' := hk8'.grown hg9 (by intro h; injection h with h; omega)
              refine D.done (by kernel_rfl) ?_
              replace hk13 := hk13.ext hS6
              replace hk23 := hk23.ext hS6
              refine ⟨(b8, b9), At2 (by first | rfl | exact at_int rfl (by omega) | exact at_slice rfl (by omega) | exact at_int rfl (by simp)) (by first | rfl | exact at_int rfl (by omega) | exact at_slice rfl (by omega) | exact at_int rfl (by simp)), (by (iterate 16 refine Agr.lk rfl ?_); exact Agr.rfl'), ?_⟩
              exact ⟨hk8', hk9', hS6⟩
            · have q9 := (hS2).le
              refine L.alloc rfl zr_40 ?_
              intro b9 wd hb9 hs9 hk9 he9
              have hS3 := (hS2).trans he9
              refine L.nil ?_
              refine ⟨fun _ => hS3, ?_⟩
              try have hne : b8 ≠ b9 := by have := hk8.lt; omega
              try replace hk8 := hk8.ext he9
              refine D.one 13 (by kernel_rfl) rfl ?_
              refine L.call rfl en_17 rfl (rval b x.1 _ ((hb.ext (he03.trans (hS3))).more (he03.trans (hS3)).le)) ?_
              rintro e wb ⟨rfl, heb⟩
              refine ⟨_, rfl, ?_⟩
              have hS4 := (hS3).trans heb
              refine L.nil ?_
              refine ⟨fun _ => hS4, ?_⟩
              try replace hk8 := hk8.ext heb
              try replace hk9 := hk9.ext heb
              refine D.one 16 (by kernel_rfl) rfl ?_
              refine L.storeAgg (vs := [_, _, _]) rfl rfl rfl rfl sz_40 (hk8) rfl ?_
              intro we hk8' hg8 hs8'
              have hS5 := (hS4).grw hg8 (by intro g hg; injection hg with hg; omega)
              refine L.nil ?_
              refine ⟨fun _ => hS5, ?_⟩
              try replace hk9 := hk9.grown hg8 (by intro h; injection h with h; omega)
              refine D.one 17 (by kernel_rfl) rfl ?_
              refine L.storeAgg (vs := [_, _, _]) rfl rfl rfl rfl sz_40 (hk9) rfl ?_
              intro wf hk9' hg9 hs9'
              have hS6 := (hS5).grw hg9 (by intro g hg; injection hg with hg; omega)
              refine L.nil ?_
              refine ⟨fun _ => hS6, ?_⟩
              try replace hk8' := hk8'.grown hg9 (by intro h; injection h with h; omega)
              refine D.done (by kernel_rfl) ?_
              replace hk13 := hk13.ext hS6
              replace hk23 := hk23.ext hS6
              refine ⟨(b8, b9), At2 (by first | rfl | exact at_int rfl (by omega) | exact at_slice rfl (by omega) | exact at_int rfl (by simp)) (by first | rfl | exact at_int rfl (by omega) | exact at_slice rfl (by omega) | exact at_int rfl (by simp)), (by (iterate 16 refine Agr.lk rfl ?_); exact Agr.rfl'), ?_⟩
              exact ⟨hk8', hk9', hS6⟩
          · have q9 := (hS1).le
            refine L.alloc rfl zr_40 ?_
            intro b9 wd hb9 hs9 hk9 he9
            have hS2 := (hS1).trans he9
            refine L.nil ?_
            refine ⟨fun _ => hS2, ?_⟩
            try have hne : b8 ≠ b9 := by have := hk8.lt; omega
            try replace hk8 := hk8.ext he9
            refine D.two 13 14 (by kernel_rfl) rfl rfl ?_ ?_
            · refine L.call rfl en_17 rfl (rval b x.1 _ ((hb.ext (he03.trans (hS2))).more (he03.trans (hS2)).le)) ?_
              rintro e wb ⟨rfl, heb⟩
              refine ⟨_, rfl, ?_⟩
              have hS3 := (hS2).trans heb
              refine L.nil ?_
              refine ⟨fun _ => hS3, ?_⟩
              try replace hk8 := hk8.ext heb
              try replace hk9 := hk9.ext heb
              have q8 := (hS3).le
              refine D.one 14 (by kernel_rfl) rfl ?_
              refine L.alloc rfl zr_40 ?_
              intro b8 wc hb8 hs8 hk8 he8
              have hS4 := (hS3).trans he8
              refine L.nil ?_
              refine ⟨fun _ => hS4, ?_⟩
              try have hne : b8 ≠ b9 := by have := hk9.lt; omega
              try replace hk9 := hk9.ext he8
              refine D.one 16 (by kernel_rfl) rfl ?_
              refine L.storeAgg (vs := [_, _, _]) rfl rfl rfl rfl sz_40 (hk8) rfl ?_
              intro we hk8' hg8 hs8'
              have hS5 := (hS4).grw hg8 (by intro g hg; injection hg with hg; omega)
              refine L.nil ?_
              refine ⟨fun _ => hS5, ?_⟩
              try replace hk9 := hk9.grown hg8 (by intro h; injection h with h; omega)
              refine D.one 17 (by kernel_rfl) rfl ?_
              refine L.storeAgg (vs := [_, _, _]) rfl rfl rfl rfl sz_40 (hk9) rfl ?_
              intro wf hk9' hg9 hs9'
              have hS6 := (hS5).grw hg9 (by intro g hg; injection hg with hg; omega)
              refine L.nil ?_
              refine ⟨fun _ => hS6, ?_⟩
              try replace hk8' := hk8'.grown hg9 (by intro h; injection h with h; omega)
              refine D.done (by kernel_rfl) ?_
              replace hk13 := hk13.ext hS6
              replace hk23 := hk23.ext hS6
              refine ⟨(b8, b9), At2 (by first | rfl | exact at_int rfl (by omega) | exact at_slice rfl (by omega) | exact at_int rfl (by simp)) (by first | rfl | exact at_int rfl (by omega) | exact at_slice rfl (by omega) | exact at_int rfl (by simp)), (by (iterate 16 refine Agr.lk rfl ?_); exact Agr.rfl'), ?_⟩
              exact ⟨hk8', hk9', hS6⟩
            · have q8 := (hS2).le
              refine L.alloc rfl zr_40 ?_
              intro b8 wc hb8 hs8 hk8 he8
              have hS3 := (hS2).trans he8
              refine L.nil ?_
              refine ⟨fun _ => hS3, ?_⟩
              try have hne : b8 ≠ b9 := by have := hk9.lt; omega
              try replace hk9 := hk9.ext he8
              refine D.one 13 (by kernel_rfl) rfl ?_
              refine L.call rfl en_17 rfl (rval b x.1 _ ((hb.ext (he03.trans (hS3))).more (he03.trans (hS3)).le)) ?_
              rintro e wb ⟨rfl, heb⟩
              refine ⟨_, rfl, ?_⟩
              have hS4 := (hS3).trans heb
              refine L.nil ?_
              refine ⟨fun _ => hS4, ?_⟩
              try replace hk8 := hk8.ext heb
              try replace hk9 := hk9.ext heb
              refine D.one 16 (by kernel_rfl) rfl ?_
              refine L.storeAgg (vs := [_, _, _]) rfl rfl rfl rfl sz_40 (hk8) rfl ?_
              intro we hk8' hg8 hs8'
              have hS5 := (hS4).grw hg8 (by intro g hg; injection hg with hg; omega)
              refine L.nil ?_
              refine ⟨fun _ => hS5, ?_⟩
              try replace hk9 := hk9.grown hg8 (by intro h; injection h with h; omega)
              refine D.one 17 (by kernel_rfl) rfl ?_
              refine L.storeAgg (vs := [_, _, _]) rfl rfl rfl rfl sz_40 (hk9) rfl ?_
              intro wf hk9' hg9 hs9'
              have hS6 := (hS5).grw hg9 (by intro g hg; injection hg with hg; omega)
              refine L.nil ?_
              refine ⟨fun _ => hS6, ?_⟩
              try replace hk8' := hk8'.grown hg9 (by intro h; injection h with h; omega)
              refine D.done (by kernel_rfl) ?_
              replace hk13 := hk13.ext hS6
              replace hk23 := hk23.ext hS6
              refine ⟨(b8, b9), At2 (by first | rfl | exact at_int rfl (by omega) | exact at_slice rfl (by omega) | exact at_int rfl (by simp)) (by first | rfl | exact at_int rfl (by omega) | exact at_slice rfl (by omega) | exact at_int rfl (by simp)), (by (iterate 16 refine Agr.lk rfl ?_); exact Agr.rfl'), ?_⟩
              exact ⟨hk8', hk9', hS6⟩
        · have q8 := (hS).le
          refine L.alloc rfl zr_40 ?_
          intro b8 wc hb8 hs8 hk8 he8
          have hS1 := (hS).trans he8
          refine L.nil ?_
          refine ⟨fun _ => hS1, ?_⟩
          try have hne : b8 ≠ b9 := by have := hk9.lt; omega
          try replace hk9 := hk9.ext he8
          refine D.two 6 15 (by kernel_rfl) rfl rfl ?_ ?_
          · refine L.call rfl en_17 rfl (rval a x.1 _ ((ha.ext (he03.trans (hS1))).more (he03.trans (hS1)).le)) ?_
            rintro e wa ⟨rfl, hea⟩
            refine ⟨_, rfl, ?_⟩
            have hS2 := (hS1).trans hea
            refine L.nil ?_
            refine ⟨fun _ => hS2, ?_⟩
            try replace hk8 := hk8.ext hea
            try replace hk9 := hk9.ext hea
            refine D.two 13 15 (by kernel_rfl) rfl rfl ?_ ?_
            · refine L.call rfl en_17 rfl (rval b x.1 _ ((hb.ext (he03.trans (hS2))).more (he03.trans (hS2)).le)) ?_
              rintro e wb ⟨rfl, heb⟩
              refine ⟨_, rfl, ?_⟩
              have hS3 := (hS2).trans heb
              refine L.nil ?_
              refine ⟨fun _ => hS3, ?_⟩
              try replace hk8 := hk8.ext heb
              try replace hk9 := hk9.ext heb
              have q9 := (hS3).le
              refine D.one 15 (by kernel_rfl) rfl ?_
              refine L.alloc rfl zr_40 ?_
              intro b9 wd hb9 hs9 hk9 he9
              have hS4 := (hS3).trans he9
              refine L.nil ?_
              refine ⟨fun _ => hS4, ?_⟩
              try have hne : b8 ≠ b9 := by have := hk8.lt; omega
              try replace hk8 := hk8.ext he9
              refine D.one 16 (by kernel_rfl) rfl ?_
              refine L.storeAgg (vs := [_, _, _]) rfl rfl rfl rfl sz_40 (hk8) rfl ?_
              intro we hk8' hg8 hs8'
              have hS5 := (hS4).grw hg8 (by intro g hg; injection hg with hg; omega)
              refine L.nil ?_
              refine ⟨fun _ => hS5, ?_⟩
              try replace hk9 := hk9.grown hg8 (by intro h; injection h with h; omega)
              refine D.one 17 (by kernel_rfl) rfl ?_
              refine L.storeAgg (vs := [_, _, _]) rfl rfl rfl rfl sz_40 (hk9) rfl ?_
              intro wf hk9' hg9 hs9'
              have hS6 := (hS5).grw hg9 (by intro g hg; injection hg with hg; omega)
              refine L.nil ?_
              refine ⟨fun _ => hS6, ?_⟩
              try replace hk8' := hk8'.grown hg9 (by intro h; injection h with h; omega)
              refine D.done (by kernel_rfl) ?_
              replace hk13 := hk13.ext hS6
              replace hk23 := hk23.ext hS6
              refine ⟨(b8, b9), At2 (by first | rfl | exact at_int rfl (by omega) | exact at_slice rfl (by omega) | exact at_int rfl (by simp)) (by first | rfl | exact at_int rfl (by omega) | exact at_slice rfl (by omega) | exact at_int rfl (by simp)), (by (iterate 16 refine Agr.lk rfl ?_); exact Agr.rfl'), ?_⟩
              exact ⟨hk8', hk9', hS6⟩
            · have q9 := (hS2).le
              refine L.alloc rfl zr_40 ?_
              intro b9 wd hb9 hs9 hk9 he9
              have hS3 := (hS2).trans he9
              refine L.nil ?_
              refine ⟨fun _ => hS3, ?_⟩
              try have hne : b8 ≠ b9 := by have := hk8.lt; omega
              try replace hk8 := hk8.ext he9
              refine D.one 13 (by kernel_rfl) rfl ?_
              refine L.call rfl en_17 rfl (rval b x.1 _ ((hb.ext (he03.trans (hS3))).more (he03.trans (hS3)).le)) ?_
              rintro e wb ⟨rfl, heb⟩
              refine ⟨_, rfl, ?_⟩
              have hS4 := (hS3).trans heb
              refine L.nil ?_
              refine ⟨fun _ => hS4, ?_⟩
              try replace hk8 := hk8.ext heb
              try replace hk9 := hk9.ext heb
              refine D.one 16 (by kernel_rfl) rfl ?_
              refine L.storeAgg (vs := [_, _, _]) rfl rfl rfl rfl sz_40 (hk8) rfl ?_
              intro we hk8' hg8 hs8'
              have hS5 := (hS4).grw hg8 (by intro g hg; injection hg with hg; omega)
              refine L.nil ?_
              refine ⟨fun _ => hS5, ?_⟩
              try replace hk9 := hk9.grown hg8 (by intro h; injection h with h; omega)
              refine D.one 17 (by kernel_rfl) rfl ?_
              refine L.storeAgg (vs := [_, _, _]) rfl rfl rfl rfl sz_40 (hk9) rfl ?_
              intro wf hk9' hg9 hs9'
              have hS6 := (hS5).grw hg9 (by intro g hg; injection hg with hg; omega)
              refine L.nil ?_
              refine ⟨fun _ => hS6, ?_⟩
              try replace hk8' := hk8'.grown hg9 (by intro h; injection h with h; omega)
              refine D.done (by kernel_rfl) ?_
              replace hk13 := hk13.ext hS6
              replace hk23 := hk23.ext hS6
              refine ⟨(b8, b9), At2 (by first | rfl | exact at_int rfl (by omega) | exact at_slice rfl (by omega) | exact at_int rfl (by simp)) (by first | rfl | exact at_int rfl (by omega) | exact at_slice rfl (by omega) | exact at_int rfl (by simp)), (by (iterate 16 refine Agr.lk rfl ?_); exact Agr.rfl'), ?_⟩
              exact ⟨hk8', hk9', hS6⟩
          · have q9 := (hS1).le
            refine L.alloc rfl zr_40 ?_
            intro b9 wd hb9 hs9 hk9 he9
            have hS2 := (hS1).trans he9
            refine L.nil ?_
            refine ⟨fun _ => hS2, ?_⟩
            try have hne : b8 ≠ b9 := by have := hk8.lt; omega
            try replace hk8 := hk8.ext he9
            refine D.one 6 (by kernel_rfl) rfl ?_
            refine L.call rfl en_17 rfl (rval a x.1 _ ((ha.ext (he03.trans (hS2))).more (he03.trans (hS2)).le)) ?_
            rintro e wa ⟨rfl, hea⟩
            refine ⟨_, rfl, ?_⟩
            have hS3 := (hS2).trans hea
            refine L.nil ?_
            refine ⟨fun _ => hS3, ?_⟩
            try replace hk8 := hk8.ext hea
            try replace hk9 := hk9.ext hea
            refine D.one 13 (by kernel_rfl) rfl ?_
            refine L.call rfl en_17 rfl (rval b x.1 _ ((hb.ext (he03.trans (hS3))).more (he03.trans (hS3)).le)) ?_
            rintro e wb ⟨rfl, heb⟩
            refine ⟨_, rfl, ?_⟩
            have hS4 := (hS3).trans heb
            refine L.nil ?_
            refine ⟨fun _ => hS4, ?_⟩
            try replace hk8 := hk8.ext heb
            try replace hk9 := hk9.ext heb
            refine D.one 16 (by kernel_rfl) rfl ?_
            refine L.storeAgg (vs := [_, _, _]) rfl rfl rfl rfl sz_40 (hk8) rfl ?_
            intro we hk8' hg8 hs8'
            have hS5 := (hS4).grw hg8 (by intro g hg; injection hg with hg; omega)
            refine L.nil ?_
            refine ⟨fun _ => hS5, ?_⟩
            try replace hk9 := hk9.grown hg8 (by intro h; injection h with h; omega)
            refine D.one 17 (by kernel_rfl) rfl ?_
            refine L.storeAgg (vs := [_, _, _]) rfl rfl rfl rfl sz_40 (hk9) rfl ?_
            intro wf hk9' hg9 hs9'
            have hS6 := (hS5).grw hg9 (by intro g hg; injection hg with hg; omega)
            refine L.nil ?_
            refine ⟨fun _ => hS6, ?_⟩
            try replace hk8' := hk8'.grown hg9 (by intro h; injection h with h; omega)
            refine D.done (by kernel_rfl) ?_
            replace hk13 := hk13.ext hS6
            replace hk23 := hk23.ext hS6
            refine ⟨(b8, b9), At2 (by first | rfl | exact at_int rfl (by omega) | exact at_slice rfl (by omega) | exact at_int rfl (by simp)) (by first | rfl | exact at_int rfl (by omega) | exact at_slice rfl (by omega) | exact at_int rfl (by simp)), (by (iterate 16 refine Agr.lk rfl ?_); exact Agr.rfl'), ?_⟩
            exact ⟨hk8', hk9', hS6⟩
        · have q9 := (hS).le
          refine L.alloc rfl zr_40 ?_
          intro b9 wd hb9 hs9 hk9 he9
          have hS1 := (hS).trans he9
          refine L.nil ?_
          refine ⟨fun _ => hS1, ?_⟩
          try have hne : b8 ≠ b9 := by have := hk8.lt; omega
          try replace hk8 := hk8.ext he9
          refine D.two 6 14 (by kernel_rfl) rfl rfl ?_ ?_
          · refine L.call rfl en_17 rfl (rval a x.1 _ ((ha.ext (he03.trans (hS1))).more (he03.trans (hS1)).le)) ?_
            rintro e wa ⟨rfl, hea⟩
            refine ⟨_, rfl, ?_⟩
            have hS2 := (hS1).trans hea
            refine L.nil ?_
            refine ⟨fun _ => hS2, ?_⟩
            try replace hk8 := hk8.ext hea
            try replace hk9 := hk9.ext hea
            refine D.two 13 14 (by kernel_rfl) rfl rfl ?_ ?_
            · refine L.call rfl en_17 rfl (rval b x.1 _ ((hb.ext (he03.trans (hS2))).more (he03.trans (hS2)).le)) ?_
              rintro e wb ⟨rfl, heb⟩
              refine ⟨_, rfl, ?_⟩
              have hS3 := (hS2).trans heb
              refine L.nil ?_
              refine ⟨fun _ => hS3, ?_⟩
              try replace hk8 := hk8.ext heb
              try replace hk9 := hk9.ext heb
              have q8 := (hS3).le
              refine D.one 14 (by kernel_rfl) rfl ?_
              refine L.alloc rfl zr_40 ?_
              intro b8 wc hb8 hs8 hk8 he8
              have hS4 := (hS3).trans he8
              refine L.nil ?_
              refine ⟨fun _ => hS4, ?_⟩
              try have hne : b8 ≠ b9 := by have := hk9.lt; omega
              try replace hk9 := hk9.ext he8
              refine D.one 16 (by kernel_rfl) rfl ?_
              refine L.storeAgg (vs := [_, _, _]) rfl rfl rfl rfl sz_40 (hk8) rfl ?_
              intro we hk8' hg8 hs8'
              have hS5 := (hS4).grw hg8 (by intro g hg; injection hg with hg; omega)
              refine L.nil ?_
              refine ⟨fun _ => hS5, ?_⟩
              try replace hk9 := hk9.grown hg8 (by intro h; injection h with h; omega)
              refine D.one 17 (by kernel_rfl) rfl ?_
              refine L.storeAgg (vs := [_, _, _]) rfl rfl rfl rfl sz_40 (hk9) rfl ?_
              intro wf hk9' hg9 hs9'
              have hS6 := (hS5).grw hg9 (by intro g hg; injection hg with hg; omega)
              refine L.nil ?_
              refine ⟨fun _ => hS6, ?_⟩
              try replace hk8' := hk8'.grown hg9 (by intro h; injection h with h; omega)
              refine D.done (by kernel_rfl) ?_
              replace hk13 := hk13.ext hS6
              replace hk23 := hk23.ext hS6
              refine ⟨(b8, b9), At2 (by first | rfl | exact at_int rfl (by omega) | exact at_slice rfl (by omega) | exact at_int rfl (by simp)) (by first | rfl | exact at_int rfl (by omega) | exact at_slice rfl (by omega) | exact at_int rfl (by simp)), (by (iterate 16 refine Agr.lk rfl ?_); exact Agr.rfl'), ?_⟩
              exact ⟨hk8', hk9', hS6⟩
            · have q8 := (hS2).le
              refine L.alloc rfl zr_40 ?_
              intro b8 wc hb8 hs8 hk8 he8
              have hS3 := (hS2).trans he8
              refine L.nil ?_
              refine ⟨fun _ => hS3, ?_⟩
              try have hne : b8 ≠ b9 := by have := hk9.lt; omega
              try replace hk9 := hk9.ext he8
              refine D.one 13 (by kernel_rfl) rfl ?_
              refine L.call rfl en_17 rfl (rval b x.1 _ ((hb.ext (he03.trans (hS3))).more (he03.trans (hS3)).le)) ?_
              rintro e wb ⟨rfl, heb⟩
              refine ⟨_, rfl, ?_⟩
              have hS4 := (hS3).trans heb
              refine L.nil ?_
              refine ⟨fun _ => hS4, ?_⟩
              try replace hk8 := hk8.ext heb
              try replace hk9 := hk9.ext heb
              refine D.one 16 (by kernel_rfl) rfl ?_
              refine L.storeAgg (vs := [_, _, _]) rfl rfl rfl rfl sz_40 (hk8) rfl ?_
              intro we hk8' hg8 hs8'
              have hS5 := (hS4).grw hg8 (by intro g hg; injection hg with hg; omega)
              refine L.nil ?_
              refine ⟨fun _ => hS5, ?_⟩
              try replace hk9 := hk9.grown hg8 (by intro h; injection h with h; omega)
              refine D.one 17 (by kernel_rfl) rfl ?_
              refine L.storeAgg (vs := [_, _, _]) rfl rfl rfl rfl sz_40 (hk9) rfl ?_
              intro wf hk9' hg9 hs9'
              have hS6 := (hS5).grw hg9 (by intro g hg; injection hg with hg; omega)
              refine L.nil ?_
              refine ⟨fun _ => hS6, ?_⟩
              try replace hk8' := hk8'.grown hg9 (by intro h; injection h with h; omega)
              refine D.done (by kernel_rfl) ?_
              replace hk13 := hk13.ext hS6
              replace hk23 := hk23.ext hS6
              refine ⟨(b8, b9), At2 (by first | rfl | exact at_int rfl (by omega) | exact at_slice rfl (by omega) | exact at_int rfl (by simp)) (by first | rfl | exact at_int rfl (by omega) | exact at_slice rfl (by omega) | exact at_int rfl (by simp)), (by (iterate 16 refine Agr.lk rfl ?_); exact Agr.rfl'), ?_⟩
              exact ⟨hk8', hk9', hS6⟩
          · have q8 := (hS1).le
            refine L.alloc rfl zr_40 ?_
            intro b8 wc hb8 hs8 hk8 he8
            have hS2 := (hS1).trans he8
            refine L.nil ?_
            refine ⟨fun _ => hS2, ?_⟩
            try have hne : b8 ≠ b9 := by have := hk9.lt; omega
            try replace hk9 := hk9.ext he8
            refine D.one 6 (by kernel_rfl) rfl ?_
            refine L.call rfl en_17 rfl (rval a x.1 _ ((ha.ext (he03.trans (hS2))).more (he03.trans (hS2)).le)) ?_
            rintro e wa ⟨rfl, hea⟩
            refine ⟨_, rfl, ?_⟩
            have hS3 := (hS2).trans hea
            refine L.nil ?_
            refine ⟨fun _ => hS3, ?_⟩
            try replace hk8 := hk8.ext hea
            try replace hk9 := hk9.ext hea
            refine D.one 13 (by kernel_rfl) rfl ?_
            refine L.call rfl en_17 rfl (rval b x.1 _ ((hb.ext (he03.trans (hS3))).more (he03.trans (hS3)).le)) ?_
            rintro e wb ⟨rfl, heb⟩
            refine ⟨_, rfl, ?_⟩
            have hS4 := (hS3).trans heb
            refine L.nil ?_
            refine ⟨fun _ => hS4, ?_⟩
            try replace hk8 := hk8.ext heb
            try replace hk9 := hk9.ext heb
            refine D.one 16 (by kernel_rfl) rfl ?_
            refine L.storeAgg (vs := [_, _, _]) rfl rfl rfl rfl sz_40 (hk8) rfl ?_
            intro we hk8' hg8 hs8'
            have hS5 := (hS4).grw hg8 (by intro g hg; injection hg with hg; omega)
            refine L.nil ?_
            refine ⟨fun _ => hS5, ?_⟩
            try replace hk9 := hk9.grown hg8 (by intro h; injection h with h; omega)
            refine D.one 17 (by kernel_rfl) rfl ?_
            refine L.storeAgg (vs := [_, _, _]) rfl rfl rfl rfl sz_40 (hk9) rfl ?_
            intro wf hk9' hg9 hs9'
            have hS6 := (hS5).grw hg9 (by intro g hg; injection hg with hg; omega)
            refine L.nil ?_
            refine ⟨fun _ => hS6, ?_⟩
            try replace hk8' := hk8'.grown hg9 (by intro h; injection h with h; omega)
            refine D.done (by kernel_rfl) ?_
            replace hk13 := hk13.ext hS6
            replace hk23 := hk23.ext hS6
            refine ⟨(b8, b9), At2 (by first | rfl | exact at_int rfl (by omega) | exact at_slice rfl (by omega) | exact at_int rfl (by simp)) (by first | rfl | exact at_int rfl (by omega) | exact at_slice rfl (by omega) | exact at_int rfl (by simp)), (by (iterate 16 refine Agr.lk rfl ?_); exact Agr.rfl'), ?_⟩
            exact ⟨hk8', hk9', hS6⟩
      · rintro ⟨b8, b9⟩ g w4 ⟨hk8, hk9, he4⟩
        have he34 := he3.trans he4
        have hst : lessO (o.drop i) a b = if aheadV (valAt a x.1) (valAt b x.1) = true ∨ aheadV (valAt b x.1) (valAt a x.1) = true then (aheadV (valAt a x.1) (valAt b x.1) != x.2) else lessO (o.drop (i + 1)) a b := by
          rw [List.drop_eq_getElem_cons hin, show o[i] = x by rw [hx, List.getD, List.getElem?_eq_getElem hin]; rfl]; rfl
        rw [hst] at hP
        have xa := valAt_lt ha x.1
        have xb := valAt_lt hb x.1
        obtain ⟨va, hva⟩ : ∃ va, va = valAt a x.1 := ⟨_, rfl⟩
        obtain ⟨vb, hvb⟩ : ∃ vb, vb = valAt b x.1 := ⟨_, rfl⟩
        rw [← hva] at hk8 hP xa
        rw [← hvb] at hk9 hP xb
        refine J.seq ?_
        refine J.region ?_
        refine L.va rfl ((by first | exact X.loadAgg rfl (range_l hk8) Try.underlying40 rfl (by kernel_rfl) | exact X.loadAgg rfl (range_blk hk8) Try.underlying40 rfl (by kernel_rfl) | exact X.loadAgg rfl (range_l hk9) Try.underlying40 rfl (by kernel_rfl) | exact X.loadAgg rfl (range_blk hk9) Try.underlying40 rfl (by kernel_rfl))) ?_
        refine L.va rfl ((by first | exact X.loadAgg rfl (range_l hk8) Try.underlying40 rfl (by kernel_rfl) | exact X.loadAgg rfl (range_blk hk8) Try.underlying40 rfl (by kernel_rfl) | exact X.loadAgg rfl (range_l hk9) Try.underlying40 rfl (by kernel_rfl) | exact X.loadAgg rfl (range_blk hk9) Try.underlying40 rfl (by kernel_rfl))) ?_
        refine L.call rfl en_18 rfl (ahead33 va vb w4 xa xb) ?_
        rintro e w5 ⟨rfl, he5⟩
        refine ⟨_, rfl, ?_⟩
        have hk85 := hk8.ext he5
        have hk95 := hk9.ext he5
        refine L.va rfl (X.move (by conv => lhs; whnf)) ?_
        by_cases q1 : aheadV va vb = true
        · have k1 := fun (w : World) => ahead33 va vb w xa xb
          rw [q1] at hP k1 ⊢
          rw [if_pos (.inl rfl)] at hP
          rw [hP]
          have hl2 := fun (w' : World) (hw : Ext w5 w') => hld2 w' ((he4.trans he5).trans hw)
          refine L.caseBT (k := 34) rfl (by rfl) ?_
          refine L.no rfl ?_
          refine L.no rfl ?_
          refine L.no rfl ?_
          refine L.va rfl (X.pickT rfl (by conv => lhs; whnf)) ?_
          refine L.nil ?_
          refine J.iteT rfl ?_
          refine J.seq ?_
          refine J.quiet mixed (by kernel_rfl) ?_
          refine Qt.va rfl (fun w' hw => (by first | exact X.loadAgg rfl (range_l (hk85.ext hw)) Try.underlying40 rfl (by kernel_rfl) | exact X.loadAgg rfl (range_blk (hk85.ext hw)) Try.underlying40 rfl (by kernel_rfl) | exact X.loadAgg rfl (range_l (hk95.ext hw)) Try.underlying40 rfl (by kernel_rfl) | exact X.loadAgg rfl (range_blk (hk95.ext hw)) Try.underlying40 rfl (by kernel_rfl))) ?_
          refine Qt.va rfl (fun w' hw => (by first | exact X.loadAgg rfl (range_l (hk85.ext hw)) Try.underlying40 rfl (by kernel_rfl) | exact X.loadAgg rfl (range_blk (hk85.ext hw)) Try.underlying40 rfl (by kernel_rfl) | exact X.loadAgg rfl (range_l (hk95.ext hw)) Try.underlying40 rfl (by kernel_rfl) | exact X.loadAgg rfl (range_blk (hk95.ext hw)) Try.underlying40 rfl (by kernel_rfl))) ?_
          refine Qt.call rfl en_18 rfl (fun w' hw => calls_ext hw (k1 w')) ?_
          refine Qt.va rfl (fun w' hw => X.move (by conv => lhs; whnf)) ?_
          refine Qt.va rfl (fun w' hw => X.move (by conv => lhs; whnf)) ?_
          refine Qt.va rfl (fun w' hw => (by first | exact X.indexAddrn rfl rfl Try.underlying22 sz_37 (by first | exact Option.some_ne_none _ | exact hA | exact hl2 w' hw) (by omega) | exact X.indexAddr rfl rfl Try.underlying22 sz_37 (by first | exact Option.some_ne_none _ | exact hA | exact hl2 w' hw) (by omega))) ?_
          refine Qt.va rfl (fun w' hw => X.fieldP rfl Try.underlying37 rfl sz_4 (by decide) (by first | exact Option.some_ne_none _ | exact hA | exact hl2 w' hw)) ?_
          refine Qt.va rfl (fun w' hw => X.load rfl sc_4 (by first | exact Ld.blk (hk85.ext hw) rfl | exact Ld.blk (hk95.ext hw) rfl | exact hA | exact hl2 w' hw)) ?_
          refine Qt.va rfl (fun w' hw => X.neqB rfl rfl Try.underlying4) ?_
          refine Qt.va rfl (fun w' hw => X.assign (by conv => lhs; whnf)) ?_
          refine Qt.nil (fun w6 hq6 => ?_)
          replace hk85 := hk85.ext hq6
          replace hk95 := hk95.ext hq6
          refine J.ret ?_
          refine inB_ret <|  thn_ret <|  thn_ret <|  inB_ret <|  thn_ret <| ?_
          refine fin1 ?_
          refine ⟨?_, ((he02.trans he34).trans he5).trans hq6⟩
          cases x.2 <;> rfl
        · have q1 : aheadV va vb = false := by simpa using q1
          have k1 := fun (w : World) => ahead33 va vb w xa xb
          rw [q1] at hP k1 ⊢
          refine L.caseBF (k := 34) rfl (by rfl) ?_
          refine L.va rfl ((by first | exact X.loadAgg rfl (range_l hk85) Try.underlying40 rfl (by kernel_rfl) | exact X.loadAgg rfl (range_blk hk85) Try.underlying40 rfl (by kernel_rfl) | exact X.loadAgg rfl (range_l hk95) Try.underlying40 rfl (by kernel_rfl) | exact X.loadAgg rfl (range_blk hk95) Try.underlying40 rfl (by kernel_rfl))) ?_
          refine L.va rfl ((by first | exact X.loadAgg rfl (range_l hk85) Try.underlying40 rfl (by kernel_rfl) | exact X.loadAgg rfl (range_blk hk85) Try.underlying40 rfl (by kernel_rfl) | exact X.loadAgg rfl (range_l hk95) Try.underlying40 rfl (by kernel_rfl) | exact X.loadAgg rfl (range_blk hk95) Try.underlying40 rfl (by kernel_rfl))) ?_
          refine L.call rfl en_18 rfl (ahead33 vb va w5 xb xa) ?_
          rintro e w6 ⟨rfl, he6⟩
          refine ⟨_, rfl, ?_⟩
          have hk86 := hk85.ext he6
          have hk96 := hk95.ext he6
          have hl2 := fun (w' : World) (hw : Ext w6 w') => hld2 w' (((he4.trans he5).trans he6).trans hw)
          refine L.va rfl (X.pickF rfl (by conv => lhs; whnf)) ?_
          refine L.nil ?_
          by_cases q2 : aheadV vb va = true
          · rw [if_pos (.inr q2)] at hP
            rw [hP, q2]
            refine J.iteT rfl ?_
            refine J.seq ?_
            refine J.quiet mixed (by kernel_rfl) ?_
            refine Qt.va rfl (fun w' hw => (by first | exact X.loadAgg rfl (range_l (hk86.ext hw)) Try.underlying40 rfl (by kernel_rfl) | exact X.loadAgg rfl (range_blk (hk86.ext hw)) Try.underlying40 rfl (by kernel_rfl) | exact X.loadAgg rfl (range_l (hk96.ext hw)) Try.underlying40 rfl (by kernel_rfl) | exact X.loadAgg rfl (range_blk (hk96.ext hw)) Try.underlying40 rfl (by kernel_rfl))) ?_
            refine Qt.va rfl (fun w' hw => (by first | exact X.loadAgg rfl (range_l (hk86.ext hw)) Try.underlying40 rfl (by kernel_rfl) | exact X.loadAgg rfl (range_blk (hk86.ext hw)) Try.underlying40 rfl (by kernel_rfl) | exact X.loadAgg rfl (range_l (hk96.ext hw)) Try.underlying40 rfl (by kernel_rfl) | exact X.loadAgg rfl (range_blk (hk96.ext hw)) Try.underlying40 rfl (by kernel_rfl))) ?_
            refine Qt.call rfl en_18 rfl (fun w' hw => calls_ext hw (k1 w')) ?_
            refine Qt.va rfl (fun w' hw => X.move (by conv => lhs; whnf)) ?_
            refine Qt.va rfl (fun w' hw => X.move (by conv => lhs; whnf)) ?_
            refine Qt.va rfl (fun w' hw => (by first | exact X.indexAddrn rfl rfl Try.underlying22 sz_37 (by first | exact Option.some_ne_none _ | exact hA | exact hl2 w' hw) (by omega) | exact X.indexAddr rfl rfl Try.underlying22 sz_37 (by first | exact Option.some_ne_none _ | exact hA | exact hl2 w' hw) (by omega))) ?_
            refine Qt.va rfl (fun w' hw => X.fieldP rfl Try.underlying37 rfl sz_4 (by decide) (by first | exact Option.some_ne_none _ | exact hA | exact hl2 w' hw)) ?_
            refine Qt.va rfl (fun w' hw => X.load rfl sc_4 (by first | exact Ld.blk (hk86.ext hw) rfl | exact Ld.blk (hk96.ext hw) rfl | exact hA | exact hl2 w' hw)) ?_
            refine Qt.va rfl (fun w' hw => X.neqB rfl rfl Try.underlying4) ?_
            refine Qt.va rfl (fun w' hw => X.assign (by conv => lhs; whnf)) ?_
            refine Qt.nil (fun w7 hq7 => ?_)
            replace hk86 := hk86.ext hq7
            replace hk96 := hk96.ext hq7
            refine J.ret ?_
            refine inB_ret <|  thn_ret <|  thn_ret <|  inB_ret <|  thn_ret <| ?_
            refine fin1 ?_
            refine ⟨?_, (((he02.trans he34).trans he5).trans he6).trans hq7⟩
            cases x.2 <;> rfl
          · rw [if_neg (fun h => h.elim (fun h => by cases h) q2)] at hP
            have q2 : aheadV vb va = false := by simpa using q2
            rw [q2]
            refine J.iteF rfl ?_
            refine J.skip ?_
            refine J.region ?_
            refine L.va rfl (X.move (by conv => lhs; whnf)) ?_
            refine L.va rfl (X.add rfl rfl (by omega)) ?_
            refine L.va rfl (X.assign (by conv => lhs; whnf)) ?_
            refine L.nil ?_
            refine ⟨i + 1, At1 (by first | rfl | exact at_int rfl (by omega) | exact at_slice rfl (by omega) | exact at_int rfl (by simp)), (by (iterate 12 refine Agr.lk rfl ?_); refine Agr.lk rfl ?_; refine Agr.hav rfl ?_; (iterate 4 refine Agr.lk rfl ?_); exact Agr.lk rfl (Agr.hav rfl Agr.rfl')), ?_⟩
            exact ⟨⟨by omega, hP, (he34.trans he5).trans he6⟩, by omega⟩
    · obtain rfl : i = n := by omega
      rw [← lo, List.drop_length] at hP
      have hP : lessO o a b = lessB a.c b.c := hP.trans (lessL_eq _ _)
      rw [hP]
      have la := ha.lc
      have lb := hb.lc
      have ma := ha.n1
      have mb := hb.n1
      unfold maxLen at ma mb
      refine J.exit ?_
      refine J.seq ?_
      refine J.seq ?_
      refine J.region ?_
      refine L.va rfl (X.assign (by conv => lhs; whnf)) ?_
      refine L.nil ?_
      refine J.block ?_
      refine J.loop (X := Nat) [6, 10, 48, 49, 50, 51, 52, 53, 54, 55, 56, 57, 58, 59, 60, 61, 62, 63, 64, 65, 66, 67, 68, 69, 70, 71, 72, 73, 74, 75, 76, 77, 78, 79, 80, 81, 82, 83] (fun j => [(10, .int .i64 (j : Int))]) (fun j w' => j ≤ a.nc ∧ j ≤ b.nc ∧ (∀ k, k < j → a.c.getD k 0 = b.c.getD k 0) ∧ Ext w3 w') (fun j => a.nc - j) (0) (At1 (by first | rfl | exact at_int rfl (by omega) | exact at_slice rfl (by omega) | exact at_int rfl (by simp))) ?_ ?_
      · exact ⟨Nat.zero_le _, Nat.zero_le _, fun j hj => absurd hj (by omega), Ext.refl _⟩
      · rintro j g w4 ⟨hj, hj2, hQ, he4⟩
        have he04 := he03.trans he4
        have hk14 := hk13.ext he4
        have hk24 := hk23.ext he4
        have r1 := ha.hc.ext he04
        have r2 := hb.hc.ext he04
        refine J.seq ?_
        refine J.seq ?_
        refine J.region ?_
        refine L.va rfl (X.move (by conv => lhs; whnf)) ?_
        refine L.va rfl (X.fieldAddr rfl Try.underlying26 rfl sz_23 (by decide)) ?_
        refine L.va rfl (X.load rfl sc_23 (by first | exact Ld.blk hk14 rfl | exact Ld.blk hk24 rfl | exact Ld.num r1 (by omega) | exact Ld.num r2 (by omega))) ?_
        refine L.va rfl (X.len rfl Try.underlying23) ?_
        refine L.va rfl (X.lss rfl rfl) ?_
        refine L.va rfl (X.move (by conv => lhs; whnf)) ?_
        refine L.caseDec (k := 53) rfl (fun h1 => ?_) (fun h1 => ?_)
        rotate_left
        · refine L.no rfl ?_
          refine L.no rfl ?_
          refine L.no rfl ?_
          refine L.no rfl ?_
          refine L.no rfl ?_
          refine L.va rfl (X.pickF rfl (by conv => lhs; whnf)) ?_
          refine L.nil ?_
          refine J.iteF rfl ?_
          rw [lessB_end (fun k k1 k2 => hQ k (by omega)), la, lb]
          refine J.exit ?_
          refine J.seq ?_
          refine J.region ?_
          refine L.va rfl (X.fieldAddr rfl Try.underlying26 rfl sz_23 (by decide)) ?_
          refine L.va rfl (X.load rfl sc_23 (by first | exact Ld.blk hk14 rfl | exact Ld.blk hk24 rfl | exact Ld.num r1 (by omega) | exact Ld.num r2 (by omega))) ?_
          refine L.va rfl (X.len rfl Try.underlying23) ?_
          refine L.va rfl (X.fieldAddr rfl Try.underlying26 rfl sz_23 (by decide)) ?_
          refine L.va rfl (X.load rfl sc_23 (by first | exact Ld.blk hk14 rfl | exact Ld.blk hk24 rfl | exact Ld.num r1 (by omega) | exact Ld.num r2 (by omega))) ?_
          refine L.va rfl (X.len rfl Try.underlying23) ?_
          refine L.va rfl (X.lss rfl rfl) ?_
          refine L.va rfl (X.assign (by conv => lhs; whnf)) ?_
          refine L.nil ?_
          refine J.ret ?_
          refine fin1 ?_
          exact ⟨congrArg (fun b => Ending.returned (.bool b)) (decide_eq_decide.2 Int.ofNat_lt), he04⟩
        refine L.va rfl (X.move (by conv => lhs; whnf)) ?_
        refine L.va rfl (X.fieldAddr rfl Try.underlying26 rfl sz_23 (by decide)) ?_
        refine L.va rfl (X.load rfl sc_23 (by first | exact Ld.blk hk14 rfl | exact Ld.blk hk24 rfl | exact Ld.num r1 (by omega) | exact Ld.num r2 (by omega))) ?_
        refine L.va rfl (X.len rfl Try.underlying23) ?_
        refine L.va rfl (X.lss rfl rfl) ?_
        refine L.va rfl (X.pickT rfl (by conv => lhs; whnf)) ?_
        refine L.nil ?_
        refine J.dec rfl (fun h2 => ?_) (fun h2 => ?_)
        rotate_left
        · rw [lessB_end (fun k k1 k2 => hQ k (by omega)), la, lb]
          refine J.exit ?_
          refine J.seq ?_
          refine J.region ?_
          refine L.va rfl (X.fieldAddr rfl Try.underlying26 rfl sz_23 (by decide)) ?_
          refine L.va rfl (X.load rfl sc_23 (by first | exact Ld.blk hk14 rfl | exact Ld.blk hk24 rfl | exact Ld.num r1 (by omega) | exact Ld.num r2 (by omega))) ?_
          refine L.va rfl (X.len rfl Try.underlying23) ?_
          refine L.va rfl (X.fieldAddr rfl Try.underlying26 rfl sz_23 (by decide)) ?_
          refine L.va rfl (X.load rfl sc_23 (by first | exact Ld.blk hk14 rfl | exact Ld.blk hk24 rfl | exact Ld.num r1 (by omega) | exact Ld.num r2 (by omega))) ?_
          refine L.va rfl (X.len rfl Try.underlying23) ?_
          refine L.va rfl (X.lss rfl rfl) ?_
          refine L.va rfl (X.assign (by conv => lhs; whnf)) ?_
          refine L.nil ?_
          refine J.ret ?_
          refine fin1 ?_
          exact ⟨congrArg (fun b => Ending.returned (.bool b)) (decide_eq_decide.2 Int.ofNat_lt), he04⟩
        have hA1 := r1.some_ (by omega)
        have hA2 := r2.some_ (by omega)
        refine J.skip ?_
        refine J.seq ?_
        refine J.block ?_
        refine J.seq ?_
        refine J.quiet mixed (by kernel_rfl) ?_
        refine Qt.va rfl (fun w' hw => X.fieldAddr rfl Try.underlying26 rfl sz_23 (by decide)) ?_
        refine Qt.va rfl (fun w' hw => X.load rfl sc_23 (by first | exact Ld.blk (hk14.ext hw) rfl | exact Ld.blk (hk24.ext hw) rfl | exact Ld.num (r1.ext hw) (by omega) | exact Ld.num (r2.ext hw) (by omega) | exact hA1 | exact hA2)) ?_
        refine Qt.va rfl (fun w' hw => X.move (by conv => lhs; whnf)) ?_
        refine Qt.va rfl (fun w' hw => (by first | exact X.index1n rfl rfl Try.underlying23 sz_3 (by first | exact Option.some_ne_none _ | exact r1.some_ (by omega) | exact r2.some_ (by omega) | exact hA1 | exact hA2) (by omega) | exact X.index1 rfl rfl Try.underlying23 sz_3 (by first | exact Option.some_ne_none _ | exact r1.some_ (by omega) | exact r2.some_ (by omega) | exact hA1 | exact hA2) (by omega))) ?_
        refine Qt.va rfl (fun w' hw => X.load rfl sc_3 (by first | exact Ld.blk (hk14.ext hw) rfl | exact Ld.blk (hk24.ext hw) rfl | exact Ld.num (r1.ext hw) (by omega) | exact Ld.num (r2.ext hw) (by omega) | exact hA1 | exact hA2)) ?_
        refine Qt.va rfl (fun w' hw => X.fieldAddr rfl Try.underlying26 rfl sz_23 (by decide)) ?_
        refine Qt.va rfl (fun w' hw => X.load rfl sc_23 (by first | exact Ld.blk (hk14.ext hw) rfl | exact Ld.blk (hk24.ext hw) rfl | exact Ld.num (r1.ext hw) (by omega) | exact Ld.num (r2.ext hw) (by omega) | exact hA1 | exact hA2)) ?_
        refine Qt.va rfl (fun w' hw => X.move (by conv => lhs; whnf)) ?_
        refine Qt.va rfl (fun w' hw => (by first | exact X.index1n rfl rfl Try.underlying23 sz_3 (by first | exact Option.some_ne_none _ | exact r1.some_ (by omega) | exact r2.some_ (by omega) | exact hA1 | exact hA2) (by omega) | exact X.index1 rfl rfl Try.underlying23 sz_3 (by first | exact Option.some_ne_none _ | exact r1.some_ (by omega) | exact r2.some_ (by omega) | exact hA1 | exact hA2) (by omega))) ?_
        refine Qt.va rfl (fun w' hw => X.load rfl sc_3 (by first | exact Ld.blk (hk14.ext hw) rfl | exact Ld.blk (hk24.ext hw) rfl | exact Ld.num (r1.ext hw) (by omega) | exact Ld.num (r2.ext hw) (by omega) | exact hA1 | exact hA2)) ?_
        refine Qt.va rfl (fun w' hw => X.neq rfl rfl) ?_
        refine Qt.nil (fun w5 hq => ?_)
        replace hk14 := hk14.ext hq
        replace hk24 := hk24.ext hq
        replace r1 := r1.ext hq
        replace r2 := r2.ext hq
        refine J.ndec rfl (fun hd => ?_) (fun hd => ?_)
        · rw [lessB_at (i := j) (by omega) (by omega) hQ hd]
          refine J.seq ?_
          refine J.quiet mixed (by kernel_rfl) ?_
          refine Qt.va rfl (fun w' hw => X.fieldAddr rfl Try.underlying26 rfl sz_23 (by decide)) ?_
          refine Qt.va rfl (fun w' hw => X.load rfl sc_23 (by first | exact Ld.blk (hk14.ext hw) rfl | exact Ld.blk (hk24.ext hw) rfl | exact Ld.num (r1.ext hw) (by omega) | exact Ld.num (r2.ext hw) (by omega) | exact hA1 | exact hA2)) ?_
          refine Qt.va rfl (fun w' hw => X.move (by conv => lhs; whnf)) ?_
          refine Qt.va rfl (fun w' hw => (by first | exact X.index1n rfl rfl Try.underlying23 sz_3 (by first | exact Option.some_ne_none _ | exact r1.some_ (by omega) | exact r2.some_ (by omega) | exact hA1 | exact hA2) (by omega) | exact X.index1 rfl rfl Try.underlying23 sz_3 (by first | exact Option.some_ne_none _ | exact r1.some_ (by omega) | exact r2.some_ (by omega) | exact hA1 | exact hA2) (by omega))) ?_
          refine Qt.va rfl (fun w' hw => X.load rfl sc_3 (by first | exact Ld.blk (hk14.ext hw) rfl | exact Ld.blk (hk24.ext hw) rfl | exact Ld.num (r1.ext hw) (by omega) | exact Ld.num (r2.ext hw) (by omega) | exact hA1 | exact hA2)) ?_
          refine Qt.va rfl (fun w' hw => X.fieldAddr rfl Try.underlying26 rfl sz_23 (by decide)) ?_
          refine Qt.va rfl (fun w' hw => X.load rfl sc_23 (by first | exact Ld.blk (hk14.ext hw) rfl | exact Ld.blk (hk24.ext hw) rfl | exact Ld.num (r1.ext hw) (by omega) | exact Ld.num (r2.ext hw) (by omega) | exact hA1 | exact hA2)) ?_
          refine Qt.va rfl (fun w' hw => X.move (by conv => lhs; whnf)) ?_
          refine Qt.va rfl (fun w' hw => (by first | exact X.index1n rfl rfl Try.underlying23 sz_3 (by first | exact Option.some_ne_none _ | exact r1.some_ (by omega) | exact r2.some_ (by omega) | exact hA1 | exact hA2) (by omega) | exact X.index1 rfl rfl Try.underlying23 sz_3 (by first | exact Option.some_ne_none _ | exact r1.some_ (by omega) | exact r2.some_ (by omega) | exact hA1 | exact hA2) (by omega))) ?_
          refine Qt.va rfl (fun w' hw => X.load rfl sc_3 (by first | exact Ld.blk (hk14.ext hw) rfl | exact Ld.blk (hk24.ext hw) rfl | exact Ld.num (r1.ext hw) (by omega) | exact Ld.num (r2.ext hw) (by omega) | exact hA1 | exact hA2)) ?_
          refine Qt.va rfl (fun w' hw => X.lss rfl rfl) ?_
          refine Qt.va rfl (fun w' hw => X.assign (by conv => lhs; whnf)) ?_
          refine Qt.nil (fun w6 hq6 => ?_)
          replace hk14 := hk14.ext hq6
          replace hk24 := hk24.ext hq6
          replace r1 := r1.ext hq6
          replace r2 := r2.ext hq6
          refine J.ret ?_
          refine inB_ret <|  thn_ret <|  thn_ret <|  inB_ret <|  thn_ret <| ?_
          refine fin1 ?_
          exact ⟨rfl, (he04.trans hq).trans hq6⟩
        · skip
          refine J.skip ?_
          refine J.region ?_
          refine L.va rfl (X.move (by conv => lhs; whnf)) ?_
          refine L.va rfl (X.add rfl rfl (by omega)) ?_
          refine L.va rfl (X.assign (by conv => lhs; whnf)) ?_
          refine L.nil ?_
          refine ⟨j + 1, At1 (by first | rfl | exact at_int rfl (by omega) | exact at_slice rfl (by omega) | exact at_int rfl (by simp)), (by (iterate 27 refine Agr.lk rfl ?_); exact Agr.lk rfl (Agr.hav rfl Agr.rfl')), ?_⟩
          refine ⟨⟨by omega, by omega, fun k hk => ?_, he4.trans hq⟩, by omega⟩
          rcases Nat.lt_or_ge k j with h | h
          · exact hQ k h
          · obtain rfl : k = j := by omega
            exact hd
end Go.Proofs.Ytjleobcbgldhmaa
namespace Go.Proofs.Ytjleobcbgldhmaa
set_option maxRecDepth 100000
open Go.RowKit H
open Byts Cod Flo Odr
set_option linter.unusedVariables false
def okN (z : Int) : Prop := -9223372036854775808 ≤ z ∧ z ≤ 9223372036854775807
def Rw.Ok (r : Rw) : Prop := (∀ v ∈ r.v, okN v.n) ∧ ∀ z ∈ r.c, okN z
theorem cI_len {z : Int} (h : okN z) : (cI z).length ≤ 9 := by
  unfold okN at h
  unfold cI
  by_cases hz : 0 ≤ z
  · have h8 := wd_le8 (x := z) hz (by omega)
    rw [if_pos hz, List.length_cons, bz_length]; omega
  · have h8 := wd_le8 (x := -(z + 1)) (by omega) (by omega)
    rw [if_neg hz, List.length_cons, inv_length, bz_length]; omega
theorem vC_len {v : Vl} (h : okN v.n) : (vC v).length ≤ 10 := by
  have := cI_len h
  unfold vC
  split
  · rw [List.length_cons, be_length]; omega
  · rw [List.length_cons]; omega
theorem valAt_ok {r : Rw} (h : r.Ok) (c : Int) : okN (valAt r c).n := by
  unfold valAt
  split
  · exact ⟨by decide, by decide⟩
  · rcases Nat.lt_or_ge c.toNat r.v.length with k | k
    · rw [List.getD, List.getElem?_eq_getElem k]; exact h.1 _ (List.getElem_mem k)
    · rw [List.getD, List.getElem?_eq_none k]; exact ⟨by decide, by decide⟩
theorem colC_len {r : Rw} (h : r.Ok) (x : Int × Bool) : (colC r x).length ≤ 10 := by
  have := vC_len (valAt_ok h x.1)
  unfold colC
  split
  · rw [inv_length]; exact this
  · exact this
theorem flat_le {α : Type} {f : α → List Int} {k : Nat} : ∀ {l : List α}, (∀ x ∈ l, (f x).length ≤ k) → (l.flatMap f).length ≤ k * l.length
  | [], _ => by simp
  | x :: t, h => by
    have h1 := h x (by simp)
    have h2 := flat_le (l := t) fun y hy => h y (by simp [hy])
    rw [List.flatMap_cons, List.length_append, List.length_cons, Nat.mul_succ]
    omega
def turned (p u : List Int) (k : Nat) : List Int := p ++ (inv (u.take k) ++ u.drop k)
theorem turned_0 (p u : List Int) : turned p u 0 = p ++ u := by simp [turned, inv]
theorem turned_all (p u : List Int) : turned p u u.length = p ++ inv u := by simp [turned]
theorem turned_at {p u : List Int} {k : Nat} (h : k < u.length) : (turned p u k).getD (p.length + k) 0 = u.getD k 0 := by
  have hl : (p ++ inv (u.take k)).length = p.length + k := by rw [List.length_append, inv_length, List.length_take]; omega
  unfold turned
  rw [← List.append_assoc, List.getD, List.getElem?_append_right (by omega), hl, Nat.sub_self, List.getElem?_drop, Nat.add_zero]
  rfl
theorem turned_set {p u : List Int} {k : Nat} (h : k < u.length) : (turned p u k).set (p.length + k) (255 - u.getD k 0) = turned p u (k + 1) := by
  have hl : (p ++ inv (u.take k)).length = p.length + k := by rw [List.length_append, inv_length, List.length_take]; omega
  have e1 : u.take (k + 1) = u.take k ++ [u.getD k 0] := by rw [List.take_add_one, List.getElem?_eq_getElem h, List.getD, List.getElem?_eq_getElem h]; rfl
  unfold turned
  rw [← List.append_assoc, List.set_append_right _ _ (by omega), hl, Nat.sub_self, List.drop_eq_getElem_cons h, List.set_cons_zero, e1]
  unfold inv
  rw [List.map_append]
  simp
theorem inv_bytes {u : List Int} (h : ∀ z ∈ u, 0 ≤ z ∧ z < 256) : ∀ z ∈ inv u, 0 ≤ z ∧ z < 256 := by
  intro z hz
  obtain ⟨y, hy, rfl⟩ := List.mem_map.1 hz
  have := h y hy
  omega
theorem cI_bytes {z : Int} (h : okN z) : ∀ b ∈ cI z, 0 ≤ b ∧ b < 256 := by
  unfold okN at h
  unfold cI
  intro b hb
  by_cases hz : 0 ≤ z
  · have h8 := wd_le8 (x := z) hz (by omega)
    rw [if_pos hz] at hb
    rcases List.mem_cons.1 hb with rfl | hb
    · omega
    · exact bz_bytes _ b hb
  · have h8 := wd_le8 (x := -(z + 1)) (by omega) (by omega)
    rw [if_neg hz] at hb
    rcases List.mem_cons.1 hb with rfl | hb
    · omega
    · exact inv_bytes (bz_bytes _) b hb
theorem vC_bytes {v : Vl} (h : okN v.n) : ∀ b ∈ vC v, 0 ≤ b ∧ b < 256 := by
  unfold vC
  intro b hb
  split at hb
  · rcases List.mem_cons.1 hb with rfl | hb
    · decide
    · exact be_bytes _ _ b hb
  · rcases List.mem_cons.1 hb with rfl | hb
    · decide
    · exact cI_bytes h b hb
theorem compl8 {y : Int} (h : 0 ≤ y ∧ y < 256) : bits .xor .u8 (if IntKind.u8.signed then -1 else IntKind.u8.max) y = 255 - y := by
  obtain ⟨b, rfl⟩ := Int.eq_ofNat_of_zero_le h.1
  have k := u8_xor_nat 255 b (by decide) (by omega)
  have e : ∀ b : Nat, b < 256 → 255 ^^^ b = 255 - b := by decide
  rw [e b (by omega)] at k
  refine Eq.trans k ?_
  omega
end Go.Proofs.Ytjleobcbgldhmaa
namespace Go.Proofs.Ytjleobcbgldhmaa
set_option maxRecDepth 100000
open Go.RowKit H
open Byts Cod Flo Odr
set_option linter.unusedVariables false
theorem okey (A : Option Addr) (n c : Nat) (o : List (Int × Bool)) (r : Rw) (w : World) (ho : Reads w w.heap.size 2 A n (o.flatMap oR)) (lo : o.length = n) (hn : n ≤ 20) (hr : r.At w.heap.size w) (hk : r.Ok) (hnc : r.nc ≤ 20) :
    Calls Try.prog 6 #[.slice A n c, r.val] w fun e w' => ∃ A' c', e = .returned (.slice A' (keyO o r).length c') ∧ w'.ownsRow w.heap.size 5 1 (.slice A' (keyO o r).length c') (keyO o r).length (nums .u8 (keyO o r)) ∧ Ext w w' := by
  have hP : ∀ i, ((o.take i).flatMap (colC r)).length ≤ 200 := fun i => by
    have h := flat_le (l := o.take i) (f := colC r) (k := 10) fun x _ => colC_len hk x
    have h2 : (o.take i).length ≤ 20 := by rw [List.length_take]; omega
    omega
  refine enter Try.func6 rfl (by kernel_rfl) ?_
  refine J.seq ?_
  refine J.region ?_
  refine L.boxA (l := [_, _]) rfl rfl ?_
  intro b1 w1 hb1 hs1 hk1 he1
  have hk1 : Blk w1 b1 26 r.vs.toArray := hk1
  have z1 := he1.le
  refine L.va rfl (X.assign (by conv => lhs; whnf)) ?_
  refine L.nil ?_
  refine J.seq ?_
  refine J.region ?_
  refine L.va rfl (X.assign (by conv => lhs; whnf)) ?_
  refine L.nil ?_
  refine J.seq ?_
  refine J.seq ?_
  refine J.region ?_
  refine L.va rfl (X.move (by conv => lhs; whnf)) ?_
  refine L.va rfl (X.len rfl Try.underlying22) ?_
  refine L.va rfl (X.move (by conv => lhs; whnf)) ?_
  refine L.nil ?_
  refine J.block ?_
  refine J.loop (X := Nat × Option Addr × Nat × Nat) [5, 7, 8, 9, 10, 15, 16, 17, 18, 19, 20, 21, 22, 23, 24, 25, 26, 27, 28, 29, 30, 31, 32, 33, 34, 35, 36, 37, 38, 39, 40, 41, 42, 43, 44, 45, 46, 47, 48, 49, 50, 51, 52, 53, 54, 55, 56, 57, 58, 59, 60] (fun (i, B, m, d) => [(15, .int .i64 (i : Int)), (5, .slice B m d)]) (fun (i, B, m, d) w' => i ≤ n ∧ m = ((o.take i).flatMap (colC r)).length ∧ w'.ownsRow w1.heap.size 5 1 (.slice B m d) m (nums .u8 ((o.take i).flatMap (colC r))) ∧ Ext w1 w') (fun (i, _) => n - i) ((0, none, 0, 0)) (At2 (by first | rfl | exact at_int rfl (by omega) | exact at_slice rfl (by omega) | exact at_int rfl (by simp)) (by first | rfl | exact at_int rfl (by omega) | exact at_slice rfl (by omega) | exact at_int rfl (by simp))) ?_ ?_
  · exact ⟨Nat.zero_le _, rfl, own_nil _ _ _ _, Ext.refl _⟩
  · rintro ⟨i, B, m, d⟩ g w2 ⟨hi, hm, ho2, he2⟩
    have he02 := he1.trans he2
    have hk2 := hk1.ext he2
    have z2 := he2.le
    have hmP := hP i
    refine J.seq ?_
    refine J.region ?_
    refine L.va rfl (X.lss rfl rfl) ?_
    refine L.nil ?_
    refine J.seq ?_
    refine J.dec rfl (fun hlt => ?_) (fun hlt => ?_)
    · have hin : i < o.length := by omega
      obtain ⟨x, hx⟩ : ∃ x, x = o.getD i or0 := ⟨_, rfl⟩
      have hgt := gtOr hin
      rw [← hx] at hgt
      have o2 := ho.ext he02
      have hA := o2.some_ (by omega)
      refine J.skip ?_
      refine J.seq ?_
      refine J.block ?_
      refine J.seq ?_
      refine J.region ?_
      refine L.va rfl ((by first | exact X.indexAddrn rfl rfl Try.underlying22 sz_37 (by first | exact Option.some_ne_none _ | exact hA) (by omega) | exact X.indexAddr rfl rfl Try.underlying22 sz_37 (by first | exact Option.some_ne_none _ | exact hA) (by omega))) ?_
      refine L.va rfl (X.loadRow (cs := oR x) rfl o2 (fun r u hu => flat_row oR_len hgt r u hu) (Nat.zero_lt_succ _) Try.underlying37 rfl (by kernel_rfl)) ?_
      refine L.alloc rfl zr_37 ?_
      intro b7 w3 hb7 hs7 hk7 he3
      have ho3 := ho2.ext he3
      refine L.storeAgg (vs := [_, _]) rfl rfl rfl rfl sz_37 (hk7) rfl ?_
      intro w4 hk4 hg4 hs4
      have he24 : Ext w2 w4 := he3.grw hg4 (by intro g hg; injection hg with hg; omega)
      have hk4 : Blk w4 b7 37 (oR x).toArray := hk4
      have ho4 := ho3.kept hg4 (.inr (own_blk_ne ho3 hk7 (by decide)))
      have hk14 := hk2.ext he24
      have he14 := he2.trans he24
      have he04 := he1.trans he14
      have z4 := he14.le
      obtain ⟨v, hv⟩ : ∃ v, v = valAt r x.1 := ⟨_, rfl⟩
      have hvx := valAt_lt hr x.1
      have hvn := valAt_ok hk x.1
      rw [← hv] at hvx hvn
      have hvl := vC_len hvn
      unfold okN at hvn
      refine L.nil ?_
      refine J.seq ?_
      refine J.region ?_
      refine L.va rfl (X.move (by conv => lhs; whnf)) ?_
      refine L.va rfl (X.len rfl Try.underlying30) ?_
      refine L.va rfl (X.assign (by conv => lhs; whnf)) ?_
      refine L.nil ?_
      refine J.cut (X := Option Addr × Nat) [5, 9, 21, 22, 23, 24, 25, 26, 27, 28, 29, 30, 31, 32, 33, 34, 35, 36, 37, 38, 39, 40] (fun (B, d) => [(5, .slice B (m + (vC v).length) d)]) (fun (B, d) w' => w'.ownsRow w1.heap.size 5 1 (.slice B (m + (vC v).length) d) (m + (vC v).length) (nums .u8 ((o.take i).flatMap (colC r) ++ vC v)) ∧ Blk w' b7 37 (oR x).toArray ∧ Ext w1 w') ?_ ?_
      · have kv := oval r x.1 w4 ((hr.ext he04).more he04.le)
        rw [← hv] at kv
        refine J.seq ?_
        refine J.region ?_
        refine L.va rfl ((by first | exact X.loadAgg rfl (range_l hk14) Try.underlying26 rfl (by kernel_rfl) | exact X.loadAgg rfl (range_blk hk14) Try.underlying26 rfl (by kernel_rfl) | exact X.loadAgg rfl (range_l hk4) Try.underlying26 rfl (by kernel_rfl) | exact X.loadAgg rfl (range_blk hk4) Try.underlying26 rfl (by kernel_rfl))) ?_
        refine L.va rfl (X.fieldAddr rfl Try.underlying37 rfl sz_3 (by decide)) ?_
        refine L.va rfl (X.load rfl sc_3 (by first | exact Ld.blk hk14 rfl | exact Ld.blk hk4 rfl | exact hA)) ?_
        refine L.call rfl en_14 rfl (kv) ?_
        rintro e w5 ⟨rfl, he5⟩
        refine ⟨_, rfl, ?_⟩
        have he5 : Ext w4 w5 := he5
        refine L.alloc rfl zr_40 ?_
        intro b9 w6 hb9 hs9 hk9 he6
        refine L.storeAgg (vs := [_, _, _]) rfl rfl rfl rfl sz_40 (hk9) rfl ?_
        intro w7 hk97 hg7 hs7
        have he57 : Ext w5 w7 := he6.grw hg7 (by intro g hg; injection hg with hg; omega)
        have he47 := he5.trans he57
        have he17 := he14.trans he47
        have hk97 : Blk w7 b9 40 v.vs.toArray := hk97
        have ho7 := ho4.ext he47
        have hk77 := hk4.ext he47
        refine L.nil ?_
        refine J.seq ?_
        refine J.region ?_
        refine L.va rfl (X.fieldAddr rfl Try.underlying40 rfl sz_4 (by decide)) ?_
        refine L.va rfl (X.load rfl sc_4 (by first | exact Ld.blk hk97 rfl | exact hA)) ?_
        refine L.nil ?_
        obtain ⟨vr, vn, vx⟩ := v
        dsimp only at hvx hvn
        cases vr
        · refine J.iteF rfl ?_
          have el : (vC ⟨false, vn, vx⟩).length = (cI vn).length + 1 := rfl
          refine J.draw (ℓ := 1000000) (S := (fun w' => Ext w1 w' ∧ Blk w' b9 40 (⟨false, vn, vx⟩ : Vl).vs.toArray)) mixed (fun w8 hSE hS_h => ?_)
          have hS : ((fun w' => Ext w1 w' ∧ Blk w' b9 40 (⟨false, vn, vx⟩ : Vl).vs.toArray)) w8 := ⟨he17.trans hSE, hk97.ext hSE⟩
          have hoX := ho7.ext hSE
          have hkb := hk77.ext hSE
          refine D.va 0 rfl (by kernel_rfl) (fun _ _ _ h => h) rfl (fun w' hw => X.move (by conv => lhs; whnf)) hS ?_
          refine D.va 3 rfl (by kernel_rfl) (fun _ _ _ h => h) rfl (fun w' hw => X.fieldAddr rfl Try.underlying40 rfl sz_2 (by decide)) hS ?_
          refine D.va 4 rfl (by kernel_rfl) (fun _ _ _ h => h) rfl (fun w' hw => X.load rfl sc_2 (by first | exact Ld.blk hw.2 rfl)) hS ?_
          have qz := (hS).1.le
          refine D.one 1 (by kernel_rfl) rfl ?_
          refine L.bslice (vs := [_]) rfl (Evs.cons (by conv => lhs; whnf) Evs.nil) rfl rfl rfl rfl Try.underlying30 sz_5 zr_5 (by decide) ?_
          intro b10 wa hb10 hs10 hk10 hea
          have hS1 := And.intro ((hS).1.trans hea) ((hS).2.ext hea)
          refine L.nil ?_
          refine ⟨fun _ => hS1, ?_⟩
          replace hkb := hkb.ext hea
          try replace hoX := hoX.ext hea
          try replace hoF := hoF.ext hea
          have qy := (hS1).1.le
          refine D.one 2 (by kernel_rfl) rfl ?_
          refine L.appendQ (q := m + 1) (ys := ((o.take i).flatMap (colC r) ++ [0])) rfl rfl rfl Try.underlying30 el_5 (hoX) ((blk_reads (q := 1) (l := nums .u8 [0]) hk10 hk10.lt rfl)) (by omega) (by simp) (by unfold maxLen; omega) (by omega) ?_
          intro B2 d2 wb hoX2 hg10 hb10' hor10
          have hS2 := And.intro ((hS1).1.low hb10' (Nat.le_refl _)) ((hS1).2.grown hg10 (fun e ↦ own_blk_ne hoX (hS1).2 (by decide) e.symm))
          refine L.nil ?_
          refine ⟨fun _ => hS2, ?_⟩
          replace hkb := hkb.grown hg10 (fun e => own_blk_ne hoX hkb (by decide) e.symm)
          try replace hoF := hoF.kept hg10 hneF
          have qx := (hS2).1.le
          refine D.one 5 (by kernel_rfl) rfl ?_
          refine L.call rfl en_16 rfl (code_I vn _ hvn.1 hvn.2) ?_
          rintro e wc ⟨B3, d3, rfl, hoF, hec⟩
          refine ⟨_, rfl, ?_⟩
          have hS3 := And.intro ((hS2).1.trans hec) ((hS2).2.ext hec)
          refine L.nil ?_
          refine ⟨fun _ => hS3, ?_⟩
          try have hneF := own_later hoX hoF
          replace hkb := hkb.ext hec
          try replace hoX := hoX.ext hec
          try replace hoX2 := hoX2.ext hec
          try replace hk10 := hk10.ext hec
          have qw := (hS3).1.le
          refine D.one 6 (by kernel_rfl) rfl ?_
          refine L.appendQ (q := m + (vC ⟨false, vn, vx⟩).length) (ys := ((o.take i).flatMap (colC r) ++ 0 :: cI vn)) rfl rfl rfl Try.underlying30 el_5 (hoX2) ((Reads.of_own hoF)) (by omega) (by simp) (by unfold maxLen; omega) (by omega) ?_
          intro B4 d4 wd ho4 hg4' hb4 hor4
          have hS4 := And.intro ((hS3).1.low hb4 (Nat.le_refl _)) ((hS3).2.grown hg4' (fun e ↦ own_blk_ne hoX2 (hS3).2 (by decide) e.symm))
          refine L.nil ?_
          refine ⟨fun _ => hS4, ?_⟩
          replace hkb := hkb.grown hg4' (fun e => own_blk_ne hoX2 hkb (by decide) e.symm)
          refine D.va 7 rfl (by kernel_rfl) (fun _ _ _ h => h) rfl (fun w' hw => X.assign (by conv => lhs; whnf)) hS4 ?_
          refine D.done (by kernel_rfl) ?_
          refine ⟨(B4, d4), At1 (by first | rfl | exact at_int rfl (by omega) | exact at_slice rfl (by omega) | exact at_int rfl (by simp)), (by (iterate 15 refine Agr.lk rfl ?_); exact Agr.rfl'), ?_⟩
          exact ⟨ho4, hkb, (hS4).1⟩
        · refine J.iteT rfl ?_
          have el : (vC ⟨true, vn, vx⟩).length = 9 := rfl
          refine J.draw (ℓ := 1000000) (S := (fun w' => Ext w1 w' ∧ Blk w' b9 40 (⟨true, vn, vx⟩ : Vl).vs.toArray)) mixed (fun w8 hSE hS_h => ?_)
          have hS : ((fun w' => Ext w1 w' ∧ Blk w' b9 40 (⟨true, vn, vx⟩ : Vl).vs.toArray)) w8 := ⟨he17.trans hSE, hk97.ext hSE⟩
          have hoX := ho7.ext hSE
          have hkb := hk77.ext hSE
          refine D.va 0 rfl (by kernel_rfl) (fun _ _ _ h => h) rfl (fun w' hw => X.move (by conv => lhs; whnf)) hS ?_
          refine D.va 3 rfl (by kernel_rfl) (fun _ _ _ h => h) rfl (fun w' hw => X.fieldAddr rfl Try.underlying40 rfl sz_38 (by decide)) hS ?_
          refine D.va 4 rfl (by kernel_rfl) (fun _ _ _ h => h) rfl (fun w' hw => X.load rfl sc_38 (by first | exact Ld.blk hw.2 rfl)) hS ?_
          have qz := (hS).1.le
          refine D.one 1 (by kernel_rfl) rfl ?_
          refine L.bslice (vs := [_]) rfl (Evs.cons (by conv => lhs; whnf) Evs.nil) rfl rfl rfl rfl Try.underlying30 sz_5 zr_5 (by decide) ?_
          intro b10 wa hb10 hs10 hk10 hea
          have hS1 := And.intro ((hS).1.trans hea) ((hS).2.ext hea)
          refine L.nil ?_
          refine ⟨fun _ => hS1, ?_⟩
          replace hkb := hkb.ext hea
          try replace hoX := hoX.ext hea
          try replace hoF := hoF.ext hea
          have qy := (hS1).1.le
          refine D.one 2 (by kernel_rfl) rfl ?_
          refine L.appendQ (q := m + 1) (ys := ((o.take i).flatMap (colC r) ++ [1])) rfl rfl rfl Try.underlying30 el_5 (hoX) ((blk_reads (q := 1) (l := nums .u8 [1]) hk10 hk10.lt rfl)) (by omega) (by simp) (by unfold maxLen; omega) (by omega) ?_
          intro B2 d2 wb hoX2 hg10 hb10' hor10
          have hS2 := And.intro ((hS1).1.low hb10' (Nat.le_refl _)) ((hS1).2.grown hg10 (fun e ↦ own_blk_ne hoX (hS1).2 (by decide) e.symm))
          refine L.nil ?_
          refine ⟨fun _ => hS2, ?_⟩
          replace hkb := hkb.grown hg10 (fun e => own_blk_ne hoX hkb (by decide) e.symm)
          try replace hoF := hoF.kept hg10 hneF
          have qx := (hS2).1.le
          refine D.one 5 (by kernel_rfl) rfl ?_
          refine L.call rfl en_15 rfl (code_F vx _ hvx) ?_
          rintro e wc ⟨B3, d3, rfl, hoF, hec⟩
          refine ⟨_, rfl, ?_⟩
          have hS3 := And.intro ((hS2).1.trans hec) ((hS2).2.ext hec)
          refine L.nil ?_
          refine ⟨fun _ => hS3, ?_⟩
          try have hneF := own_later hoX hoF
          replace hkb := hkb.ext hec
          try replace hoX := hoX.ext hec
          try replace hoX2 := hoX2.ext hec
          try replace hk10 := hk10.ext hec
          have qw := (hS3).1.le
          refine D.one 6 (by kernel_rfl) rfl ?_
          refine L.appendQ (q := m + (vC ⟨true, vn, vx⟩).length) (ys := ((o.take i).flatMap (colC r) ++ 1 :: be 8 (keyF vx))) rfl rfl rfl Try.underlying30 el_5 (hoX2) ((Reads.of_own hoF)) (by omega) (by simp) (by unfold maxLen; omega) (by omega) ?_
          intro B4 d4 wd ho4 hg4' hb4 hor4
          have hS4 := And.intro ((hS3).1.low hb4 (Nat.le_refl _)) ((hS3).2.grown hg4' (fun e ↦ own_blk_ne hoX2 (hS3).2 (by decide) e.symm))
          refine L.nil ?_
          refine ⟨fun _ => hS4, ?_⟩
          replace hkb := hkb.grown hg4' (fun e => own_blk_ne hoX2 hkb (by decide) e.symm)
          refine D.va 7 rfl (by kernel_rfl) (fun _ _ _ h => h) rfl (fun w' hw => X.assign (by conv => lhs; whnf)) hS4 ?_
          refine D.done (by kernel_rfl) ?_
          refine ⟨(B4, d4), At1 (by first | rfl | exact at_int rfl (by omega) | exact at_slice rfl (by omega) | exact at_int rfl (by simp)), (by (iterate 15 refine Agr.lk rfl ?_); exact Agr.rfl'), ?_⟩
          exact ⟨ho4, hkb, (hS4).1⟩
      · rintro ⟨B, d⟩ g w5 ⟨ho5, hk5, he5⟩
        have hk15 := hk1.ext he5
        have z5 := he5.le
        have e1 : (o.take (i + 1)).flatMap (colC r) = (o.take i).flatMap (colC r) ++ colC r x := by rw [List.take_add_one, List.flatMap_append, hgt]; simp
        have hvl' := hvl
        refine J.seq ?_
        refine J.region ?_
        refine L.va rfl (X.move (by conv => lhs; whnf)) ?_
        refine L.va rfl (X.assign (by conv => lhs; whnf)) ?_
        refine L.nil ?_
        refine J.block ?_
        obtain ⟨xc, xd⟩ := x
        cases xd
        · have e2 : colC r (xc, false) = vC v := by rw [hv]; rfl
          rw [e2] at e1
          refine J.loop (X := Nat) [10, 42, 43, 44, 45, 46, 47, 48, 49, 50, 51, 52, 53, 54, 55, 56, 57, 58, 59] (fun k => [(10, .int .i64 ((m + k : Nat) : Int))]) (fun k w' => k = 0 ∧ w' = w5) (fun k => 0) (0) (At1 (by first | rfl | exact at_int rfl (by omega) | exact at_slice rfl (by omega) | exact at_int rfl (by simp))) ?_ ?_
          · exact ⟨rfl, rfl⟩
          · rintro k g w6 ⟨rfl, rfl⟩
            refine J.seq ?_
            refine J.seq ?_
            refine J.region ?_
            refine L.va rfl (X.fieldAddr rfl Try.underlying37 rfl sz_4 (by decide)) ?_
            refine L.va rfl (X.load rfl sc_4 (by first | exact Ld.blk hk14 rfl | exact Ld.blk hk4 rfl | exact Ld.blk hk15 rfl | exact Ld.blk hk5 rfl | exact hA)) ?_
            refine L.va rfl (X.move (by conv => lhs; whnf)) ?_
            refine L.caseBF (k := 44) rfl (by rfl) ?_
            refine L.no rfl ?_
            refine L.no rfl ?_
            refine L.no rfl ?_
            refine L.no rfl ?_
            refine L.va rfl (X.pickF rfl (by conv => lhs; whnf)) ?_
            refine L.nil ?_
            refine J.iteF rfl ?_
            refine J.exit ?_
            refine J.region ?_
            refine L.va rfl (X.add rfl rfl (by omega)) ?_
            refine L.va rfl (X.move (by conv => lhs; whnf)) ?_
            refine L.nil ?_
            refine ⟨(i + 1, B, m + (vC v).length, d), At2 (by first | rfl | exact at_int rfl (by omega) | exact at_slice rfl (by omega) | exact at_int rfl (by simp)) (by first | rfl | exact at_int rfl (by omega) | exact at_slice rfl (by omega) | exact at_int rfl (by simp)), (by (iterate 11 refine Agr.lk rfl ?_); refine Agr.lk rfl ?_; refine Agr.hav rfl ?_; (iterate 2 refine Agr.lk rfl ?_); refine Agr.lk rfl ?_; refine Agr.hav rfl ?_; (iterate 7 refine Agr.lk rfl ?_); exact Agr.lk rfl (Agr.hav rfl Agr.rfl')), ?_⟩
            refine ⟨⟨by omega, ?_, ?_, he5⟩, by show n - (i + 1) < n - i; omega⟩
            · rw [e1, List.length_append, hm]
            · rw [e1]; exact ho5
        · have e2 : colC r (xc, true) = inv (vC v) := by rw [hv]; rfl
          rw [e2] at e1
          have hub := vC_bytes (v := v) hvn
          obtain ⟨u, hu⟩ : ∃ u, u = vC v := ⟨_, rfl⟩
          obtain ⟨p, hp⟩ : ∃ p, p = (o.take i).flatMap (colC r) := ⟨_, rfl⟩
          rw [← hu] at ho5 hub e1 hvl
          rw [← hp] at ho5 e1 hm hmP
          rw [← hu]
          subst hm
          refine J.loop (X := Nat) [10, 42, 43, 44, 45, 46, 47, 48, 49, 50, 51, 52, 53, 54, 55, 56, 57, 58, 59] (fun k => [(10, .int .i64 ((p.length + k : Nat) : Int))]) (fun k w' => k ≤ u.length ∧ w'.ownsRow w1.heap.size 5 1 (.slice B (p.length + u.length) d) (p.length + u.length) (nums .u8 (turned p u k)) ∧ Blk w' b7 37 (oR (xc, true)).toArray ∧ Ext w1 w') (fun k => u.length - k) (0) (At1 (by first | rfl | exact at_int rfl (by omega) | exact at_slice rfl (by omega) | exact at_int rfl (by simp))) ?_ ?_
          · exact ⟨Nat.zero_le _, by rw [turned_0]; exact ho5, hk5, he5⟩
          · rintro k g w6 ⟨hk', ho6, hk6, he6⟩
            refine J.seq ?_
            refine J.seq ?_
            refine J.region ?_
            refine L.va rfl (X.fieldAddr rfl Try.underlying37 rfl sz_4 (by decide)) ?_
            refine L.va rfl (X.load rfl sc_4 (by first | exact Ld.blk hk14 rfl | exact Ld.blk hk4 rfl | exact Ld.blk hk6 rfl | exact hA)) ?_
            refine L.va rfl (X.move (by conv => lhs; whnf)) ?_
            refine L.caseBT (k := 44) rfl (by rfl) ?_
            refine L.va rfl (X.move (by conv => lhs; whnf)) ?_
            refine L.va rfl (X.move (by conv => lhs; whnf)) ?_
            refine L.va rfl (X.len rfl Try.underlying30) ?_
            refine L.va rfl (X.lss rfl rfl) ?_
            refine L.va rfl (X.pickT rfl (by conv => lhs; whnf)) ?_
            refine L.nil ?_
            refine J.dec rfl (fun hlt2 => ?_) (fun hlt2 => ?_)
            · have hku : k < u.length := by omega
              have ht := turned_at (p := p) hku
              have hb := getDb hub k
              refine J.skip ?_
              refine J.seq ?_
              refine J.block ?_
              refine J.region ?_
              refine L.va rfl (X.move (by conv => lhs; whnf)) ?_
              refine L.va rfl (X.move (by conv => lhs; whnf)) ?_
              refine L.va rfl (X.move (by conv => lhs; whnf)) ?_
              refine L.va rfl (X.move (by conv => lhs; whnf)) ?_
              refine L.va rfl ((by first | exact X.index1n rfl rfl Try.underlying30 sz_5 (by first | exact Option.some_ne_none _ | exact own_ne ho6 (by omega) | exact hA) (by omega) | exact X.index1 rfl rfl Try.underlying30 sz_5 (by first | exact Option.some_ne_none _ | exact own_ne ho6 (by omega) | exact hA) (by omega))) ?_
              refine L.va rfl (X.load rfl sc_5 (by first | exact Ld.blk hk14 rfl | exact Ld.blk hk4 rfl | exact Ld.blk hk6 rfl | exact Ld.own ho6 (by omega) | exact hA)) ?_
              refine L.va rfl (X.complE rfl (show bits .xor .u8 (if IntKind.u8.signed then -1 else IntKind.u8.max) ((turned p u k).getD (p.length + k) 0) = 255 - u.getD k 0 by rw [ht]; exact compl8 hb)) ?_
              refine L.va rfl ((by first | exact X.index1n rfl rfl Try.underlying30 sz_5 (by first | exact Option.some_ne_none _ | exact own_ne ho6 (by omega) | exact hA) (by omega) | exact X.index1 rfl rfl Try.underlying30 sz_5 (by first | exact Option.some_ne_none _ | exact own_ne ho6 (by omega) | exact hA) (by omega))) ?_
              refine L.storeON rfl rfl (by conv => lhs; whnf) sz_5 (ho6) (by omega) ?_
              intro w7 ho7 hg7 hb7' hs7
              have ho7 : w7.ownsRow w1.heap.size 5 1 (.slice B (p.length + u.length) d) (p.length + u.length) (nums .u8 ((turned p u k).set (p.length + k) (255 - u.getD k 0))) := ho7
              rw [turned_set hku] at ho7
              have hk7' := hk6.grown hg7 (fun e => own_blk_ne ho6 hk6 (by decide) e.symm)
              refine L.nil ?_
              refine J.region ?_
              refine L.va rfl (X.move (by conv => lhs; whnf)) ?_
              refine L.va rfl (X.add rfl rfl (by omega)) ?_
              refine L.va rfl (X.assign (by conv => lhs; whnf)) ?_
              refine L.nil ?_
              refine ⟨k + 1, At1 (by first | rfl | exact at_int rfl (by omega) | exact at_slice rfl (by omega) | exact at_int rfl (by simp)), (by (iterate 20 refine Agr.lk rfl ?_); exact Agr.lk rfl (Agr.hav rfl Agr.rfl')), ?_⟩
              exact ⟨⟨by omega, ho7, hk7', he6.low hb7' (Nat.le_refl _)⟩, by omega⟩
            · obtain rfl : k = u.length := by omega
              rw [turned_all] at ho6
              refine J.exit ?_
              refine J.region ?_
              refine L.va rfl (X.add rfl rfl (by omega)) ?_
              refine L.va rfl (X.move (by conv => lhs; whnf)) ?_
              refine L.nil ?_
              refine ⟨(i + 1, B, p.length + u.length, d), At2 (by first | rfl | exact at_int rfl (by omega) | exact at_slice rfl (by omega) | exact at_int rfl (by simp)) (by first | rfl | exact at_int rfl (by omega) | exact at_slice rfl (by omega) | exact at_int rfl (by simp)), (by (iterate 11 refine Agr.lk rfl ?_); refine Agr.lk rfl ?_; refine Agr.hav rfl ?_; (iterate 2 refine Agr.lk rfl ?_); refine Agr.lk rfl ?_; refine Agr.hav rfl ?_; (iterate 7 refine Agr.lk rfl ?_); exact Agr.lk rfl (Agr.hav rfl Agr.rfl')), ?_⟩
              refine ⟨⟨by omega, ?_, ?_, he6⟩, by show n - (i + 1) < n - i; omega⟩
              · rw [e1, List.length_append, inv_length]
              · rw [e1]; exact ho6
    · obtain rfl : i = n := by omega
      have e0 : o.take i = o := by rw [← lo, List.take_length]
      have h200 := hP i
      rw [e0] at hm ho2 h200
      have lc := hr.lc
      refine J.exit ?_
      refine J.seq ?_
      refine J.seq ?_
      refine J.region ?_
      refine L.va rfl (X.fieldAddr rfl Try.underlying26 rfl sz_23 (by decide)) ?_
      refine L.va rfl (X.load rfl sc_23 (by first | exact Ld.blk hk2 rfl)) ?_
      refine L.va rfl (X.len rfl Try.underlying23) ?_
      refine L.va rfl (X.move (by conv => lhs; whnf)) ?_
      refine L.nil ?_
      refine J.block ?_
      refine J.loop (X := Nat × Option Addr × Nat × Nat) [5, 12, 64, 65, 66, 67, 68, 69, 70, 71, 72] (fun (j, B, m, d) => [(64, .int .i64 (j : Int)), (5, .slice B m d)]) (fun (j, B, m, d) w' => j ≤ r.nc ∧ m = (o.flatMap (colC r) ++ (r.c.take j).flatMap cI).length ∧ w'.ownsRow w1.heap.size 5 1 (.slice B m d) m (nums .u8 (o.flatMap (colC r) ++ (r.c.take j).flatMap cI)) ∧ Ext w1 w') (fun (j, _) => r.nc - j) ((0, B, m, d)) (At2 (by first | rfl | exact at_int rfl (by omega) | exact at_slice rfl (by omega) | exact at_int rfl (by simp)) (by first | rfl | exact at_int rfl (by omega) | exact at_slice rfl (by omega) | exact at_int rfl (by simp))) ?_ ?_
      · exact ⟨Nat.zero_le _, by simpa using hm, by simpa using ho2, he2⟩
      · rintro ⟨j, B3, m3, d3⟩ g w3 ⟨hj, hm3, ho3, he3⟩
        have r3 := hr.hc.ext (he1.trans he3)
        have z3 := he3.le
        have hf := flat_le (l := r.c.take j) (f := cI) (k := 9) fun z hz => cI_len (hk.2 z (List.mem_of_mem_take hz))
        have hl3 : (r.c.take j).length ≤ 20 := by rw [List.length_take]; omega
        rw [List.length_append] at hm3
        refine J.seq ?_
        refine J.region ?_
        refine L.va rfl (X.lss rfl rfl) ?_
        refine L.nil ?_
        refine J.seq ?_
        refine J.dec rfl (fun hlt => ?_) (fun hlt => ?_)
        · have hjc : j < r.c.length := by omega
          have hA := r3.some_ (by omega)
          have hz : okN (r.c.getD j 0) := by rw [List.getD, List.getElem?_eq_getElem hjc]; exact hk.2 _ (List.getElem_mem hjc)
          have hz9 := cI_len hz
          have e1 : (r.c.take (j + 1)).flatMap cI = (r.c.take j).flatMap cI ++ cI (r.c.getD j 0) := by rw [List.take_add_one, List.flatMap_append, List.getD, List.getElem?_eq_getElem hjc]; simp
          refine J.skip ?_
          refine J.seq ?_
          refine J.block ?_
          refine J.seq ?_
          refine J.region ?_
          refine L.va rfl ((by first | exact X.index1n rfl rfl Try.underlying23 sz_3 (by first | exact Option.some_ne_none _ | exact r3.some_ (by omega) | exact hA) (by omega) | exact X.index1 rfl rfl Try.underlying23 sz_3 (by first | exact Option.some_ne_none _ | exact r3.some_ (by omega) | exact hA) (by omega))) ?_
          refine L.va rfl (X.load rfl sc_3 (by first | exact Ld.num r3 (by omega) | exact hA)) ?_
          refine L.va rfl (X.assign (by conv => lhs; whnf)) ?_
          refine L.nil ?_
          refine J.region ?_
          refine L.va rfl (X.move (by conv => lhs; whnf)) ?_
          refine L.va rfl (X.move (by conv => lhs; whnf)) ?_
          refine L.call rfl en_16 rfl (code_I (r.c.getD j 0) w3 hz.1 hz.2) ?_
          rintro e w4 ⟨B4, d4, rfl, ho4, he4⟩
          refine ⟨_, rfl, ?_⟩
          have z4 := he4.le
          refine L.appendQ (q := m3 + (cI (r.c.getD j 0)).length) (ys := ((o.flatMap (colC r) ++ (r.c.take j).flatMap cI) ++ cI (r.c.getD j 0))) rfl rfl rfl Try.underlying30 el_5 (ho3.ext he4) ((Reads.of_own ho4)) (by omega) (by simp) (by unfold maxLen; omega) (by omega) ?_
          intro B5 d5 w5 ho5 hg5 hb5 hor5
          refine L.va rfl (X.assign (by conv => lhs; whnf)) ?_
          refine L.nil ?_
          refine J.region ?_
          refine L.va rfl (X.add rfl rfl (by omega)) ?_
          refine L.va rfl (X.move (by conv => lhs; whnf)) ?_
          refine L.nil ?_
          refine ⟨(j + 1, B5, m3 + (cI (r.c.getD j 0)).length, d5), At2 (by first | rfl | exact at_int rfl (by omega) | exact at_slice rfl (by omega) | exact at_int rfl (by simp)) (by first | rfl | exact at_int rfl (by omega) | exact at_slice rfl (by omega) | exact at_int rfl (by simp)), (by (iterate 11 refine Agr.lk rfl ?_); exact Agr.lk rfl (Agr.hav rfl Agr.rfl')), ?_⟩
          refine ⟨⟨by omega, ?_, ?_, (he3.trans he4).low hb5 (Nat.le_refl _)⟩, by show r.nc - (j + 1) < r.nc - j; omega⟩
          · rw [e1, List.length_append, List.length_append]; omega
          · rw [e1, ← List.append_assoc]; exact ho5
        · obtain rfl : j = r.nc := by omega
          have e2 : o.flatMap (colC r) ++ (r.c.take r.nc).flatMap cI = keyO o r := by rw [← lc, List.take_length]; rfl
          rw [← List.length_append] at hm3
          rw [e2] at ho3 hm3
          subst hm3
          refine J.exit ?_
          refine J.seq ?_
          refine J.region ?_
          refine L.va rfl (X.move (by conv => lhs; whnf)) ?_
          refine L.va rfl (X.assign (by conv => lhs; whnf)) ?_
          refine L.nil ?_
          refine J.ret ?_
          refine fin1 ?_
          exact ⟨B3, d3, rfl, ho3.mono z1, he1.trans he3⟩
end Go.Proofs.Ytjleobcbgldhmaa
namespace Go.Proofs.Ytjleobcbgldhmaa
set_option maxRecDepth 100000
open Go.RowKit H
open Byts Cod Flo Odr
set_option linter.unusedVariables false
structure By where
  (A : Option Addr) (n c : Nat) (l : List Int)
namespace By
abbrev vs (k : By) : List Value := [.slice k.A k.n k.c]
structure At (k : By) (N : Nat) (w : World) : Prop where
  r : Reads w N 1 k.A k.n (nums .u8 k.l)
  m : k.n ≤ maxLen
theorem At.ext {k : By} {N : Nat} {w w' : World} (h : k.At N w) (he : Ext w w') : k.At N w' := ⟨h.r.ext he, h.m⟩
theorem At.below {k : By} {N : Nat} {w w' : World} (h : k.At N w) (he : Below N w w') : k.At N w' := ⟨h.r.below he, h.m⟩
theorem At.more {k : By} {N N' : Nat} {w : World} (h : k.At N w) (hN : N ≤ N') : k.At N' w := ⟨h.r.more hN, h.m⟩
end By
def by0 : By := ⟨none, 0, 0, []⟩
theorem by_len (k : By) : k.vs.length = 1 := rfl
theorem gtBy {l : List By} {i : Nat} (h : i < l.length) : l[i]? = some (l.getD i by0) := by rw [List.getD, List.getElem?_eq_getElem h]; rfl
theorem memBy {l : List By} {i : Nat} (h : i < l.length) : l.getD i by0 ∈ l := by rw [List.getD, List.getElem?_eq_getElem h]; exact List.getElem_mem _
structure Bys where
  (A : Option Addr) (n c : Nat) (l : List By)
namespace Bys
abbrev val (s : Bys) : Value := .slice s.A s.n s.c
structure At (s : Bys) (N : Nat) (w : World) : Prop where
  r : Reads w N 1 s.A s.n (s.l.flatMap By.vs)
  h : ∀ x ∈ s.l, x.At N w
  l : s.l.length = s.n
  m : s.n ≤ maxLen
theorem At.ext {s : Bys} {N : Nat} {w w' : World} (h : s.At N w) (he : Ext w w') : s.At N w' := ⟨h.r.ext he, fun x hx => (h.h x hx).ext he, h.l, h.m⟩
theorem At.below {s : Bys} {N : Nat} {w w' : World} (h : s.At N w) (he : Below N w w') : s.At N w' := ⟨h.r.below he, fun x hx => (h.h x hx).below he, h.l, h.m⟩
theorem At.more {s : Bys} {N N' : Nat} {w : World} (h : s.At N w) (hN : N ≤ N') : s.At N' w := ⟨h.r.more hN, fun x hx => (h.h x hx).more hN, h.l, h.m⟩
def ahead (s : Bys) (a b : Nat) : Bool := lessB (s.l.getD a by0).l (s.l.getD b by0).l || (!lessB (s.l.getD b by0).l (s.l.getD a by0).l && decide (a < b))
end Bys
theorem tahead (s : Bys) (a b : Nat) (w : World) (h : s.At w.heap.size w) (ha : a < s.n) (hb : b < s.n) : Calls Try.prog 40 #[s.val, .int .i64 (a : Int), .int .i64 (b : Int)] w fun e w' => e = .returned (.bool (s.ahead a b)) ∧ Ext w w' := by
  have hl := h.l
  have hA := h.r.some_ (by omega)
  obtain ⟨x, hx⟩ : ∃ x, x = s.l.getD a by0 := ⟨_, rfl⟩
  obtain ⟨y, hy⟩ : ∃ y, y = s.l.getD b by0 := ⟨_, rfl⟩
  have gx := gtBy (l := s.l) (i := a) (by omega)
  have gy := gtBy (l := s.l) (i := b) (by omega)
  have mx := h.h _ (memBy (l := s.l) (i := a) (by omega))
  have my := h.h _ (memBy (l := s.l) (i := b) (by omega))
  rw [← hx] at gx mx
  rw [← hy] at gy my
  have lx : ∀ (w' : World), Ext w w' → Ld w' (pA s.A a) (.slice x.A x.n x.c) := fun w' hw => by have h := Ld.flat2 by_len (h.r.ext hw) gx (r := 0) rfl; rwa [Nat.mul_one] at h
  have ly : ∀ (w' : World), Ext w w' → Ld w' (pA s.A b) (.slice y.A y.n y.c) := fun w' hw => by have h := Ld.flat2 by_len (h.r.ext hw) gy (r := 0) rfl; rwa [Nat.mul_one] at h
  have e : s.ahead a b = (lessB x.l y.l || (!lessB y.l x.l && decide (a < b))) := by unfold Bys.ahead; rw [← hx, ← hy]
  rw [e]
  have c1 := fun (w' : World) (hw : Ext w w') => code_Less x.A x.n x.c y.A y.n y.c x.l y.l w' ((mx.ext hw).more hw.le).r ((my.ext hw).more hw.le).r mx.m my.m
  have c2 := fun (w' : World) (hw : Ext w w') => code_Less y.A y.n y.c x.A x.n x.c y.l x.l w' ((my.ext hw).more hw.le).r ((mx.ext hw).more hw.le).r my.m mx.m
  refine enter Try.func40 rfl (by kernel_rfl) ?_
  refine J.seq ?_
  refine J.region ?_
  refine L.va rfl (X.assign (by conv => lhs; whnf)) ?_
  refine L.nil ?_
  refine J.seq ?_
  refine J.quiet mixed (by kernel_rfl) ?_
  refine Qt.va rfl (fun w' hw => X.move (by conv => lhs; whnf)) ?_
  refine Qt.va rfl (fun w' hw => X.move (by conv => lhs; whnf)) ?_
  refine Qt.va rfl (fun w' hw => (by first | exact X.index1n rfl rfl Try.underlying47 sz_30 (by first | exact Option.some_ne_none _ | exact hA | exact lx w' hw | exact ly w' hw) (by omega) | exact X.index1 rfl rfl Try.underlying47 sz_30 (by first | exact Option.some_ne_none _ | exact hA | exact lx w' hw | exact ly w' hw) (by omega))) ?_
  refine Qt.va rfl (fun w' hw => X.load rfl sc_30 (by first | exact hA | exact lx w' hw | exact ly w' hw)) ?_
  refine Qt.va rfl (fun w' hw => X.move (by conv => lhs; whnf)) ?_
  refine Qt.va rfl (fun w' hw => X.move (by conv => lhs; whnf)) ?_
  refine Qt.va rfl (fun w' hw => (by first | exact X.index1n rfl rfl Try.underlying47 sz_30 (by first | exact Option.some_ne_none _ | exact hA | exact lx w' hw | exact ly w' hw) (by omega) | exact X.index1 rfl rfl Try.underlying47 sz_30 (by first | exact Option.some_ne_none _ | exact hA | exact lx w' hw | exact ly w' hw) (by omega))) ?_
  refine Qt.va rfl (fun w' hw => X.load rfl sc_30 (by first | exact hA | exact lx w' hw | exact ly w' hw)) ?_
  refine Qt.call rfl en_21 rfl (fun w' hw => calls_ext hw (c1 w' hw)) ?_
  refine Qt.va rfl (fun w' hw => X.move (by conv => lhs; whnf)) ?_
  cases k1 : lessB x.l y.l
  · refine Qt.caseBF (k := 16) rfl (by rfl) ?_
    refine Qt.va rfl (fun w' hw => X.move (by conv => lhs; whnf)) ?_
    refine Qt.va rfl (fun w' hw => X.move (by conv => lhs; whnf)) ?_
    refine Qt.va rfl (fun w' hw => (by first | exact X.index1n rfl rfl Try.underlying47 sz_30 (by first | exact Option.some_ne_none _ | exact hA | exact lx w' hw | exact ly w' hw) (by omega) | exact X.index1 rfl rfl Try.underlying47 sz_30 (by first | exact Option.some_ne_none _ | exact hA | exact lx w' hw | exact ly w' hw) (by omega))) ?_
    refine Qt.va rfl (fun w' hw => X.load rfl sc_30 (by first | exact hA | exact lx w' hw | exact ly w' hw)) ?_
    refine Qt.va rfl (fun w' hw => X.move (by conv => lhs; whnf)) ?_
    refine Qt.va rfl (fun w' hw => X.move (by conv => lhs; whnf)) ?_
    refine Qt.va rfl (fun w' hw => (by first | exact X.index1n rfl rfl Try.underlying47 sz_30 (by first | exact Option.some_ne_none _ | exact hA | exact lx w' hw | exact ly w' hw) (by omega) | exact X.index1 rfl rfl Try.underlying47 sz_30 (by first | exact Option.some_ne_none _ | exact hA | exact lx w' hw | exact ly w' hw) (by omega))) ?_
    refine Qt.va rfl (fun w' hw => X.load rfl sc_30 (by first | exact hA | exact lx w' hw | exact ly w' hw)) ?_
    refine Qt.call rfl en_21 rfl (fun w' hw => calls_ext hw (c2 w' hw)) ?_
    refine Qt.va rfl (fun w' hw => X.not rfl) ?_
    refine Qt.va rfl (fun w' hw => X.move (by conv => lhs; whnf)) ?_
    cases k2 : lessB y.l x.l
    · refine Qt.caseBT (k := 27) rfl (by rfl) ?_
      refine Qt.va rfl (fun w' hw => X.move (by conv => lhs; whnf)) ?_
      refine Qt.va rfl (fun w' hw => X.move (by conv => lhs; whnf)) ?_
      refine Qt.va rfl (fun w' hw => X.lss rfl rfl) ?_
      refine Qt.va rfl (fun w' hw => X.pickT rfl (by conv => lhs; whnf)) ?_
      refine Qt.va rfl (fun w' hw => X.pickF rfl (by conv => lhs; whnf)) ?_
      refine Qt.va rfl (fun w' hw => X.assign (by conv => lhs; whnf)) ?_
      refine Qt.nil (fun w1 hq => ?_)
      refine J.ret ?_
      refine fin1 ?_
      exact ⟨congrArg (fun b => Ending.returned (.bool b)) (decide_eq_decide.2 Int.ofNat_lt), hq⟩
    · refine Qt.caseBF (k := 27) rfl (by rfl) ?_
      refine Qt.no rfl ?_
      refine Qt.no rfl ?_
      refine Qt.no rfl ?_
      refine Qt.va rfl (fun w' hw => X.pickF rfl (by conv => lhs; whnf)) ?_
      refine Qt.va rfl (fun w' hw => X.pickF rfl (by conv => lhs; whnf)) ?_
      refine Qt.va rfl (fun w' hw => X.assign (by conv => lhs; whnf)) ?_
      refine Qt.nil (fun w1 hq => ?_)
      refine J.ret ?_
      refine fin1 ?_
      exact ⟨rfl, hq⟩
  · refine Qt.caseBT (k := 16) rfl (by rfl) ?_
    refine Qt.no rfl ?_
    refine Qt.no rfl ?_
    refine Qt.no rfl ?_
    refine Qt.no rfl ?_
    refine Qt.no rfl ?_
    refine Qt.no rfl ?_
    refine Qt.no rfl ?_
    refine Qt.no rfl ?_
    refine Qt.no rfl ?_
    refine Qt.no rfl ?_
    refine Qt.no rfl ?_
    refine Qt.no rfl ?_
    refine Qt.no rfl ?_
    refine Qt.no rfl ?_
    refine Qt.no rfl ?_
    refine Qt.va rfl (fun w' hw => X.pickT rfl (by conv => lhs; whnf)) ?_
    refine Qt.va rfl (fun w' hw => X.assign (by conv => lhs; whnf)) ?_
    refine Qt.nil (fun w1 hq => ?_)
    refine J.ret ?_
    refine fin1 ?_
    exact ⟨rfl, hq⟩
end Go.Proofs.Ytjleobcbgldhmaa
namespace Go.Proofs.Ytjleobcbgldhmaa
set_option linter.unusedVariables false
def swp (l : List Int) (i j : Nat) : List Int := (l.set i (l.getD j 0)).set j (l.getD i 0)
theorem swp_length (l : List Int) (i j : Nat) : (swp l i j).length = l.length := by simp [swp]
theorem getD_set (l : List Int) (i j : Nat) (x : Int) (hi : i < l.length) : (l.set i x).getD j 0 = if i = j then x else l.getD j 0 := by
  simp only [List.getD, List.getElem?_set]
  split
  · rename_i h
    subst h
    simp
  · rfl
theorem swp_at (l : List Int) {i j : Nat} (hi : i < l.length) (hj : j < l.length) (k : Nat) : (swp l i j).getD k 0 = if k = j then l.getD i 0 else if k = i then l.getD j 0 else l.getD k 0 := by
  unfold swp
  rw [getD_set _ _ _ _ (by simpa using hj), getD_set _ _ _ _ hi]
  by_cases h1 : k = j
  · rw [if_pos h1.symm, if_pos h1]
  · rw [if_neg (fun h => h1 h.symm), if_neg h1]
    by_cases h2 : k = i
    · rw [if_pos h2.symm, if_pos h2]
    · rw [if_neg (fun h => h2 h.symm), if_neg h2]
theorem swp_perm (l : List Int) {i j : Nat} (hi : i < l.length) (hj : j < l.length) : (swp l i j).Perm l := by
  have e1 : l.getD j 0 = l[j] := by simp [List.getD, hj]
  have e2 : l.getD i 0 = l[i] := by simp [List.getD, hi]
  unfold swp
  rw [e1, e2]
  exact List.set_set_perm hi hj
end Go.Proofs.Ytjleobcbgldhmaa
namespace Go.Proofs.Ytjleobcbgldhmaa
set_option linter.unusedVariables false
namespace HeapK
def pickCk (κ : Int → Int) (l : List Int) (i n : Nat) : Nat := if 2 * i + 2 < n ∧ κ (l.getD (2 * i + 2) 0) < κ (l.getD (2 * i + 1) 0) then 2 * i + 2 else 2 * i + 1
theorem pickCk_lt {κ : Int → Int} {l : List Int} {i n : Nat} (h : 2 * i + 1 < n) : i < pickCk κ l i n ∧ pickCk κ l i n < n ∧ (pickCk κ l i n = 2 * i + 1 ∨ pickCk κ l i n = 2 * i + 2) := by
  unfold pickCk
  split <;> omega
theorem pickCk_le {κ : Int → Int} {l : List Int} {i n k : Nat} (h : 2 * i + 1 < n) (hk : k < n) (hp : (k - 1) / 2 = i) (h0 : 0 < k) : κ (l.getD (pickCk κ l i n) 0) ≤ κ (l.getD k 0) := by
  have hk2 : k = 2 * i + 1 ∨ k = 2 * i + 2 := by omega
  unfold pickCk
  split
  · rcases hk2 with rfl | rfl <;> omega
  · rename_i hh
    rcases hk2 with rfl | rfl
    · omega
    · apply Decidable.byContradiction
      intro hc
      exact hh ⟨hk, by omega⟩
def siftDk (κ : Int → Int) : Nat → List Int → Nat → Nat → List Int
  | 0, l, _, _ => l
  | f + 1, l, i, n => if n ≤ 2 * i + 1 then l else if κ (l.getD (pickCk κ l i n) 0) < κ (l.getD i 0) then siftDk κ f (swp l i (pickCk κ l i n)) (pickCk κ l i n) n else l
def siftUk (κ : Int → Int) : Nat → List Int → Nat → List Int
  | 0, l, _ => l
  | f + 1, l, j => if j = 0 ∨ ¬ κ (l.getD j 0) < κ (l.getD ((j - 1) / 2) 0) then l else siftUk κ f (swp l ((j - 1) / 2) j) ((j - 1) / 2)
theorem siftDk_length {κ : Int → Int} : ∀ (f : Nat) (l : List Int) (i n : Nat), (siftDk κ f l i n).length = l.length
  | 0, _, _, _ => rfl
  | f + 1, l, i, n => by
    unfold siftDk
    split
    · rfl
    split
    · rw [siftDk_length f, swp_length]
    · rfl
theorem siftUk_length {κ : Int → Int} : ∀ (f : Nat) (l : List Int) (j : Nat), (siftUk κ f l j).length = l.length
  | 0, _, _ => rfl
  | f + 1, l, j => by
    unfold siftUk
    split
    · rfl
    · rw [siftUk_length f, swp_length]
theorem siftDk_perm {κ : Int → Int} : ∀ (f : Nat) (l : List Int) (i n : Nat), n ≤ l.length → (siftDk κ f l i n).Perm l
  | 0, l, _, _, _ => List.Perm.refl l
  | f + 1, l, i, n, hn => by
    unfold siftDk
    split
    · exact List.Perm.refl l
    rename_i h
    have hp := pickCk_lt (κ := κ) (l := l) (show 2 * i + 1 < n by omega)
    split
    · exact (siftDk_perm f _ _ _ (by rw [swp_length]; exact hn)).trans (swp_perm l (by omega) (by omega))
    · exact List.Perm.refl l
theorem siftUk_perm {κ : Int → Int} : ∀ (f : Nat) (l : List Int) (j : Nat), j < l.length → (siftUk κ f l j).Perm l
  | 0, l, _, _ => List.Perm.refl l
  | f + 1, l, j, hj => by
    unfold siftUk
    split
    · exact List.Perm.refl l
    · exact (siftUk_perm f _ _ (by rw [swp_length]; omega)).trans (swp_perm l (by omega) hj)
theorem siftDk_past {κ : Int → Int} : ∀ (f : Nat) (l : List Int) (i n : Nat), n ≤ l.length → ∀ k, n ≤ k → (siftDk κ f l i n).getD k 0 = l.getD k 0
  | 0, l, _, _, _, _, _ => rfl
  | f + 1, l, i, n, hn, k, hk => by
    unfold siftDk
    split
    · rfl
    rename_i h
    have hp := pickCk_lt (κ := κ) (l := l) (show 2 * i + 1 < n by omega)
    split
    · rw [siftDk_past f _ _ _ (by rw [swp_length]; exact hn) k hk, swp_at l (by omega) (by omega), if_neg (by omega), if_neg (by omega)]
    · rfl
def Heapk (κ : Int → Int) (lo n : Nat) (l : List Int) : Prop := ∀ k, 0 < k → k < n → lo ≤ (k - 1) / 2 → κ (l.getD ((k - 1) / 2) 0) ≤ κ (l.getD k 0)
theorem siftDk_heap {κ : Int → Int} : ∀ (f : Nat) (l : List Int) (i n lo : Nat), n ≤ l.length → n ≤ i + f →
    (∀ k, 0 < k → k < n → lo ≤ (k - 1) / 2 → (k - 1) / 2 ≠ i → κ (l.getD ((k - 1) / 2) 0) ≤ κ (l.getD k 0)) →
    (0 < i → lo ≤ (i - 1) / 2 → ∀ k, 0 < k → k < n → (k - 1) / 2 = i → κ (l.getD ((i - 1) / 2) 0) ≤ κ (l.getD k 0)) → Heapk κ lo n (siftDk κ f l i n)
  | 0, l, i, n, lo, hn, hf, h1, h2 => fun k hk0 hkn hlo => h1 k hk0 hkn hlo (by omega)
  | f + 1, l, i, n, lo, hn, hf, h1, h2 => by
    unfold siftDk
    split
    · rename_i h
      exact fun k hk0 hkn hlo => h1 k hk0 hkn hlo (by omega)
    rename_i h
    have hc : 2 * i + 1 < n := by omega
    obtain ⟨p1, p2, p3⟩ := pickCk_lt (κ := κ) (l := l) hc
    have pm := fun k hk hp h0 => pickCk_le (κ := κ) (l := l) (i := i) (n := n) (k := k) hc hk hp h0
    generalize pickCk κ l i n = j at *
    have hji : (j - 1) / 2 = i := by omega
    split
    · rename_i hlt
      refine siftDk_heap f _ j n lo (by rw [swp_length]; exact hn) (by omega) ?_ ?_
      · intro k hk0 hkn hlo hkj
        rw [swp_at l (by omega) (by omega), swp_at l (by omega) (by omega)]
        by_cases hpi : (k - 1) / 2 = i
        · rw [if_neg (by omega), if_pos hpi]
          by_cases hkj2 : k = j
          · rw [if_pos hkj2]; omega
          · rw [if_neg hkj2, if_neg (by omega)]
            exact pm k hkn hpi hk0
        · rw [if_neg hkj, if_neg hpi]
          by_cases hki : k = i
          · subst hki
            rw [if_neg (by omega), if_pos rfl]
            exact h2 hk0 hlo j (by omega) p2 hji
          · rw [if_neg (by omega), if_neg hki]
            exact h1 k hk0 hkn hlo hpi
      · intro hj0 hlo k hk0 hkn hkj
        rw [swp_at l (by omega) (by omega), swp_at l (by omega) (by omega), hji, if_neg (by omega), if_pos rfl, if_neg (by omega), if_neg (by omega)]
        have := h1 k hk0 hkn (by omega) (by omega)
        rw [hkj] at this
        exact this
    · rename_i hge
      intro k hk0 hkn hlo
      by_cases hpi : (k - 1) / 2 = i
      · have := pm k hkn hpi hk0
        rw [hpi]
        omega
      · exact h1 k hk0 hkn hlo hpi
theorem siftUk_heap {κ : Int → Int} : ∀ (f : Nat) (l : List Int) (j : Nat), j < l.length → j < f →
    (∀ k, 0 < k → k < l.length → k ≠ j → κ (l.getD ((k - 1) / 2) 0) ≤ κ (l.getD k 0)) →
    (0 < j → ∀ k, 0 < k → k < l.length → (k - 1) / 2 = j → κ (l.getD ((j - 1) / 2) 0) ≤ κ (l.getD k 0)) → Heapk κ 0 l.length (siftUk κ f l j)
  | 0, l, j, hj, hf, _, _ => absurd hf (by omega)
  | f + 1, l, j, hj, hf, h1, h2 => by
    unfold siftUk
    split
    · rename_i h
      intro k hk0 hkn _
      by_cases hkj : k = j
      · rcases h with h | h
        · omega
        · rw [hkj]; omega
      · exact h1 k hk0 hkn hkj
    · rename_i h
      rw [not_or] at h
      have hlt : κ (l.getD j 0) < κ (l.getD ((j - 1) / 2) 0) := Decidable.of_not_not h.2
      have hi : (j - 1) / 2 < l.length := by omega
      have hij : (j - 1) / 2 < j := by omega
      have e := swp_length l ((j - 1) / 2) j
      rw [← e]
      refine siftUk_heap f _ _ (by rw [e]; exact hi) (by omega) ?_ ?_
      · intro k hk0 hkn hki
        rw [e] at hkn
        rw [swp_at l hi hj, swp_at l hi hj]
        by_cases hkj : k = j
        · subst hkj
          rw [if_neg (by omega), if_pos rfl, if_pos rfl]
          omega
        · rw [if_neg hkj, if_neg hki]
          by_cases hpj : (k - 1) / 2 = j
          · rw [if_pos hpj]
            exact h2 (by omega) k hk0 hkn hpj
          · rw [if_neg hpj]
            by_cases hpi : (k - 1) / 2 = (j - 1) / 2
            · rw [if_pos hpi]
              have := h1 k hk0 hkn hkj
              rw [hpi] at this
              omega
            · rw [if_neg hpi]
              exact h1 k hk0 hkn hkj
      · intro hi0 k hk0 hkn hki
        rw [e] at hkn
        rw [swp_at l hi hj, swp_at l hi hj, if_neg (by omega), if_neg (by omega)]
        have g1 := h1 ((j - 1) / 2) hi0 hi (by omega)
        by_cases hkj : k = j
        · rw [if_pos hkj]
          exact g1
        · rw [if_neg hkj, if_neg (by omega)]
          have := h1 k hk0 hkn hkj
          rw [hki] at this
          omega
theorem heapk_root {κ : Int → Int} {n : Nat} {l : List Int} (h : Heapk κ 0 n l) : ∀ k, k < n → κ (l.getD 0 0) ≤ κ (l.getD k 0) := by
  intro k
  induction k using Nat.strongRecOn with
  | ind k ih =>
    intro hk
    by_cases h0 : k = 0
    · rw [h0]; omega
    · have h1 := h k (by omega) hk (Nat.zero_le _)
      have h2 := ih ((k - 1) / 2) (by omega) (by omega)
      omega
end HeapK
end Go.Proofs.Ytjleobcbgldhmaa
namespace Go.Proofs.Ytjleobcbgldhmaa
set_option linter.unusedVariables false
namespace Tou
open HeapK
theorem countP_lt {α : Type} {p q : α → Bool} : ∀ {l : List α}, (∀ x ∈ l, p x = true → q x = true) → (∃ x ∈ l, q x = true ∧ p x = false) → l.countP p < l.countP q
  | [], _, h => by obtain ⟨x, hx, _⟩ := h; cases hx
  | a :: l, h, h' => by
    obtain ⟨x, hx, h1, h2⟩ := h'
    have hm : l.countP p ≤ l.countP q := List.countP_mono_left fun y hy => h y (List.mem_cons_of_mem _ hy)
    rw [List.countP_cons, List.countP_cons]
    rcases List.mem_cons.1 hx with rfl | hx
    · rw [h1, h2]
      simp only [if_true, Bool.false_eq_true, if_false]
      omega
    · have := countP_lt (l := l) (fun y hy => h y (List.mem_cons_of_mem _ hy)) ⟨x, hx, h1, h2⟩
      have ha := h a (List.mem_cons_self ..)
      cases hp : p a with
      | false => simp only [Bool.false_eq_true, if_false]; omega
      | true => rw [ha hp]; simp only [if_true]; omega
theorem nodup_sub {α : Type} [DecidableEq α] : ∀ (l m : List α), l.Nodup → (∀ x ∈ l, x ∈ m) → l.length ≤ m.length
  | [], m, _, _ => Nat.zero_le _
  | a :: l, m, hd, h => by
    have hm := h a (List.mem_cons_self ..)
    have h1 := nodup_sub l (m.erase a) (List.nodup_cons.1 hd).2 (fun x hx => (List.mem_erase_of_ne (fun e : x = a => (List.nodup_cons.1 hd).1 (by rw [← e]; exact hx))).2 (h x (List.mem_cons_of_mem _ hx)))
    rw [List.length_erase_of_mem hm] at h1
    have := List.length_pos_of_mem hm
    simp only [List.length_cons]
    omega
theorem nodup_map {α β : Type} {f : α → β} : ∀ {l : List α}, l.Nodup → (∀ x ∈ l, ∀ y ∈ l, f x = f y → x = y) → (l.map f).Nodup
  | [], _, _ => List.nodup_nil
  | a :: l, hd, h => by
    rw [List.map_cons, List.nodup_cons]
    rw [List.nodup_cons] at hd
    refine ⟨fun hm => ?_, nodup_map hd.2 fun x hx y hy => h x (List.mem_cons_of_mem _ hx) y (List.mem_cons_of_mem _ hy)⟩
    obtain ⟨y, hy, e⟩ := List.mem_map.1 hm
    have := h y (List.mem_cons_of_mem _ hy) a (List.mem_cons_self ..) e
    subst this
    exact hd.1 hy
structure Ord (R : Nat → Nat → Bool) : Prop where
  irr : ∀ a, R a a = false
  tr : ∀ {a b c}, R a b = true → R b c = true → R a c = true
  tot : ∀ {a b}, a ≠ b → R a b = false → R b a = true
def pos (R : Nat → Nat → Bool) (n i : Nat) : Nat := (List.range n).countP fun j => R j i
variable {R : Nat → Nat → Bool}
theorem Ord.asym (h : Ord R) {a b : Nat} (k : R a b = true) : R b a = false := by
  cases k2 : R b a with
  | false => rfl
  | true =>
    have := h.tr k k2
    rw [h.irr] at this
    cases this
theorem Ord.pos_lt (h : Ord R) {n a b : Nat} (ha : a < n) (k : R a b = true) : pos R n a < pos R n b :=
  countP_lt (fun x _ hx => h.tr hx k) ⟨a, List.mem_range.2 ha, k, h.irr a⟩
theorem Ord.lt_iff (h : Ord R) {n a b : Nat} (ha : a < n) (hb : b < n) : pos R n a < pos R n b ↔ R a b = true := by
  constructor
  · intro k
    cases e : R a b with
    | true => rfl
    | false =>
      by_cases hab : a = b
      · subst hab; omega
      · have := h.pos_lt hb (h.tot hab e)
        omega
  · exact h.pos_lt ha
theorem Ord.inj (h : Ord R) {n a b : Nat} (ha : a < n) (hb : b < n) (e : pos R n a = pos R n b) : a = b := by
  apply Decidable.byContradiction
  intro hne
  cases k : R a b with
  | true => have := h.pos_lt ha k; omega
  | false => have := h.pos_lt hb (h.tot hne k); omega
def kap (R : Nat → Nat → Bool) (n : Nat) (x : Int) : Int := -((pos R n x.toNat : Nat) : Int)
theorem kap_lt {n : Nat} {x y : Int} : kap R n x < kap R n y ↔ pos R n y.toNat < pos R n x.toNat := by unfold kap; omega
theorem kap_le {n : Nat} {x y : Int} : kap R n x ≤ kap R n y ↔ pos R n y.toNat ≤ pos R n x.toNat := by unfold kap; omega
theorem getD_el {l : List Int} {j : Nat} (h : j < l.length) : l.getD j 0 = l[j] := by simp [List.getD, h]
theorem root_last {n : Nat} {l : List Int} (h : Heapk (kap R n) 0 l.length l) : ∀ x ∈ l, pos R n x.toNat ≤ pos R n (l.getD 0 0).toNat := by
  intro x hx
  obtain ⟨j, hj, rfl⟩ := List.getElem_of_mem hx
  have := heapk_root h j hj
  rw [kap_le, getD_el hj] at this
  exact this
structure In1 (R : Nat → Nat → Bool) (n i k : Nat) (l : List Int) : Prop where
  nd : l.Nodup
  el : ∀ x ∈ l, 0 ≤ x ∧ x < (i : Int)
  hp : Heapk (kap R n) 0 l.length l
  ln : l.length = min i k
  ou : ∀ y : Int, 0 ≤ y → y < (i : Int) → y ∈ l ∨ (l.length = k ∧ ∀ x ∈ l, pos R n x.toNat < pos R n y.toNat)
theorem In1.nil (k : Nat) (n : Nat) : In1 R n 0 k [] :=
  ⟨List.nodup_nil, (fun x hx => by cases hx), (fun k h1 h2 => absurd h2 (by simp)), by simp, fun y h0 h1 => absurd h1 (by omega)⟩
theorem In1.add {n i k : Nat} {l : List Int} (h : In1 R n i k l) (hlt : l.length < k) : In1 R n (i + 1) k (siftUk (kap R n) (l.length + 1) (l ++ [(i : Int)]) l.length) := by
  have hl : (l ++ [(i : Int)]).length = l.length + 1 := by simp
  have hat : ∀ k, k < l.length → (l ++ [(i : Int)]).getD k 0 = l.getD k 0 := fun k hk => by simp only [List.getD, List.getElem?_append_left hk]
  have hP := siftUk_perm (κ := kap R n) (l.length + 1) (l ++ [(i : Int)]) l.length (by omega)
  have hi : (i : Int) ∉ l := fun hm => by have := (h.el _ hm).2; omega
  have hm : ∀ x, x ∈ siftUk (kap R n) (l.length + 1) (l ++ [(i : Int)]) l.length ↔ x ∈ l ∨ x = (i : Int) := fun x => by
    rw [hP.mem_iff, List.mem_append, List.mem_singleton]
  have hln := h.ln
  refine ⟨?_, ?_, ?_, ?_, ?_⟩
  · rw [hP.nodup_iff, List.nodup_append]
    refine ⟨h.nd, by simp, fun a ha b hb e => ?_⟩
    rw [List.mem_singleton] at hb
    subst hb
    subst e
    exact hi ha
  · intro x hx
    rcases (hm x).1 hx with hx | rfl
    · have := h.el x hx; omega
    · omega
  · rw [siftUk_length]
    refine siftUk_heap _ _ _ (by omega) (by omega) (fun k hk0 hkn hne => ?_) (fun hj0 k hk0 hkn hp => ?_)
    · rw [hl] at hkn
      rw [hat _ (by omega), hat _ (by omega)]
      exact h.hp k hk0 (by omega) (Nat.zero_le _)
    · rw [hl] at hkn
      omega
  · rw [siftUk_length, hl]
    omega
  · intro y h0 hy
    refine .inl ((hm y).2 ?_)
    by_cases hyi : y = (i : Int)
    · exact .inr hyi
    · rcases h.ou y h0 (by omega) with k | ⟨k, _⟩
      · exact .inl k
      · omega
theorem mem_put {l : List Int} {v x : Int} (hd : l.Nodup) (hpos : 0 < l.length) : x ∈ l.set 0 v ↔ (x ∈ l ∧ x ≠ l.getD 0 0) ∨ x = v := by
  cases l with
  | nil => exact absurd hpos (by simp)
  | cons a l =>
    rw [List.nodup_cons] at hd
    rw [show (a :: l).getD 0 0 = a from rfl, List.set_cons_zero, List.mem_cons, List.mem_cons]
    constructor
    · rintro (h | h)
      · exact .inr h
      · exact .inl ⟨.inr h, fun e => hd.1 (e ▸ h)⟩
    · rintro (⟨h | h, h2⟩ | h)
      · exact absurd h h2
      · exact .inr h
      · exact .inl h
theorem nodup_put {l : List Int} {v : Int} (hd : l.Nodup) (hv : v ∉ l) : (l.set 0 v).Nodup := by
  cases l with
  | nil => simp
  | cons a l =>
    rw [List.nodup_cons] at hd
    rw [List.set_cons_zero, List.nodup_cons]
    exact ⟨fun h => hv (List.mem_cons_of_mem _ h), hd.2⟩
theorem getD_mem {l : List Int} {j : Nat} (h : j < l.length) : l.getD j 0 ∈ l := by rw [getD_el h]; exact List.getElem_mem _
theorem In1.put {n i k : Nat} {l : List Int} (hR : Ord R) (h : In1 R n i k l) (hin : i < n) (hk : l.length = k) (hk0 : 0 < k) (ha : R i (l.getD 0 0).toNat = true) : In1 R n (i + 1) k (siftDk (kap R n) l.length (l.set 0 (i : Int)) 0 l.length) := by
  have hpos : 0 < l.length := by omega
  have hP := siftDk_perm (κ := kap R n) l.length (l.set 0 (i : Int)) 0 l.length (by simp)
  have hi : (i : Int) ∉ l := fun hm => by have := (h.el _ hm).2; omega
  have hm : ∀ x, x ∈ siftDk (kap R n) l.length (l.set 0 (i : Int)) 0 l.length ↔ (x ∈ l ∧ x ≠ l.getD 0 0) ∨ x = (i : Int) := fun x => by rw [hP.mem_iff, mem_put h.nd hpos]
  have hr := root_last h.hp
  have hrm := getD_mem hpos
  have hrn := h.el _ hrm
  have hlt : pos R n i < pos R n (l.getD 0 0).toNat := hR.pos_lt hin ha
  have hln := h.ln
  have hL : (siftDk (kap R n) l.length (l.set 0 (i : Int)) 0 l.length).length = l.length := by rw [siftDk_length, List.length_set]
  have hlow : ∀ x, x ∈ siftDk (kap R n) l.length (l.set 0 (i : Int)) 0 l.length → pos R n x.toNat < pos R n (l.getD 0 0).toNat := by
    intro x hx
    rcases (hm x).1 hx with ⟨hx, hne⟩ | rfl
    · have h1 := hr x hx
      have h2 := h.el x hx
      rcases Nat.lt_or_eq_of_le h1 with h1 | h1
      · exact h1
      · have := hR.inj (n := n) (a := x.toNat) (b := (l.getD 0 0).toNat) (by omega) (by omega) h1
        omega
    · rw [Int.toNat_natCast]; exact hlt
  refine ⟨?_, ?_, ?_, ?_, ?_⟩
  · rw [hP.nodup_iff]
    exact nodup_put h.nd hi
  · intro x hx
    rcases (hm x).1 hx with ⟨hx, _⟩ | rfl
    · have := h.el x hx; omega
    · omega
  · rw [hL]
    refine siftDk_heap _ _ _ _ _ (by simp) (by omega) (fun k hk0 hkn _ hne => ?_) (fun h0 => absurd h0 (by omega))
    rw [getD_set _ _ _ _ hpos, getD_set _ _ _ _ hpos, if_neg (by omega), if_neg (by omega)]
    exact h.hp k hk0 (by omega) (Nat.zero_le _)
  · rw [hL]
    omega
  · intro y h0 hy
    by_cases hyi : y = (i : Int)
    · exact .inl ((hm y).2 (.inr hyi))
    · by_cases hyr : y = l.getD 0 0
      · refine .inr ⟨by rw [hL]; exact hk, fun x hx => ?_⟩
        rw [hyr]
        exact hlow x hx
      · rcases h.ou y h0 (by omega) with k | ⟨k1, k2⟩
        · exact .inl ((hm y).2 (.inl ⟨k, hyr⟩))
        · refine .inr ⟨by rw [hL]; exact hk, fun x hx => ?_⟩
          have := hlow x hx
          have := k2 _ hrm
          omega
theorem In1.skip {n i k : Nat} {l : List Int} (hR : Ord R) (h : In1 R n i k l) (hin : i < n) (hk : l.length = k) (hk0 : 0 < k) (ha : R i (l.getD 0 0).toNat = false) : In1 R n (i + 1) k l := by
  have hpos : 0 < l.length := by omega
  have hrm := getD_mem hpos
  have hrn := h.el _ hrm
  have hr := root_last h.hp
  have hln := h.ln
  have hlt : pos R n (l.getD 0 0).toNat < pos R n i := hR.pos_lt (by omega) (hR.tot (by omega) ha)
  refine ⟨h.nd, fun x hx => ?_, h.hp, by omega, fun y h0 hy => ?_⟩
  · have := h.el x hx; omega
  · by_cases hyi : y = (i : Int)
    · subst hyi
      refine .inr ⟨hk, fun x hx => ?_⟩
      have := hr x hx
      rw [Int.toNat_natCast]
      omega
    · exact h.ou y h0 (by omega)
structure In2 (R : Nat → Nat → Bool) (n q : Nat) (l : List Int) : Prop where
  nd : l.Nodup
  el : ∀ x ∈ l, 0 ≤ x ∧ x < (n : Int) ∧ pos R n x.toNat < q
  hp : Heapk (kap R n) 0 l.length l
  ln : l.length = q
theorem In1.last {n k : Nat} {l : List Int} (hR : Ord R) (h : In1 R n n k l) : In2 R n l.length l := by
  refine ⟨h.nd, fun x hx => ?_, h.hp, rfl⟩
  have hx2 := h.el x hx
  refine ⟨hx2.1, hx2.2, ?_⟩
  have h1 : pos R n x.toNat = ((List.range n).filter fun j => R j x.toNat).length := List.countP_eq_length_filter ..
  rw [h1]
  have h2 : (((List.range n).filter fun j => R j x.toNat).map fun j : Nat => (j : Int)).length ≤ (l.erase x).length := by
    refine nodup_sub _ _ (nodup_map (List.nodup_range.filter _) fun a _ b _ e => by omega) fun y hy => ?_
    obtain ⟨j, hj, rfl⟩ := List.mem_map.1 hy
    rw [List.mem_filter, List.mem_range] at hj
    have hjx : (j : Int) ≠ x := fun e => by
      have := hj.2
      rw [← e, Int.toNat_natCast, hR.irr] at this
      cases this
    rw [List.mem_erase_of_ne hjx]
    rcases h.ou (j : Int) (by omega) (by omega) with k | ⟨_, k⟩
    · exact k
    · have k1 := k x hx
      have k2 := hR.pos_lt (n := n) hj.1 hj.2
      rw [Int.toNat_natCast] at k1
      omega
  rw [List.length_map, List.length_erase_of_mem hx] at h2
  have := List.length_pos_of_mem hx
  omega
theorem In2.pop {n q : Nat} {l : List Int} (hR : Ord R) (h : In2 R n (q + 1) l) :
    (0 ≤ l.getD 0 0 ∧ l.getD 0 0 < (n : Int) ∧ pos R n (l.getD 0 0).toNat = q) ∧ In2 R n q ((siftDk (kap R n) l.length (swp l 0 (l.length - 1)) 0 (l.length - 1)).take (l.length - 1)) := by
  have hln := h.ln
  have hpos : 0 < l.length := by omega
  have hrm := getD_mem hpos
  have hre := h.el _ hrm
  have hr := root_last h.hp
  have hq : q + 1 ≤ pos R n (l.getD 0 0).toNat + 1 := by
    have hnd : (l.map fun x : Int => pos R n x.toNat).Nodup := nodup_map h.nd fun x hx y hy e => by
      have h1 := h.el x hx
      have h2 := h.el y hy
      have := hR.inj (n := n) (by omega) (by omega) e
      omega
    have := nodup_sub (l.map fun x : Int => pos R n x.toNat) (List.range (pos R n (l.getD 0 0).toNat + 1)) hnd (fun y hy => by
      obtain ⟨x, hx, rfl⟩ := List.mem_map.1 hy
      have := hr x hx
      rw [List.mem_range]
      omega)
    rw [List.length_map, List.length_range] at this
    omega
  have hpq : pos R n (l.getD 0 0).toNat = q := by omega
  refine ⟨⟨hre.1, hre.2.1, hpq⟩, ?_⟩
  have hl : (siftDk (kap R n) l.length (swp l 0 (l.length - 1)) 0 (l.length - 1)).length = l.length := by rw [siftDk_length, swp_length]
  have hpm : (siftDk (kap R n) l.length (swp l 0 (l.length - 1)) 0 (l.length - 1)).Perm l := (siftDk_perm _ _ _ _ (by rw [swp_length]; omega)).trans (swp_perm l hpos (by omega))
  have hlast : (siftDk (kap R n) l.length (swp l 0 (l.length - 1)) 0 (l.length - 1)).getD (l.length - 1) 0 = l.getD 0 0 := by
    rw [siftDk_past _ _ _ _ (by rw [swp_length]; omega) _ (Nat.le_refl _), swp_at l hpos (by omega), if_pos rfl]
  have hheap : Heapk (kap R n) 0 (l.length - 1) (siftDk (kap R n) l.length (swp l 0 (l.length - 1)) 0 (l.length - 1)) := by
    refine siftDk_heap _ _ _ _ _ (by rw [swp_length]; omega) (by omega) (fun k hk0 hkn _ hne => ?_) (fun h0 => absurd h0 (by omega))
    rw [swp_at l hpos (by omega), swp_at l hpos (by omega), if_neg (by omega), if_neg hne, if_neg (by omega), if_neg (by omega)]
    exact h.hp k hk0 (by omega) (Nat.zero_le _)
  generalize siftDk (kap R n) l.length (swp l 0 (l.length - 1)) 0 (l.length - 1) = F at *
  obtain ⟨r, hrr⟩ : ∃ r, r = l.getD 0 0 := ⟨_, rfl⟩
  rw [← hrr] at hlast hrm hre hr hpq
  have e : F = F.take (l.length - 1) ++ [r] := by
    conv => lhs; rw [← List.take_append_drop (l.length - 1) F]
    congr 1
    rw [List.drop_eq_getElem_cons (by omega), List.drop_eq_nil_of_le (by omega)]
    congr 1
    exact (getD_el _).symm.trans hlast
  have hnF : F.Nodup := hpm.nodup_iff.2 h.nd
  have hlt : (F.take (l.length - 1)).length = l.length - 1 := by rw [List.length_take]; omega
  rw [e, List.nodup_append] at hnF
  refine ⟨hnF.1, fun x hx => ?_, ?_, by omega⟩
  · have hxl : x ∈ l := by rw [← hpm.mem_iff, e]; exact List.mem_append_left _ hx
    have h1 := h.el x hxl
    refine ⟨h1.1, h1.2.1, ?_⟩
    have hne : x ≠ r := hnF.2.2 x hx r (by simp)
    have : pos R n x.toNat ≠ q := fun ee => by
      have := hR.inj (n := n) (a := x.toNat) (b := r.toNat) (by omega) (by omega) (by omega)
      omega
    omega
  · intro k hk0 hkn hlo
    rw [hlt] at hkn
    have := hheap k hk0 (by omega) hlo
    have t : ∀ j, j < l.length - 1 → (F.take (l.length - 1)).getD j 0 = F.getD j 0 := fun j hj => by
      simp only [List.getD, List.getElem?_take, if_pos hj]
    rw [t _ (by omega), t _ (by omega)]
    exact this
def Firsts (R : Nat → Nat → Bool) (n m : Nat) (o : List Int) : Prop := o.length = m ∧ ∀ j, j < m → 0 ≤ o.getD j 0 ∧ o.getD j 0 < (n : Int) ∧ pos R n (o.getD j 0).toNat = j
theorem Firsts.unique {n m : Nat} {a b : List Int} (hR : Ord R) (ha : Firsts R n m a) (hb : Firsts R n m b) : a = b := by
  apply List.ext_getElem (by rw [ha.1, hb.1])
  intro j h1 h2
  have k1 := ha.2 j (by rw [← ha.1]; exact h1)
  have k2 := hb.2 j (by rw [← hb.1]; exact h2)
  rw [getD_el h1] at k1
  rw [getD_el h2] at k2
  have := hR.inj (n := n) (a := (a[j]).toNat) (b := (b[j]).toNat) (by omega) (by omega) (by omega)
  omega
end Tou
end Go.Proofs.Ytjleobcbgldhmaa
namespace Go.Proofs.Ytjleobcbgldhmaa
set_option linter.unusedVariables false
open Odr
namespace Tou
theorem lessB_irr : ∀ u : List Int, lessB u u = false
  | [] => rfl
  | a :: u => by
    show (if a ≠ a then _ else lessB u u) = false
    rw [if_neg (fun h => h rfl)]
    exact lessB_irr u
theorem lessB_tr : ∀ {u v x : List Int}, lessB u v = true → lessB v x = true → lessB u x = true
  | _, _, [], _, h => by rw [lessB_nil] at h; cases h
  | _, [], _ :: _, h, _ => by rw [lessB_nil] at h; cases h
  | [], _ :: _, _ :: _, _, _ => rfl
  | a :: u, b :: v, c :: x, h1, h2 => by
    have e1 : (if a ≠ b then decide (a < b) else lessB u v) = true := h1
    have e2 : (if b ≠ c then decide (b < c) else lessB v x) = true := h2
    show (if a ≠ c then decide (a < c) else lessB u x) = true
    by_cases k1 : a = b
    · subst k1
      rw [if_neg (fun h => h rfl)] at e1
      by_cases k2 : a = c
      · subst k2
        rw [if_neg (fun h => h rfl)] at e2 ⊢
        exact lessB_tr e1 e2
      · rw [if_pos k2] at e2 ⊢
        exact e2
    · rw [if_pos k1] at e1
      have e1 := of_decide_eq_true e1
      by_cases k2 : b = c
      · subst k2
        rw [if_pos k1]
        exact decide_eq_true e1
      · rw [if_pos k2] at e2
        have e2 := of_decide_eq_true e2
        rw [if_pos (by omega)]
        exact decide_eq_true (by omega)
theorem lessB_tot : ∀ {u v : List Int}, lessB u v = false → lessB v u = false → u = v
  | [], [], _, _ => rfl
  | [], _ :: _, h, _ => by cases h
  | _ :: _, [], _, h => by cases h
  | a :: u, b :: v, h1, h2 => by
    have e1 : (if a ≠ b then decide (a < b) else lessB u v) = false := h1
    have e2 : (if b ≠ a then decide (b < a) else lessB v u) = false := h2
    by_cases k : a = b
    · subst k
      rw [if_neg (fun h => h rfl)] at e1 e2
      rw [lessB_tot e1 e2]
    · rw [if_pos k] at e1
      rw [if_pos (fun h => k h.symm)] at e2
      have e1 := of_decide_eq_false e1
      have e2 := of_decide_eq_false e2
      omega
def ahL (l : List (List Int)) (a b : Nat) : Bool := lessB (l.getD a []) (l.getD b []) || (!lessB (l.getD b []) (l.getD a []) && decide (a < b))
theorem ahL_iff (l : List (List Int)) (a b : Nat) : ahL l a b = true ↔ lessB (l.getD a []) (l.getD b []) = true ∨ (l.getD a [] = l.getD b [] ∧ a < b) := by
  unfold ahL
  cases k1 : lessB (l.getD a []) (l.getD b []) with
  | true => simp
  | false =>
    cases k2 : lessB (l.getD b []) (l.getD a []) with
    | true =>
      simp only [Bool.false_or, Bool.not_true, Bool.false_and, Bool.false_eq_true, false_or, false_iff]
      rintro ⟨e, _⟩
      rw [e, lessB_irr] at k2
      cases k2
    | false =>
      have e := lessB_tot k1 k2
      simp only [Bool.false_or, Bool.not_false, Bool.true_and, decide_eq_true_eq, Bool.false_eq_true, false_or]
      exact ⟨fun h => ⟨e, h⟩, fun h => h.2⟩
theorem ahL_ord (l : List (List Int)) : Ord (ahL l) := by
  refine ⟨fun a => ?_, fun {a b c} h1 h2 => ?_, fun {a b} hne h => ?_⟩
  · cases k : ahL l a a with
    | false => rfl
    | true =>
      rcases (ahL_iff l a a).1 k with h | ⟨_, h⟩
      · rw [lessB_irr] at h; cases h
      · omega
  · rw [ahL_iff] at h1 h2 ⊢
    rcases h1 with h1 | ⟨h1, k1⟩
    · rcases h2 with h2 | ⟨h2, k2⟩
      · exact .inl (lessB_tr h1 h2)
      · rw [← h2]; exact .inl h1
    · rcases h2 with h2 | ⟨h2, k2⟩
      · rw [h1]; exact .inl h2
      · exact .inr ⟨h1.trans h2, by omega⟩
  · rw [ahL_iff]
    have h1 : ¬ (lessB (l.getD a []) (l.getD b []) = true ∨ (l.getD a [] = l.getD b [] ∧ a < b)) := fun k => by
      rw [(ahL_iff l a b).2 k] at h; cases h
    rw [not_or] at h1
    cases k : lessB (l.getD b []) (l.getD a []) with
    | true => exact .inl rfl
    | false =>
      have e := lessB_tot (by simpa using h1.1) k
      refine .inr ⟨e.symm, ?_⟩
      have : ¬ a < b := fun hh => h1.2 ⟨e, hh⟩
      omega
structure Srt (R : Nat → Nat → Bool) (i : Nat) (Q : List Nat) : Prop where
  pm : Q.Perm (List.range i)
  pw : Q.Pairwise fun a b => R a b = true
variable {R : Nat → Nat → Bool}
theorem Srt.nil : Srt R 0 [] := ⟨List.Perm.refl _, List.Pairwise.nil⟩
theorem Srt.len {i : Nat} {Q : List Nat} (h : Srt R i Q) : Q.length = i := by rw [h.pm.length_eq, List.length_range]
theorem Srt.el {i : Nat} {Q : List Nat} (h : Srt R i Q) : ∀ x ∈ Q, x < i := fun x hx => List.mem_range.1 (h.pm.mem_iff.1 hx)
theorem Srt.put {i a : Nat} {Q : List Nat} (hR : Ord R) (h : Srt R i Q) (ha : a ≤ Q.length) (h1 : ∀ j, j < a → R i (Q.getD j 0) = false) (h2 : a < Q.length → R i (Q.getD a 0) = true) : Srt R (i + 1) (Q.take a ++ i :: Q.drop a) := by
  have hpw := h.pw
  rw [← List.take_append_drop a Q, List.pairwise_append] at hpw
  have t1 : ∀ x ∈ Q.take a, R x i = true := fun x hx => by
    obtain ⟨j, hj, rfl⟩ := List.getElem_of_mem hx
    rw [List.length_take] at hj
    have k := h1 j (by omega)
    have hm := h.el _ (List.mem_of_mem_take hx)
    rw [List.getElem_take] at hm ⊢
    have hj2 : j < Q.length := by omega
    rw [List.getD, List.getElem?_eq_getElem hj2] at k
    exact hR.tot (by omega) k
  have t2 : ∀ y ∈ Q.drop a, R i y = true := fun y hy => by
    by_cases hlt : a < Q.length
    · have k := h2 hlt
      rw [List.getD, List.getElem?_eq_getElem hlt] at k
      have e := List.drop_eq_getElem_cons hlt
      rw [e] at hy
      have hp := hpw.2.1
      rw [e, List.pairwise_cons] at hp
      rcases List.mem_cons.1 hy with rfl | hy
      · exact k
      · exact hR.tr k (hp.1 _ hy)
    · rw [List.drop_eq_nil_of_le (by omega)] at hy
      cases hy
  refine ⟨?_, ?_⟩
  · refine List.perm_middle.trans ?_
    rw [List.take_append_drop, List.range_succ]
    exact (h.pm.cons i).trans (List.perm_append_singleton _ _).symm
  · rw [List.pairwise_append, List.pairwise_cons]
    refine ⟨hpw.1, ⟨t2, hpw.2.1⟩, fun x hx y hy => ?_⟩
    rcases List.mem_cons.1 hy with rfl | hy
    · exact t1 x hx
    · exact hpw.2.2 x hx y hy
theorem Srt.pos {n : Nat} {Q : List Nat} (hR : Ord R) (h : Srt R n Q) {j : Nat} (hj : j < Q.length) : pos R n Q[j] = j := by
  unfold Tou.pos
  rw [← h.pm.countP_eq]
  have e : Q = Q.take j ++ Q[j] :: Q.drop (j + 1) := by
    conv => lhs; rw [← List.take_append_drop j Q]
    rw [List.drop_eq_getElem_cons hj]
  have hpw := h.pw
  generalize hx : Q[j] = x at *
  rw [e, List.pairwise_append, List.pairwise_cons] at hpw
  rw [e, List.countP_append, List.countP_cons, List.countP_eq_length.2 (fun y hy => hpw.2.2 y hy x (List.mem_cons_self ..)), List.countP_eq_zero.2 (fun y hy => by rw [hR.asym (hpw.2.1.1 y hy)]; decide)]
  rw [hR.irr, List.length_take]
  simp only [Bool.false_eq_true, if_false]
  omega
end Tou
end Go.Proofs.Ytjleobcbgldhmaa
namespace Go.Proofs.Ytjleobcbgldhmaa
set_option maxRecDepth 100000
open Go.RowKit H HeapK
set_option linter.unusedVariables false
structure HeapM (t : TypeId) (v : Value) (κ : Int → Int) (S : Nat → Prop) (h : World → List Int → Prop) : Prop where
  ext : ∀ {w w' : World} {l : List Int}, h w l → Ext w w' → h w' l
  big : ∀ {w : World} {l : List Int}, h w l → l.length ≤ 900000
  len : ∀ {w : World} {l : List Int}, h w l → ∃ rv c, Mtd Try.prog t v rv "Len" c w ∧ Calls Try.prog c #[rv] w fun e w' => e = .returned (.int .i64 (l.length : Int)) ∧ w = w'
  less : ∀ {w : World} {l : List Int} {i k : Nat}, h w l → i < l.length → k < l.length → ∃ rv c, Mtd Try.prog t v rv "Less" c w ∧ Calls Try.prog c #[rv, .int .i64 (i : Int), .int .i64 (k : Int)] w fun e w' => e = .returned (.bool (decide (κ (l.getD i 0) < κ (l.getD k 0)))) ∧ Ext w w'
  swap : ∀ {w : World} {l : List Int} {i k : Nat}, h w l → i < l.length → k < l.length → ∃ rv c, Mtd Try.prog t v rv "Swap" c w ∧ Calls Try.prog c #[rv, .int .i64 (i : Int), .int .i64 (k : Int)] w fun e w' => e = .returned (.tuple #[]) ∧ h w' (swp l i k) ∧ Chg S w w'
  pop : ∀ {w : World} {l : List Int}, h w l → 0 < l.length → ∃ rv c, Mtd Try.prog t v rv "Pop" c w ∧ Calls Try.prog c #[rv] w fun e w' => e = .returned (.iface 3 (.int .i64 (l.getD (l.length - 1) 0))) ∧ h w' (l.take (l.length - 1)) ∧ Chg S w w'
namespace HeapM
variable {t : TypeId} {v : Value} {κ : Int → Int} {S : Nat → Prop} {h : World → List Int → Prop}
theorem tr {a b c : World} (x : Chg S a b) (y : Chg S b c) : Chg S a c := x.trans y (fun _ _ hh => hh)
theorem down_ (K : HeapM t v κ S h) {w : World} {l : List Int} (h0 : h w l) (i n : Nat) (hn : n ≤ l.length) (hi : i ≤ l.length) : Calls Try.prog 48 #[.iface t v, .int .i64 (i : Int), .int .i64 (n : Int)] w fun e w' =>
    (∃ b, e = .returned (.bool b)) ∧ h w' (siftDk κ l.length l i n) ∧ Chg S w w' := by
  have hm := K.big h0
  refine enter Try.func48 rfl (by kernel_rfl) ?_
  refine J.seq ?_
  refine J.region ?_
  refine L.va rfl (X.assign (by conv => lhs; whnf)) ?_
  refine L.nil ?_
  refine J.seq ?_
  refine J.region ?_
  refine L.va rfl (X.move (by conv => lhs; whnf)) ?_
  refine L.va rfl (X.assign (by conv => lhs; whnf)) ?_
  refine L.nil ?_
  refine J.seq ?_
  refine J.block ?_
  refine J.loop (X := Nat × Nat × List Int) [7, 8, 9, 10, 12, 13, 14, 15, 16, 17, 18, 19, 20, 21, 22, 23, 24, 25, 26, 27, 28, 29, 30, 31, 32, 33, 34, 35, 36, 37, 38, 39, 40, 41, 42, 43, 44] (fun x => [(7, .int .i64 (x.1 : Int))]) (fun x w' => x.2.2.length = l.length ∧ x.1 ≤ l.length ∧ l.length ≤ x.1 + x.2.1 ∧ h w' x.2.2 ∧ Chg S w w' ∧ siftDk κ x.2.1 x.2.2 x.1 n = siftDk κ l.length l i n) (fun x => x.2.1) ((i, l.length, l)) (At1 (by first | rfl | exact at_int rfl (by omega) | exact at_slice rfl (by omega) | exact at_int rfl (by simp))) ?_ ?_
  · exact ⟨rfl, hi, by dsimp only; omega, h0, .of_ext (Ext.refl _), rfl⟩
  · rintro ⟨a, f, m⟩ g w2 ⟨hl, ha, hf, H, hG, hS⟩
    dsimp only at hl ha hf H hS
    have q1 : ((a, f, m) : Nat × Nat × List Int).1 = a := rfl
    refine J.block ?_
    refine J.seq ?_
    refine J.region ?_
    refine L.va rfl (X.move (by conv => lhs; whnf)) ?_
    refine L.va rfl (X.mul rfl rfl (by omega)) ?_
    refine L.va rfl (X.add rfl rfl (by omega)) ?_
    refine L.va rfl (X.assign (by conv => lhs; whnf)) ?_
    refine L.nil ?_
    refine J.seq ?_
    refine J.seq ?_
    refine J.region ?_
    refine L.va rfl (X.move (by conv => lhs; whnf)) ?_
    refine L.va rfl (X.move (by conv => lhs; whnf)) ?_
    refine L.va rfl (X.geq rfl rfl) ?_
    refine L.va rfl (X.move (by conv => lhs; whnf)) ?_
    refine L.caseDec (k := 18) rfl (fun h1 => ?_) (fun h1 => ?_)
    · have e : siftDk κ f m a n = m := by
        cases f with
        | zero => rfl
        | succ f => unfold siftDk; rw [if_pos (by omega)]
      rw [e] at hS
      rw [hS] at H
      refine L.no rfl ?_
      refine L.no rfl ?_
      refine L.va rfl (X.pickT rfl (by conv => lhs; whnf)) ?_
      refine L.nil ?_
      refine J.iteT rfl ?_
      refine J.exit ?_
      refine J.seq ?_
      refine J.region ?_
      refine L.va rfl (X.move (by conv => lhs; whnf)) ?_
      refine L.va rfl (X.move (by conv => lhs; whnf)) ?_
      refine L.va rfl (X.gtr rfl rfl) ?_
      refine L.va rfl (X.assign (by conv => lhs; whnf)) ?_
      refine L.nil ?_
      refine J.ret ?_
      refine fin1 ?_
      exact ⟨⟨_, rfl⟩, H, hG⟩
    · have h1' : 2 * a + 1 < n := by omega
      obtain ⟨f', rfl⟩ : ∃ f', f = f' + 1 := ⟨f - 1, by omega⟩
      obtain ⟨p1, p2, p3⟩ := pickCk_lt (κ := κ) (l := m) h1'
      have eS : siftDk κ (f' + 1) m a n = if κ (m.getD (pickCk κ m a n) 0) < κ (m.getD a 0) then siftDk κ f' (swp m a (pickCk κ m a n)) (pickCk κ m a n) n else m := by
        rw [siftDk, if_neg (by omega)]
      rw [eS] at hS
      refine L.va rfl (X.move (by conv => lhs; whnf)) ?_
      refine L.va rfl (X.lss rfl rfl) ?_
      refine L.va rfl (X.pickF rfl (by conv => lhs; whnf)) ?_
      refine L.nil ?_
      refine J.decF rfl (by omega) ?_
      refine J.skip ?_
      refine J.seq ?_
      refine J.region ?_
      refine L.va rfl (X.move (by conv => lhs; whnf)) ?_
      refine L.va rfl (X.assign (by conv => lhs; whnf)) ?_
      refine L.nil ?_
      refine J.cut (X := Unit) [9, 10, 23, 24, 25, 26, 27, 28, 29, 30, 31, 32, 33, 34] (fun _ => [(9, .int .i64 ((pickCk κ m a n : Nat) : Int))]) (fun _ w' => Ext w2 w') ?_ ?_
      · refine J.seq ?_
        refine J.region ?_
        refine L.va rfl (X.move (by conv => lhs; whnf)) ?_
        refine L.va rfl (X.add rfl rfl (by omega)) ?_
        refine L.va rfl (X.assign (by conv => lhs; whnf)) ?_
        refine L.nil ?_
        refine J.seq ?_
        refine J.region ?_
        refine L.va rfl (X.move (by conv => lhs; whnf)) ?_
        refine L.va rfl (X.move (by conv => lhs; whnf)) ?_
        refine L.va rfl (X.lss rfl rfl) ?_
        refine L.va rfl (X.move (by conv => lhs; whnf)) ?_
        refine L.caseDec (k := 28) rfl (fun h2 => ?_) (fun h2 => ?_)
        · have h2' : 2 * a + 2 < n := by omega
          obtain ⟨rv, c, hM, hC⟩ := K.less (i := 2 * a + 2) (k := 2 * a + 1) H (by omega) (by omega)
          refine L.va rfl (X.move (by conv => lhs; whnf)) ?_
          refine L.va rfl (X.move (by conv => lhs; whnf)) ?_
          refine L.va rfl (X.move (by conv => lhs; whnf)) ?_
          refine L.invoke rfl rfl (hM) rfl (hC) ?_
          rintro e w3 ⟨rfl, he3⟩
          refine ⟨_, rfl, ?_⟩
          have he3 : Ext w2 w3 := he3
          refine L.va rfl (X.pickT rfl (by conv => lhs; whnf)) ?_
          refine L.nil ?_
          by_cases h3 : κ (m.getD (2 * a + 2) 0) < κ (m.getD (2 * a + 1) 0)
          · rw [decide_eq_true h3]
            refine J.iteT rfl ?_
            refine J.region ?_
            refine L.va rfl (X.move (by conv => lhs; whnf)) ?_
            refine L.va rfl (X.assign (by conv => lhs; whnf)) ?_
            refine L.nil ?_
            refine ⟨(), At1 (at_int rfl (by rw [pickCk, if_pos ⟨h2', h3⟩]; omega)), (by (iterate 15 refine Agr.lk rfl ?_); exact Agr.rfl'), ?_⟩
            exact he3
          · rw [decide_eq_false h3]
            refine J.iteF rfl ?_
            refine J.skip ?_
            refine ⟨(), At1 (at_int rfl (by rw [pickCk, if_neg (fun hh => h3 hh.2)]; omega)), (by (iterate 13 refine Agr.lk rfl ?_); exact Agr.rfl'), ?_⟩
            exact he3
        · refine L.no rfl ?_
          refine L.no rfl ?_
          refine L.no rfl ?_
          refine L.no rfl ?_
          refine L.va rfl (X.pickF rfl (by conv => lhs; whnf)) ?_
          refine L.nil ?_
          refine J.iteF rfl ?_
          refine J.skip ?_
          refine ⟨(), At1 (at_int rfl (by rw [pickCk, if_neg (fun hh => by omega)]; omega)), (by (iterate 13 refine Agr.lk rfl ?_); exact Agr.rfl'), ?_⟩
          exact Ext.refl _
      · rintro ⟨⟩ g w3 he3
        have H3 := K.ext H he3
        generalize pickCk κ m a n = j at *
        obtain ⟨rv, c, hM, hC⟩ := K.less (i := j) (k := a) H3 (by omega) (by omega)
        refine J.seq ?_
        refine J.seq ?_
        refine J.region ?_
        refine L.va rfl (X.move (by conv => lhs; whnf)) ?_
        refine L.va rfl (X.move (by conv => lhs; whnf)) ?_
        refine L.va rfl (X.move (by conv => lhs; whnf)) ?_
        refine L.invoke rfl rfl (hM) rfl (hC) ?_
        rintro e w4 ⟨rfl, he4⟩
        refine ⟨_, rfl, ?_⟩
        have he4 : Ext w3 w4 := he4
        have H4 := K.ext H3 he4
        refine L.va rfl (X.not rfl) ?_
        refine L.nil ?_
        by_cases h3 : κ (m.getD j 0) < κ (m.getD a 0)
        · rw [decide_eq_true h3]
          rw [if_pos h3] at hS
          obtain ⟨rv, c, hM, hC⟩ := K.swap (i := a) (k := j) H4 (by omega) (by omega)
          refine J.iteF rfl ?_
          refine J.skip ?_
          refine J.seq ?_
          refine J.region ?_
          refine L.va rfl (X.move (by conv => lhs; whnf)) ?_
          refine L.va rfl (X.move (by conv => lhs; whnf)) ?_
          refine L.va rfl (X.move (by conv => lhs; whnf)) ?_
          refine L.invoke rfl rfl (hM) rfl (hC) ?_
          rintro e w5 ⟨rfl, H5, hg5⟩
          refine ⟨_, rfl, ?_⟩
          refine L.nil ?_
          refine J.region ?_
          refine L.va rfl (X.move (by conv => lhs; whnf)) ?_
          refine L.va rfl (X.assign (by conv => lhs; whnf)) ?_
          refine L.nil ?_
          refine ⟨(j, f', swp m a j), At1 (by first | rfl | exact at_int rfl (by omega) | exact at_slice rfl (by omega) | exact at_int rfl (by simp)), (by (iterate 11 refine Agr.lk rfl ?_); refine Agr.lk rfl ?_; refine Agr.hav rfl ?_; (iterate 14 refine Agr.lk rfl ?_); exact Agr.lk rfl (Agr.hav rfl Agr.rfl')), ?_⟩
          exact ⟨⟨by dsimp only; rw [swp_length]; exact hl, by dsimp only; omega, by dsimp only; omega, H5, tr hG (tr (.of_ext (he3.trans he4)) hg5), hS⟩, by dsimp only; omega⟩
        · rw [decide_eq_false h3]
          rw [if_neg h3] at hS
          rw [hS] at H4
          refine J.iteT rfl ?_
          refine J.exit ?_
          refine J.seq ?_
          refine J.region ?_
          refine L.va rfl (X.move (by conv => lhs; whnf)) ?_
          refine L.va rfl (X.move (by conv => lhs; whnf)) ?_
          refine L.va rfl (X.gtr rfl rfl) ?_
          refine L.va rfl (X.assign (by conv => lhs; whnf)) ?_
          refine L.nil ?_
          refine J.ret ?_
          refine fin1 ?_
          exact ⟨⟨_, rfl⟩, H4, tr hG (.of_ext (he3.trans he4))⟩
theorem up_ (K : HeapM t v κ S h) {w : World} {l : List Int} (h0 : h w l) (j : Nat) (hj : j < l.length) : Calls Try.prog 47 #[.iface t v, .int .i64 (j : Int)] w fun e w' =>
    e = .returned (.tuple #[]) ∧ h w' (siftUk κ (j + 1) l j) ∧ Chg S w w' := by
  have hm := K.big h0
  refine enter Try.func47 rfl (by kernel_rfl) ?_
  refine J.block ?_
  refine J.loop (X := Nat × Nat × List Int) [1, 4, 5, 6, 7, 8, 9, 10, 11, 12, 13, 14, 15, 16, 17, 18, 19, 20, 21, 22] (fun x => [(1, .int .i64 (x.1 : Int))]) (fun x w' => x.2.2.length = l.length ∧ x.1 < l.length ∧ x.1 < x.2.1 ∧ h w' x.2.2 ∧ Chg S w w' ∧ siftUk κ x.2.1 x.2.2 x.1 = siftUk κ (j + 1) l j) (fun x => x.2.1) ((j, j + 1, l)) (At1 (by first | rfl | exact at_int rfl (by omega) | exact at_slice rfl (by omega) | exact at_int rfl (by simp))) ?_ ?_
  · exact ⟨rfl, hj, by dsimp only; omega, h0, .of_ext (Ext.refl _), rfl⟩
  · rintro ⟨a, f, m⟩ g w2 ⟨hl, ha, hf, H, hG, hS⟩
    dsimp only at hl ha hf H hS
    have q1 : ((a, f, m) : Nat × Nat × List Int).1 = a := rfl
    obtain ⟨f', rfl⟩ : ∃ f', f = f' + 1 := ⟨f - 1, by omega⟩
    have eS : siftUk κ (f' + 1) m a = if a = 0 ∨ ¬ κ (m.getD a 0) < κ (m.getD ((a - 1) / 2) 0) then m else siftUk κ f' (swp m ((a - 1) / 2) a) ((a - 1) / 2) := by rw [siftUk]
    rw [eS] at hS
    have hdiv : ((a : Int) - 1).tdiv 2 = (((a - 1) / 2 : Nat) : Int) := by
      rcases Nat.eq_zero_or_pos a with h0 | h0
      · subst h0; rfl
      · rw [Int.tdiv_eq_ediv_of_nonneg (by omega)]; omega
    have hwr : IntKind.i64.wrap (((a - 1) / 2 : Nat) : Int) = (((a - 1) / 2 : Nat) : Int) := w64 (by omega)
    refine J.block ?_
    refine J.seq ?_
    refine J.region ?_
    refine L.va rfl (X.move (by conv => lhs; whnf)) ?_
    refine L.va rfl (X.sub rfl rfl (by omega)) ?_
    refine L.va rfl (X.quow rfl rfl (by decide)) ?_
    refine L.va rfl (X.assign (by conv => lhs; whnf)) ?_
    refine L.nil ?_
    rw [hdiv, hwr]
    refine J.seq ?_
    refine J.seq ?_
    refine J.region ?_
    refine L.va rfl (X.move (by conv => lhs; whnf)) ?_
    refine L.va rfl (X.move (by conv => lhs; whnf)) ?_
    refine L.va rfl (X.eql rfl rfl) ?_
    refine L.va rfl (X.move (by conv => lhs; whnf)) ?_
    by_cases h0 : a = 0
    · rw [if_pos (.inl h0)] at hS
      rw [hS] at H
      refine L.caseDecT (k := 11) rfl (by omega) ?_
      refine L.no rfl ?_
      refine L.no rfl ?_
      refine L.no rfl ?_
      refine L.no rfl ?_
      refine L.no rfl ?_
      refine L.va rfl (X.pickT rfl (by conv => lhs; whnf)) ?_
      refine L.nil ?_
      refine J.iteT rfl ?_
      refine J.exit ?_
      refine thn_exit <| inB_ne rfl <| thn_exit <| inB_eq ?_
      refine fin0 (.inr rfl) ?_
      exact ⟨rfl, H, hG⟩
    · obtain ⟨rv, c, hM, hC⟩ := K.less (i := a) (k := (a - 1) / 2) H (by omega) (by omega)
      refine L.caseDecF (k := 11) rfl (by omega) ?_
      refine L.va rfl (X.move (by conv => lhs; whnf)) ?_
      refine L.va rfl (X.move (by conv => lhs; whnf)) ?_
      refine L.va rfl (X.move (by conv => lhs; whnf)) ?_
      refine L.invoke rfl rfl (hM) rfl (hC) ?_
      rintro e w4 ⟨rfl, he4⟩
      refine ⟨_, rfl, ?_⟩
      have he4 : Ext w2 w4 := he4
      have H4 := K.ext H he4
      refine L.va rfl (X.not rfl) ?_
      refine L.va rfl (X.pickF rfl (by conv => lhs; whnf)) ?_
      refine L.nil ?_
      by_cases h3 : κ (m.getD a 0) < κ (m.getD ((a - 1) / 2) 0)
      · rw [decide_eq_true h3]
        rw [if_neg (by rintro (h | h) <;> contradiction)] at hS
        obtain ⟨rv, c, hM, hC⟩ := K.swap (i := (a - 1) / 2) (k := a) H4 (by omega) (by omega)
        refine J.iteF rfl ?_
        refine J.skip ?_
        refine J.seq ?_
        refine J.region ?_
        refine L.va rfl (X.move (by conv => lhs; whnf)) ?_
        refine L.va rfl (X.move (by conv => lhs; whnf)) ?_
        refine L.va rfl (X.move (by conv => lhs; whnf)) ?_
        refine L.invoke rfl rfl (hM) rfl (hC) ?_
        rintro e w5 ⟨rfl, H5, hg5⟩
        refine ⟨_, rfl, ?_⟩
        refine L.nil ?_
        refine J.region ?_
        refine L.va rfl (X.move (by conv => lhs; whnf)) ?_
        refine L.va rfl (X.assign (by conv => lhs; whnf)) ?_
        refine L.nil ?_
        refine ⟨((a - 1) / 2, f', swp m ((a - 1) / 2) a), At1 (by first | rfl | exact at_int rfl (by omega) | exact at_slice rfl (by omega) | exact at_int rfl (by simp)), (by (iterate 21 refine Agr.lk rfl ?_); exact Agr.lk rfl (Agr.hav rfl Agr.rfl')), ?_⟩
        exact ⟨⟨by dsimp only; rw [swp_length]; exact hl, by dsimp only; omega, by dsimp only; omega, H5, tr hG (tr (.of_ext he4) hg5), hS⟩, by dsimp only; omega⟩
      · rw [decide_eq_false h3]
        rw [if_pos (.inr h3)] at hS
        rw [hS] at H4
        refine J.iteT rfl ?_
        refine J.exit ?_
        refine thn_exit <| inB_ne rfl <| thn_exit <| inB_eq ?_
        refine fin0 (.inr rfl) ?_
        exact ⟨rfl, H4, tr hG (.of_ext he4)⟩
theorem pop_ (K : HeapM t v κ S h) {w : World} {l : List Int} (h0 : h w l) (hpos : 0 < l.length) : Calls Try.prog 42 #[.iface t v] w fun e w' =>
    e = .returned (.iface 3 (.int .i64 (l.getD 0 0))) ∧ h w' ((siftDk κ l.length (swp l 0 (l.length - 1)) 0 (l.length - 1)).take (l.length - 1)) ∧ Chg S w w' := by
  have hm := K.big h0
  have hl1 : (swp l 0 (l.length - 1)).length = l.length := swp_length _ _ _
  have en : ((l.length : Nat) : Int) - 1 = ((l.length - 1 : Nat) : Int) := by omega
  obtain ⟨rv, c, hM, hC⟩ := K.len h0
  obtain ⟨rv1, d1, hM1, hC1⟩ := K.swap (i := 0) (k := l.length - 1) h0 (by omega) (by omega)
  rw [← en] at hC1
  refine enter Try.func42 rfl (by kernel_rfl) ?_
  refine J.seq ?_
  refine J.region ?_
  refine L.va rfl (X.assign (by conv => lhs; whnf)) ?_
  refine L.nil ?_
  refine J.seq ?_
  refine J.region ?_
  refine L.va rfl (X.move (by conv => lhs; whnf)) ?_
  refine L.invoke rfl rfl (hM) rfl (hC) ?_
  rintro e _ ⟨rfl, rfl⟩
  refine ⟨_, rfl, ?_⟩
  refine L.va rfl (X.sub rfl rfl (by omega)) ?_
  refine L.va rfl (X.assign (by conv => lhs; whnf)) ?_
  refine L.nil ?_
  refine J.seq ?_
  refine J.region ?_
  refine L.va rfl (X.move (by conv => lhs; whnf)) ?_
  refine L.va rfl (X.move (by conv => lhs; whnf)) ?_
  refine L.invoke rfl rfl (hM1) rfl (hC1) ?_
  rintro e w1 ⟨rfl, H1, hg1⟩
  refine ⟨_, rfl, ?_⟩
  have c2 := K.down_ H1 0 (l.length - 1) (by omega) (by omega)
  rw [← en] at c2
  refine L.nil ?_
  refine J.seq ?_
  refine J.region ?_
  refine L.va rfl (X.move (by conv => lhs; whnf)) ?_
  refine L.va rfl (X.move (by conv => lhs; whnf)) ?_
  refine L.call rfl en_48 rfl (c2) ?_
  rintro e w2 ⟨⟨b, rfl⟩, H2, hg2⟩
  refine ⟨_, rfl, ?_⟩
  rw [hl1] at H2
  have hl2 : (siftDk κ l.length (swp l 0 (l.length - 1)) 0 (l.length - 1)).length = l.length := by rw [siftDk_length, swp_length]
  obtain ⟨rv3, d3, hM3, c3⟩ := K.pop H2 (by omega)
  rw [hl2, siftDk_past _ _ _ _ (by omega) _ (Nat.le_refl _), swp_at l (by omega) (by omega), if_pos rfl] at c3
  refine L.nil ?_
  refine J.seq ?_
  refine J.region ?_
  refine L.va rfl (X.move (by conv => lhs; whnf)) ?_
  refine L.invoke rfl rfl (hM3) rfl (c3) ?_
  rintro e w3 ⟨rfl, H3, hg3⟩
  refine ⟨_, rfl, ?_⟩
  refine L.va rfl (X.assign (by conv => lhs; whnf)) ?_
  refine L.nil ?_
  refine J.ret ?_
  refine fin1 ?_
  exact ⟨rfl, H3, tr (tr hg1 hg2) hg3⟩
theorem fix_ (K : HeapM t v κ S h) {w : World} {l : List Int} (h0 : h w l) (hpos : 0 < l.length) : Calls Try.prog 41 #[.iface t v, .int .i64 0] w fun e w' =>
    e = .returned (.tuple #[]) ∧ h w' (siftDk κ l.length l 0 l.length) ∧ Chg S w w' := by
  have hm := K.big h0
  obtain ⟨rv, c, hM, hC⟩ := K.len h0
  have c2 := K.down_ h0 0 l.length (Nat.le_refl _) (by omega)
  refine enter Try.func41 rfl (by kernel_rfl) ?_
  refine J.seq ?_
  refine J.region ?_
  refine L.va rfl (X.move (by conv => lhs; whnf)) ?_
  refine L.va rfl (X.move (by conv => lhs; whnf)) ?_
  refine L.va rfl (X.move (by conv => lhs; whnf)) ?_
  refine L.invoke rfl rfl (hM) rfl (hC) ?_
  rintro e _ ⟨rfl, rfl⟩
  refine ⟨_, rfl, ?_⟩
  refine L.call rfl en_48 rfl (c2) ?_
  rintro e w2 ⟨⟨b, rfl⟩, H2, hg2⟩
  refine ⟨_, rfl, ?_⟩
  have c3 := K.up_ H2 0 (by rw [siftDk_length]; exact hpos)
  rw [show siftUk κ (0 + 1) (siftDk κ l.length l 0 l.length) 0 = siftDk κ l.length l 0 l.length from by rw [siftUk, if_pos (.inl rfl)]] at c3
  refine L.va rfl (X.not rfl) ?_
  refine L.nil ?_
  cases b
  · refine J.iteT rfl ?_
    refine J.region ?_
    refine L.va rfl (X.move (by conv => lhs; whnf)) ?_
    refine L.va rfl (X.move (by conv => lhs; whnf)) ?_
    refine L.call rfl en_47 rfl (c3) ?_
    rintro e w3 ⟨rfl, H3, hg3⟩
    refine ⟨_, rfl, ?_⟩
    refine L.nil ?_
    refine fin0 (.inr rfl) ?_
    exact ⟨rfl, H3, tr hg2 hg3⟩
  · refine J.iteF rfl ?_
    refine J.skip ?_
    refine fin0 (.inr rfl) ?_
    exact ⟨rfl, H2, hg2⟩
theorem push_ {ι : Type} {h : ι → World → List Int → Prop} {S : ι → Nat → Prop} (K : ∀ a, HeapM t v κ (S a) (h a)) {a : ι} {w : World} {l : List Int} {x : Int} (h0 : h a w l)
    (hP : ∃ rv c, Mtd Try.prog t v rv "Push" c w ∧ Calls Try.prog c #[rv, .iface 3 (.int .i64 x)] w fun e w' => e = .returned (.tuple #[]) ∧ ∃ a', h a' w' (l ++ [x]) ∧ Chg (S a) w w' ∧ ∀ g, g < w.heap.size → S a' g → S a g) :
    Calls Try.prog 39 #[.iface t v, .iface 3 (.int .i64 x)] w fun e w' =>
    e = .returned (.tuple #[]) ∧ ∃ a', h a' w' (siftUk κ (l.length + 1) (l ++ [x]) l.length) ∧ Chg (S a) w w' ∧ ∀ g, g < w.heap.size → S a' g → S a g := by
  have hl : (l ++ [x]).length = l.length + 1 := by simp
  obtain ⟨rv, c, hM, hC⟩ := hP
  refine enter Try.func39 rfl (by kernel_rfl) ?_
  refine J.seq ?_
  refine J.region ?_
  refine L.va rfl (X.move (by conv => lhs; whnf)) ?_
  refine L.va rfl (X.move (by conv => lhs; whnf)) ?_
  refine L.invoke rfl rfl (hM) rfl (hC) ?_
  rintro e w1 ⟨rfl, a', H1, K1, hA1⟩
  refine ⟨_, rfl, ?_⟩
  obtain ⟨rv2, c2, hM2, hC2⟩ := (K a').len H1
  have hb := (K a').big H1
  refine L.nil ?_
  refine J.region ?_
  refine L.va rfl (X.move (by conv => lhs; whnf)) ?_
  refine L.va rfl (X.move (by conv => lhs; whnf)) ?_
  refine L.invoke rfl rfl (hM2) rfl (hC2) ?_
  rintro e _ ⟨rfl, rfl⟩
  refine ⟨_, rfl, ?_⟩
  have cU := (K a').up_ H1 l.length (by omega)
  rw [show ((l.length : Nat) : Int) = (((l ++ [x]).length : Nat) : Int) - 1 by omega] at cU
  refine L.va rfl (X.sub rfl rfl (by omega)) ?_
  refine L.call rfl en_47 rfl (cU) ?_
  rintro e w2 ⟨rfl, H2, hg2⟩
  refine ⟨_, rfl, ?_⟩
  refine L.nil ?_
  refine fin0 (.inr rfl) ?_
  exact ⟨rfl, a', H2, K1.trans hg2 hA1, hA1⟩
end HeapM
end Go.Proofs.Ytjleobcbgldhmaa
namespace Go.Proofs.Ytjleobcbgldhmaa
set_option maxRecDepth 100000
open Go.RowKit H
open Odr Tou HeapK
set_option linter.unusedVariables false
namespace Bys
def ks (s : Bys) : List (List Int) := s.l.map By.l
theorem ks_at (s : Bys) (i : Nat) : s.ks.getD i [] = (s.l.getD i by0).l := by
  unfold ks
  rw [List.getD, List.getD, List.getElem?_map]
  cases s.l[i]? <;> rfl
theorem ahead_eq (s : Bys) (a b : Nat) : s.ahead a b = ahL s.ks a b := by unfold Bys.ahead ahL; rw [ks_at, ks_at]
end Bys
theorem taheadI (s : Bys) (x y : Int) (w : World) (h : s.At w.heap.size w) (hx : 0 ≤ x ∧ x < (s.n : Int)) (hy : 0 ≤ y ∧ y < (s.n : Int)) : Calls Try.prog 40 #[s.val, .int .i64 x, .int .i64 y] w fun e w' => e = .returned (.bool (ahL s.ks x.toNat y.toNat)) ∧ Ext w w' := by
  obtain ⟨a, rfl⟩ := Int.eq_ofNat_of_zero_le hx.1
  obtain ⟨b, rfl⟩ := Int.eq_ofNat_of_zero_le hy.1
  have := tahead s a b w h (by omega) (by omega)
  rw [Bys.ahead_eq] at this
  exact this
def Tch (d : Nat) (a : Option Addr × Nat) (g : Nat) : Prop := g = d ∨ Value.ownBlock (.slice a.1 0 a.2) = some g
theorem own_n (A : Option Addr) (n m c : Nat) : Value.ownBlock (.slice A n c) = Value.ownBlock (.slice A m c) := by cases A <;> rfl
theorem tch_own {d n : Nat} {a : Option Addr × Nat} {g : Nat} (h : Value.ownBlock (.slice a.1 n a.2) = some g) : Tch d a g := .inr ((own_n _ _ _ _).trans h)
structure Bq (s : Bys) (N d : Nat) (a : Option Addr × Nat) (w : World) (l : List Int) : Prop where
  hb : Blk w d 60 #[s.val, .slice a.1 l.length a.2]
  hf : w.ownsRow N 3 1 (.slice a.1 l.length a.2) l.length (nums .i64 l)
  hs : s.At N w
  hd : N ≤ d
  el : ∀ x ∈ l, 0 ≤ x ∧ x < (s.n : Int)
  bn : s.n ≤ 900000
  bl : l.length ≤ s.n
namespace Bq
variable {s : Bys} {N d : Nat} {a : Option Addr × Nat} {w w' : World} {l : List Int}
theorem ext (h : Bq s N d a w l) (he : Ext w w') : Bq s N d a w' l := ⟨h.hb.ext he, h.hf.ext he, h.hs.ext he, h.hd, h.el, h.bn, h.bl⟩
theorem lo (h : Bq s N d a w l) : N ≤ w.heap.size := Nat.le_trans h.hd (Nat.le_of_lt h.hb.lt)
theorem at_ (h : Bq s N d a w l) {i : Nat} (hi : i < l.length) : 0 ≤ l.getD i 0 ∧ l.getD i 0 < (s.n : Int) := h.el _ (getD_mem hi)
theorem tch_ge (h : Bq s N d a w l) : ∀ g, Tch d a g → N ≤ g := by
  rintro g (rfl | hg)
  · exact h.hd
  · exact (h.hf.lt g ((own_n _ _ _ _).trans hg)).1
theorem chg {S : Nat → Prop} (h : Bq s N d a w l) (hC : Chg S w w') (h1 : ∀ g, Tch d a g → ¬ S g) (h2 : ∀ g, S g → N ≤ g) : Bq s N d a w' l :=
  ⟨hC.blk h.hb (h1 d (.inl rfl)), hC.own h.hf (fun g hg => h1 g (tch_own hg)), h.hs.below (hC.below h.lo h2), h.hd, h.el, h.bn, h.bl⟩
theorem len_ (h : Bq s N d a w l) : Calls Try.prog 38 #[.pointer (some ⟨d, 0, none⟩)] w fun e w' => e = .returned (.int .i64 (l.length : Int)) ∧ w = w' := by
  have hb := h.hb
  refine enter Try.func38 rfl (by kernel_rfl) ?_
  refine J.seq ?_
  refine J.region ?_
  refine L.va rfl (X.assign (by conv => lhs; whnf)) ?_
  refine L.nil ?_
  refine J.seq ?_
  refine J.region ?_
  refine L.va rfl (X.move (by conv => lhs; whnf)) ?_
  refine L.va rfl (X.nilCheck rfl) ?_
  refine L.va rfl (X.fieldAddr rfl Try.underlying60 rfl sz_23 (by decide)) ?_
  refine L.va rfl (X.load rfl sc_23 (by first | exact Ld.blk hb rfl)) ?_
  refine L.va rfl (X.len rfl Try.underlying23) ?_
  refine L.va rfl (X.assign (by conv => lhs; whnf)) ?_
  refine L.nil ?_
  refine J.ret ?_
  refine fin1 ?_
  exact ⟨rfl, rfl⟩
theorem less_ (h : Bq s N d a w l) {i k : Nat} (hi : i < l.length) (hk : k < l.length) : Calls Try.prog 66 #[.pointer (some ⟨d, 0, none⟩), .int .i64 (i : Int), .int .i64 (k : Int)] w fun e w' => e = .returned (.bool (ahL s.ks (l.getD k 0).toNat (l.getD i 0).toNat)) ∧ Ext w w' := by
  have hb := h.hb
  have hr := Reads.of_own h.hf
  have hA := hr.some_ (by omega)
  have c1 := fun (w' : World) (hw : Ext w w') => taheadI s (l.getD k 0) (l.getD i 0) w' ((h.hs.ext hw).more (Nat.le_trans h.lo hw.le)) (h.at_ hk) (h.at_ hi)
  refine enter Try.func66 rfl (by kernel_rfl) ?_
  refine J.seq ?_
  refine J.region ?_
  refine L.va rfl (X.assign (by conv => lhs; whnf)) ?_
  refine L.nil ?_
  refine J.seq ?_
  refine J.quiet mixed (by kernel_rfl) ?_
  refine Qt.va rfl (fun w' hw => X.move (by conv => lhs; whnf)) ?_
  refine Qt.va rfl (fun w' hw => X.nilCheck rfl) ?_
  refine Qt.va rfl (fun w' hw => X.fieldAddr rfl Try.underlying60 rfl sz_47 (by decide)) ?_
  refine Qt.va rfl (fun w' hw => X.load rfl sc_47 (by first | exact Ld.blk (hb.ext hw) rfl | exact Ld.num (hr.ext hw) (by omega) | exact hA)) ?_
  refine Qt.va rfl (fun w' hw => X.move (by conv => lhs; whnf)) ?_
  refine Qt.va rfl (fun w' hw => X.nilCheck rfl) ?_
  refine Qt.va rfl (fun w' hw => X.fieldAddr rfl Try.underlying60 rfl sz_23 (by decide)) ?_
  refine Qt.va rfl (fun w' hw => X.load rfl sc_23 (by first | exact Ld.blk (hb.ext hw) rfl | exact Ld.num (hr.ext hw) (by omega) | exact hA)) ?_
  refine Qt.va rfl (fun w' hw => X.move (by conv => lhs; whnf)) ?_
  refine Qt.va rfl (fun w' hw => (by first | exact X.index1n rfl rfl Try.underlying23 sz_3 (by first | exact Option.some_ne_none _ | exact hr.some_ (by omega) | exact hA) (by omega) | exact X.index1 rfl rfl Try.underlying23 sz_3 (by first | exact Option.some_ne_none _ | exact hr.some_ (by omega) | exact hA) (by omega))) ?_
  refine Qt.va rfl (fun w' hw => X.load rfl sc_3 (by first | exact Ld.blk (hb.ext hw) rfl | exact Ld.num (hr.ext hw) (by omega) | exact hA)) ?_
  refine Qt.va rfl (fun w' hw => X.move (by conv => lhs; whnf)) ?_
  refine Qt.va rfl (fun w' hw => X.nilCheck rfl) ?_
  refine Qt.va rfl (fun w' hw => X.fieldAddr rfl Try.underlying60 rfl sz_23 (by decide)) ?_
  refine Qt.va rfl (fun w' hw => X.load rfl sc_23 (by first | exact Ld.blk (hb.ext hw) rfl | exact Ld.num (hr.ext hw) (by omega) | exact hA)) ?_
  refine Qt.va rfl (fun w' hw => X.move (by conv => lhs; whnf)) ?_
  refine Qt.va rfl (fun w' hw => (by first | exact X.index1n rfl rfl Try.underlying23 sz_3 (by first | exact Option.some_ne_none _ | exact hr.some_ (by omega) | exact hA) (by omega) | exact X.index1 rfl rfl Try.underlying23 sz_3 (by first | exact Option.some_ne_none _ | exact hr.some_ (by omega) | exact hA) (by omega))) ?_
  refine Qt.va rfl (fun w' hw => X.load rfl sc_3 (by first | exact Ld.blk (hb.ext hw) rfl | exact Ld.num (hr.ext hw) (by omega) | exact hA)) ?_
  refine Qt.call rfl en_40 rfl (fun w' hw => calls_ext hw (c1 w' hw)) ?_
  refine Qt.va rfl (fun w' hw => X.assign (by conv => lhs; whnf)) ?_
  refine Qt.nil (fun w1 hq => ?_)
  replace hb := hb.ext hq
  replace hr := hr.ext hq
  refine J.ret ?_
  refine fin1 ?_
  exact ⟨rfl, hq⟩
theorem swap_ (h : Bq s N d a w l) {i k : Nat} (hi : i < l.length) (hk : k < l.length) : Calls Try.prog 69 #[.pointer (some ⟨d, 0, none⟩), .int .i64 (i : Int), .int .i64 (k : Int)] w fun e w' => e = .returned (.tuple #[]) ∧ Bq s N d a w' (swp l i k) ∧ Chg (Tch d a) w w' := by
  have hb := h.hb
  have hr := Reads.of_own h.hf
  have hA := hr.some_ (by omega)
  refine enter Try.func69 rfl (by kernel_rfl) ?_
  refine J.draw (ℓ := 1000000) (S := (fun w' => Blk w' d 60 #[s.val, .slice a.1 l.length a.2])) mixed (fun w1 hSE hS_h => ?_)
  have hS : ((fun w' => Blk w' d 60 #[s.val, .slice a.1 l.length a.2])) w1 := hb.ext hSE
  have hr1 := hr.ext hSE
  have hoX := h.hf.ext hSE
  have hG : w.grownBy w1 (Value.ownBlock (.slice a.1 l.length a.2)) := grown_ext hSE
  refine D.va 0 rfl (by kernel_rfl) (fun _ _ _ h => h) rfl (fun w' hw => X.move (by conv => lhs; whnf)) hS ?_
  refine D.va 1 rfl (by kernel_rfl) (fun _ _ _ h => h) rfl (fun w' hw => X.nilCheck rfl) hS ?_
  refine D.va 2 rfl (by kernel_rfl) (fun _ _ _ h => h) rfl (fun w' hw => X.fieldAddr rfl Try.underlying60 rfl sz_23 (by decide)) hS ?_
  refine D.va 3 rfl (by kernel_rfl) (fun _ _ _ h => h) rfl (fun w' hw => X.load rfl sc_23 (by first | exact hA | exact Ld.blk hw rfl)) hS ?_
  refine D.va 4 rfl (by kernel_rfl) (fun _ _ _ h => h) rfl (fun w' hw => X.move (by conv => lhs; whnf)) hS ?_
  refine D.va 5 rfl (by kernel_rfl) (fun _ _ _ h => h) rfl (fun w' hw => X.move (by conv => lhs; whnf)) hS ?_
  refine D.va 6 rfl (by kernel_rfl) (fun _ _ _ h => h) rfl (fun w' hw => X.nilCheck rfl) hS ?_
  refine D.va 7 rfl (by kernel_rfl) (fun _ _ _ h => h) rfl (fun w' hw => X.fieldAddr rfl Try.underlying60 rfl sz_23 (by decide)) hS ?_
  refine D.va 8 rfl (by kernel_rfl) (fun _ _ _ h => h) rfl (fun w' hw => X.load rfl sc_23 (by first | exact hA | exact Ld.blk hw rfl)) hS ?_
  refine D.va 9 rfl (by kernel_rfl) (fun _ _ _ h => h) rfl (fun w' hw => X.move (by conv => lhs; whnf)) hS ?_
  refine D.va 10 rfl (by kernel_rfl) (fun _ _ _ h => h) rfl (fun w' hw => X.move (by conv => lhs; whnf)) hS ?_
  refine D.va 11 rfl (by kernel_rfl) (fun _ _ _ h => h) rfl (fun w' hw => X.nilCheck rfl) hS ?_
  refine D.va 12 rfl (by kernel_rfl) (fun _ _ _ h => h) rfl (fun w' hw => X.fieldAddr rfl Try.underlying60 rfl sz_23 (by decide)) hS ?_
  refine D.va 13 rfl (by kernel_rfl) (fun _ _ _ h => h) rfl (fun w' hw => X.load rfl sc_23 (by first | exact hA | exact Ld.blk hw rfl)) hS ?_
  refine D.va 14 rfl (by kernel_rfl) (fun _ _ _ h => h) rfl (fun w' hw => X.move (by conv => lhs; whnf)) hS ?_
  refine D.va 15 rfl (by kernel_rfl) (fun _ _ _ h => h) rfl (fun w' hw => (by first | exact X.index1n rfl rfl Try.underlying23 sz_3 (by first | exact Option.some_ne_none _ | exact hA) (by omega) | exact X.index1 rfl rfl Try.underlying23 sz_3 (by first | exact Option.some_ne_none _ | exact hA) (by omega))) hS ?_
  refine D.va 17 rfl (by kernel_rfl) (fun _ _ _ h => h) rfl (fun w' hw => X.move (by conv => lhs; whnf)) hS ?_
  refine D.va 18 rfl (by kernel_rfl) (fun _ _ _ h => h) rfl (fun w' hw => X.nilCheck rfl) hS ?_
  refine D.va 19 rfl (by kernel_rfl) (fun _ _ _ h => h) rfl (fun w' hw => X.fieldAddr rfl Try.underlying60 rfl sz_23 (by decide)) hS ?_
  refine D.va 20 rfl (by kernel_rfl) (fun _ _ _ h => h) rfl (fun w' hw => X.load rfl sc_23 (by first | exact hA | exact Ld.blk hw rfl)) hS ?_
  refine D.va 21 rfl (by kernel_rfl) (fun _ _ _ h => h) rfl (fun w' hw => X.move (by conv => lhs; whnf)) hS ?_
  refine D.va 22 rfl (by kernel_rfl) (fun _ _ _ h => h) rfl (fun w' hw => (by first | exact X.index1n rfl rfl Try.underlying23 sz_3 (by first | exact Option.some_ne_none _ | exact hA) (by omega) | exact X.index1 rfl rfl Try.underlying23 sz_3 (by first | exact Option.some_ne_none _ | exact hA) (by omega))) hS ?_
  refine D.two 16 23 (by kernel_rfl) rfl rfl ?_ ?_
  · refine L.va rfl (X.load rfl sc_3 (Ld.num hr1 hk)) ?_
    refine L.nil ?_
    refine ⟨fun _ => hS, ?_⟩
    refine D.one 23 (by kernel_rfl) rfl ?_
    refine L.va rfl (X.load rfl sc_3 (Ld.num hr1 hi)) ?_
    refine L.nil ?_
    refine ⟨fun _ => hS, ?_⟩
    refine D.va 24 rfl (by kernel_rfl) (fun _ _ _ h => h) rfl (fun w' hw => (by first | exact X.index1n rfl rfl Try.underlying23 sz_3 (by first | exact Option.some_ne_none _ | exact hA) (by omega) | exact X.index1 rfl rfl Try.underlying23 sz_3 (by first | exact Option.some_ne_none _ | exact hA) (by omega))) hS ?_
    refine D.one 25 (by kernel_rfl) rfl ?_
    refine L.storeON rfl rfl (by conv => lhs; whnf) sz_3 (hoX) (by omega) ?_
    intro w2 hoY hg2 hb2 hs2
    have hS1 := hS.grown hg2 (fun e ↦ own_blk_ne hoX hS (by decide) e.symm)
    refine L.nil ?_
    refine ⟨fun _ => hS1, ?_⟩
    replace hG := grb_trans hG hg2
    replace hoX := hoY
    refine D.va 26 rfl (by kernel_rfl) (fun _ _ _ h => h) rfl (fun w' hw => (by first | exact X.index1n rfl rfl Try.underlying23 sz_3 (by first | exact Option.some_ne_none _ | exact hA) (by omega) | exact X.index1 rfl rfl Try.underlying23 sz_3 (by first | exact Option.some_ne_none _ | exact hA) (by omega))) hS1 ?_
    refine D.one 27 (by kernel_rfl) rfl ?_
    refine L.storeON rfl rfl (by conv => lhs; whnf) sz_3 (hoX) (by omega) ?_
    intro w2 hoY hg2 hb2 hs2
    have hS2 := hS1.grown hg2 (fun e ↦ own_blk_ne hoX hS1 (by decide) e.symm)
    refine L.nil ?_
    refine ⟨fun _ => hS2, ?_⟩
    replace hG := grb_trans hG hg2
    replace hoX := hoY
    refine D.done (by kernel_rfl) ?_
    refine fin0 (.inr rfl) ?_
    have hC : Chg (Tch d a) w _ := .of_grown hG (fun g hg => tch_own hg)
    have hz := h.hs
    have hln : (swp l i k).length = l.length := swp_length _ _ _
    have hw : (l.set i (l.getD k 0)).set k (l.getD i 0) = swp l i k := rfl
    refine ⟨rfl, ⟨by rw [hln]; exact hS2, by rw [hln]; exact hoX, h.hs.below (hC.below h.lo h.tch_ge), h.hd, fun x hx ↦ h.el x ((swp_perm l hi hk).mem_iff.1 hx), h.bn, by rw [hln]; exact h.bl⟩, hC⟩
  · refine L.va rfl (X.load rfl sc_3 (Ld.num hr1 hi)) ?_
    refine L.nil ?_
    refine ⟨fun _ => hS, ?_⟩
    refine D.one 16 (by kernel_rfl) rfl ?_
    refine L.va rfl (X.load rfl sc_3 (Ld.num hr1 hk)) ?_
    refine L.nil ?_
    refine ⟨fun _ => hS, ?_⟩
    refine D.va 24 rfl (by kernel_rfl) (fun _ _ _ h => h) rfl (fun w' hw => (by first | exact X.index1n rfl rfl Try.underlying23 sz_3 (by first | exact Option.some_ne_none _ | exact hA) (by omega) | exact X.index1 rfl rfl Try.underlying23 sz_3 (by first | exact Option.some_ne_none _ | exact hA) (by omega))) hS ?_
    refine D.one 25 (by kernel_rfl) rfl ?_
    refine L.storeON rfl rfl (by conv => lhs; whnf) sz_3 (hoX) (by omega) ?_
    intro w2 hoY hg2 hb2 hs2
    have hS1 := hS.grown hg2 (fun e ↦ own_blk_ne hoX hS (by decide) e.symm)
    refine L.nil ?_
    refine ⟨fun _ => hS1, ?_⟩
    replace hG := grb_trans hG hg2
    replace hoX := hoY
    refine D.va 26 rfl (by kernel_rfl) (fun _ _ _ h => h) rfl (fun w' hw => (by first | exact X.index1n rfl rfl Try.underlying23 sz_3 (by first | exact Option.some_ne_none _ | exact hA) (by omega) | exact X.index1 rfl rfl Try.underlying23 sz_3 (by first | exact Option.some_ne_none _ | exact hA) (by omega))) hS1 ?_
    refine D.one 27 (by kernel_rfl) rfl ?_
    refine L.storeON rfl rfl (by conv => lhs; whnf) sz_3 (hoX) (by omega) ?_
    intro w2 hoY hg2 hb2 hs2
    have hS2 := hS1.grown hg2 (fun e ↦ own_blk_ne hoX hS1 (by decide) e.symm)
    refine L.nil ?_
    refine ⟨fun _ => hS2, ?_⟩
    replace hG := grb_trans hG hg2
    replace hoX := hoY
    refine D.done (by kernel_rfl) ?_
    refine fin0 (.inr rfl) ?_
    have hC : Chg (Tch d a) w _ := .of_grown hG (fun g hg => tch_own hg)
    have hz := h.hs
    have hln : (swp l i k).length = l.length := swp_length _ _ _
    have hw : (l.set i (l.getD k 0)).set k (l.getD i 0) = swp l i k := rfl
    refine ⟨rfl, ⟨by rw [hln]; exact hS2, by rw [hln]; exact hoX, h.hs.below (hC.below h.lo h.tch_ge), h.hd, fun x hx ↦ h.el x ((swp_perm l hi hk).mem_iff.1 hx), h.bn, by rw [hln]; exact h.bl⟩, hC⟩
theorem push_ (h : Bq s N d a w l) (hlt : l.length < s.n) {x : Int} (hx : 0 ≤ x ∧ x < (s.n : Int)) : Calls Try.prog 68 #[.pointer (some ⟨d, 0, none⟩), .iface 3 (.int .i64 x)] w fun e w' =>
    e = .returned (.tuple #[]) ∧ ∃ a', Bq s N d a' w' (l ++ [x]) ∧ Chg (Tch d a) w w' ∧ ∀ g, g < w.heap.size → Tch d a' g → Tch d a g := by
  have hb := h.hb
  have hbn := h.bn
  have hlo := h.lo
  refine enter Try.func68 rfl (by kernel_rfl) ?_
  refine J.draw (ℓ := 11) (S := (fun w' => Blk w' d 60 #[s.val, .slice a.1 l.length a.2])) mixed (fun w1 hSE hS_h => ?_)
  have hS : ((fun w' => Blk w' d 60 #[s.val, .slice a.1 l.length a.2])) w1 := hb.ext hSE
  refine D.va 0 rfl (by kernel_rfl) (fun _ _ _ h => h) rfl (fun w' hw => X.move (by conv => lhs; whnf)) hS ?_
  refine D.va 1 rfl (by kernel_rfl) (fun _ _ _ h => h) rfl (fun w' hw => X.move (by conv => lhs; whnf)) hS ?_
  refine D.va 2 rfl (by kernel_rfl) (fun _ _ _ h => h) rfl (fun w' hw => X.nilCheck rfl) hS ?_
  refine D.va 3 rfl (by kernel_rfl) (fun _ _ _ h => h) rfl (fun w' hw => X.fieldAddr rfl Try.underlying60 rfl sz_23 (by decide)) hS ?_
  refine D.va 4 rfl (by kernel_rfl) (fun _ _ _ h => h) rfl (fun w' hw => X.load rfl sc_23 (Ld.blk hw rfl)) hS ?_
  refine D.va 5 rfl (by kernel_rfl) (fun _ _ _ h => h) rfl (fun w' hw => X.move (by conv => lhs; whnf)) hS ?_
  refine D.va 6 rfl (by kernel_rfl) (fun _ _ _ h => h) rfl (fun w' hw => X.assert rfl Try.underlying3 rfl) hS ?_
  refine D.one 7 (by kernel_rfl) rfl ?_
  refine L.bslice (vs := [_]) rfl (Evs.cons (by conv => lhs; whnf) Evs.nil) rfl rfl rfl rfl Try.underlying23 sz_3 zr_3 (by decide) ?_
  intro b2 w2 hb2 hs2 hk2 he2
  have hS1 := hS.ext he2
  refine L.nil ?_
  refine ⟨fun _ => hS1, ?_⟩
  have hf2 := (h.hf.ext hSE).ext he2
  have z2 := (hSE.trans he2).le
  refine D.one 8 (by kernel_rfl) rfl ?_
  refine L.appendQ (q := l.length + 1) (ys := l ++ [x]) rfl rfl rfl Try.underlying23 el_3 (hf2) (blk_readsN (sz := 1) (q := 1) (l := nums .i64 [x]) hk2 hk2.lt rfl) (by omega) (by simp) (by unfold maxLen; omega) (by omega) ?_
  intro A3 c3 w3 ho3 hg3 hb3 hor3
  have hS2 := hS1.grown hg3 (fun e ↦ own_blk_ne hf2 hS1 (by decide) e.symm)
  refine L.nil ?_
  refine ⟨fun _ => hS2, ?_⟩
  refine D.va 9 rfl (by kernel_rfl) (fun _ _ _ h => h) rfl (fun w' hw => X.nilCheck rfl) hS2 ?_
  refine D.va 10 rfl (by kernel_rfl) (fun _ _ _ h => h) rfl (fun w' hw => X.fieldAddr rfl Try.underlying60 rfl sz_23 (by decide)) hS2 ?_
  refine D.one 11 (by kernel_rfl) rfl ?_
  refine L.store rfl rfl (by conv => lhs; whnf) rfl sz_23 (hS2) (by first | decide | exact Nat.le_of_ble_eq_true rfl) ?_
  intro w4 hk4 hg4 hs4
  refine L.nil ?_
  refine ⟨fun h => absurd rfl h, ?_⟩
  refine D.done (by kernel_rfl) ?_
  refine fin0 (.inr rfl) ?_
  have hl : (l ++ [x]).length = l.length + 1 := by simp
  have k1 : Chg (Tch d a) w w2 := .of_ext (hSE.trans he2)
  have k2 : Chg (Tch d a) w2 w3 := .of_grown hg3 (fun g hg => tch_own hg)
  have k3 : Chg (Tch d a) w3 w4 := .of_grown hg4 (fun g hg => .inl (by injection hg with hg; exact hg.symm))
  have hC := (k1.trans k2 (fun _ _ hh => hh)).trans k3 (fun _ _ hh => hh)
  refine ⟨rfl, (A3, c3), ⟨by rw [hl]; exact hk4, by rw [hl]; exact ho3.kept hg4 (.inr (own_blk_ne ho3 hS2 (by decide))), h.hs.below (hC.below hlo h.tch_ge), h.hd, ?_, hbn, by rw [hl]; exact hlt⟩, hC, ?_⟩
  · intro y hy
    rcases List.mem_append.1 hy with hy | hy
    · exact h.el y hy
    · rw [List.mem_singleton] at hy
      rw [hy]; exact hx
  · intro g hgw hg
    rcases hg with hg | hg
    · exact .inl hg
    · replace hg := (own_n A3 (l.length + 1) 0 c3).trans hg
      rcases hor3 with e | e
      · rw [e] at hg; exact tch_own hg
      · rw [e] at hg
        injection hg with hg
        omega
theorem pop_ (h : Bq s N d a w l) (hpos : 0 < l.length) : Calls Try.prog 67 #[.pointer (some ⟨d, 0, none⟩)] w fun e w' =>
    e = .returned (.iface 3 (.int .i64 (l.getD (l.length - 1) 0))) ∧ Bq s N d a w' (l.take (l.length - 1)) ∧ Chg (Tch d a) w w' := by
  have hb := h.hb
  have hr := Reads.of_own h.hf
  have hc := own_le' h.hf
  have hbn := h.bn
  have hbl := h.bl
  refine enter Try.func67 rfl (by kernel_rfl) ?_
  refine J.seq ?_
  refine J.region ?_
  refine L.va rfl (X.assign (by conv => lhs; whnf)) ?_
  refine L.nil ?_
  refine J.seq ?_
  refine J.region ?_
  refine L.va rfl (X.move (by conv => lhs; whnf)) ?_
  refine L.va rfl (X.nilCheck rfl) ?_
  refine L.va rfl (X.fieldAddr rfl Try.underlying60 rfl sz_23 (by decide)) ?_
  refine L.va rfl (X.load rfl sc_23 (by first | exact Ld.num hr (by omega) | exact Ld.blk hb rfl)) ?_
  refine L.va rfl (X.len rfl Try.underlying23) ?_
  refine L.va rfl (X.sub rfl rfl (by omega)) ?_
  refine L.va rfl (X.assign (by conv => lhs; whnf)) ?_
  refine L.nil ?_
  refine J.seq ?_
  refine J.region ?_
  refine L.va rfl (X.move (by conv => lhs; whnf)) ?_
  refine L.va rfl (X.nilCheck rfl) ?_
  refine L.va rfl (X.fieldAddr rfl Try.underlying60 rfl sz_23 (by decide)) ?_
  refine L.va rfl (X.load rfl sc_23 (by first | exact Ld.num hr (by omega) | exact Ld.blk hb rfl)) ?_
  refine L.va rfl (X.move (by conv => lhs; whnf)) ?_
  refine L.va rfl (X.index1n (j := l.length - 1) rfl (show Value.int .i64 ((l.length : Int) - 1) = _ from by rw [show ((l.length : Int) - 1) = ((l.length - 1 : Nat) : Int) by omega]) Try.underlying23 sz_3 (hr.some_ (by omega)) (by omega)) ?_
  refine L.va rfl (X.load rfl sc_3 (Ld.num hr (j := l.length - 1) (by omega))) ?_
  refine L.va rfl (X.assign (by conv => lhs; whnf)) ?_
  refine L.nil ?_
  refine J.seq ?_
  refine J.region ?_
  refine L.va rfl (X.move (by conv => lhs; whnf)) ?_
  refine L.va rfl (X.move (by conv => lhs; whnf)) ?_
  refine L.va rfl (X.nilCheck rfl) ?_
  refine L.va rfl (X.fieldAddr rfl Try.underlying60 rfl sz_23 (by decide)) ?_
  refine L.va rfl (X.load rfl sc_23 (by first | exact Ld.num hr (by omega) | exact Ld.blk hb rfl)) ?_
  refine L.va rfl (X.move (by conv => lhs; whnf)) ?_
  refine L.va rfl (X.sliceTon (j := l.length - 1) rfl (show Value.int .i64 ((l.length : Int) - 1) = _ from by rw [show ((l.length : Int) - 1) = ((l.length - 1 : Nat) : Int) by omega]) Try.underlying23 sz_3 (by omega)) ?_
  refine L.va rfl (X.nilCheck rfl) ?_
  refine L.va rfl (X.fieldAddr rfl Try.underlying60 rfl sz_23 (by decide)) ?_
  refine L.store rfl rfl (by conv => lhs; whnf) rfl sz_23 (hb) (by first | decide | exact Nat.le_of_ble_eq_true rfl) ?_
  intro w1 hk1 hg1 hs1
  refine L.nil ?_
  refine J.seq ?_
  refine J.region ?_
  refine L.va rfl (X.move (by conv => lhs; whnf)) ?_
  refine L.va rfl (X.mkI rfl Try.underlying3 rfl) ?_
  refine L.va rfl (X.assign (by conv => lhs; whnf)) ?_
  refine L.nil ?_
  refine J.ret ?_
  refine fin1 ?_
  have hl : (l.take (l.length - 1)).length = l.length - 1 := by simp
  have hC : Chg (Tch d a) w w1 := .of_grown hg1 (fun g hg => .inl (by injection hg with hg; exact hg.symm))
  refine ⟨rfl, ⟨by rw [hl]; exact hk1, ?_, h.hs.below (hC.below h.lo h.tch_ge), h.hd, fun x hx => h.el x (List.mem_of_mem_take hx), hbn, by omega⟩, hC⟩
  rw [hl]
  exact (own_cutN h.hf (by omega)).kept hg1 (.inr (own_blk_ne (own_cutN h.hf (show l.length - 1 ≤ l.length by omega)) hb (by decide)))
theorem kit (s : Bys) (N d : Nat) (a : Option Addr × Nat) : HeapM 58 (.pointer (some ⟨d, 0, none⟩)) (kap (ahL s.ks) s.n) (Tch d a) (Bq s N d a) where
  ext := fun h he => h.ext he
  big := fun h => Nat.le_trans h.bl h.bn
  len := fun h => ⟨_, _, mtd_ptr (by unfold Has; kernel_rfl) Try.underlying58 en_38, h.len_⟩
  less := fun {w l i k} h hi hk => ⟨_, _, mtd_ptr (by unfold Has; kernel_rfl) Try.underlying58 en_66, by
    have e : decide (kap (ahL s.ks) s.n (l.getD i 0) < kap (ahL s.ks) s.n (l.getD k 0)) = ahL s.ks (l.getD k 0).toNat (l.getD i 0).toNat := by
      have h1 := h.at_ hi
      have h2 := h.at_ hk
      have := (ahL_ord s.ks).lt_iff (n := s.n) (a := (l.getD k 0).toNat) (b := (l.getD i 0).toNat) (by omega) (by omega)
      rw [← kap_lt] at this
      cases q : ahL s.ks (l.getD k 0).toNat (l.getD i 0).toNat with
      | true => rw [q] at this; exact decide_eq_true (this.2 rfl)
      | false => rw [q] at this; exact decide_eq_false (fun hh => by cases this.1 hh)
    rw [e]
    exact h.less_ hi hk⟩
  swap := fun h hi hk => ⟨_, _, mtd_ptr (by unfold Has; kernel_rfl) Try.underlying58 en_69, h.swap_ hi hk⟩
  pop := fun h hpos => ⟨_, _, mtd_ptr (by unfold Has; kernel_rfl) Try.underlying58 en_67, h.pop_ hpos⟩
theorem hpush (h : Bq s N d a w l) (hlt : l.length < s.n) {x : Int} (hx : 0 ≤ x ∧ x < (s.n : Int)) : Calls Try.prog 39 #[.iface 58 (.pointer (some ⟨d, 0, none⟩)), .iface 3 (.int .i64 x)] w fun e w' =>
    e = .returned (.tuple #[]) ∧ ∃ a', Bq s N d a' w' (siftUk (kap (ahL s.ks) s.n) (l.length + 1) (l ++ [x]) l.length) ∧ Chg (Tch d a) w w' ∧ ∀ g, g < w.heap.size → Tch d a' g → Tch d a g :=
  HeapM.push_ (kit s N d) h ⟨_, _, mtd_ptr (by unfold Has; kernel_rfl) Try.underlying58 en_68, h.push_ hlt hx⟩
end Bq
end Go.Proofs.Ytjleobcbgldhmaa
namespace Go.Proofs.Ytjleobcbgldhmaa
set_option maxRecDepth 100000
open Go.RowKit H
open Odr Tou HeapK
set_option linter.unusedVariables false
theorem tleast (s : Bys) (k : Int) (w : World) (hs : s.At w.heap.size w) (hn : s.n ≤ 900000) : Calls Try.prog 26 #[s.val, .int .i64 k] w fun e w' => ∃ A m c o, e = .returned (.slice A m c) ∧ w'.ownsRow w.heap.size 3 1 (.slice A m c) m (nums .i64 o) ∧ Firsts (ahL s.ks) s.n m o ∧ m = min s.n k.toNat ∧ Ext w w' := by
  have hR := ahL_ord s.ks
  refine enter Try.func26 rfl (by kernel_rfl) ?_
  refine J.seq ?_
  refine J.region ?_
  refine L.va rfl (X.assign (by conv => lhs; whnf)) ?_
  refine L.nil ?_
  refine J.seq ?_
  refine J.seq ?_
  refine J.region ?_
  refine L.va rfl (X.move (by conv => lhs; whnf)) ?_
  refine L.va rfl (X.lss rfl rfl) ?_
  refine L.nil ?_
  refine J.dec rfl (fun hk => ?_) (fun hk => ?_)
  · refine J.seq ?_
    refine J.region ?_
    refine L.va rfl (X.assign (by conv => lhs; whnf)) ?_
    refine L.nil ?_
    refine J.ret ?_
    refine thn_ret <| ?_
    refine fin1 ?_
    exact ⟨none, 0, 0, [], rfl, own_nil _ _ _ _, ⟨rfl, fun j hj => absurd hj (by omega)⟩, by omega, Ext.refl _⟩
  · obtain ⟨q, rfl⟩ := Int.eq_ofNat_of_zero_le (show 0 ≤ k by omega)
    refine J.skip ?_
    refine J.seq ?_
    refine J.region ?_
    refine L.va rfl (X.move (by conv => lhs; whnf)) ?_
    refine L.va rfl (X.build (l := [_, _]) (Evs.cons (by conv => lhs; whnf) Evs.nil) (bld_run Try.underlying60 (bp_60 Try.underlying60) zr_60 rfl)) ?_
    refine L.boxA (l := [_, _]) rfl rfl ?_
    intro d w1 hd1 hs1 hk1 he1
    have B1 : Bq s w.heap.size d (none, 0) w1 [] := ⟨hk1, own_nil _ _ _ _, hs.ext he1, by omega, (fun x hx => by cases hx), hn, Nat.zero_le _⟩
    have hx := B1.tch_ge
    refine L.va rfl (X.assign (by conv => lhs; whnf)) ?_
    refine L.nil ?_
    refine J.seq ?_
    refine J.seq ?_
    refine J.region ?_
    refine L.va rfl (X.move (by conv => lhs; whnf)) ?_
    refine L.va rfl (X.len rfl Try.underlying47) ?_
    refine L.va rfl (X.move (by conv => lhs; whnf)) ?_
    refine L.nil ?_
    refine J.block ?_
    refine J.loop (X := Nat × List Int × (Option Addr × Nat)) [6, 16, 17, 18, 19, 20, 21, 22, 23, 24, 25, 26, 27, 28, 29, 30, 31, 32, 33, 34, 35, 36, 37, 38, 39, 40, 41, 42, 43, 44, 45, 46] (fun (i, l, a) => [(16, .int .i64 (i : Int))]) (fun (i, l, a) w' => i ≤ s.n ∧ In1 (ahL s.ks) s.n i q l ∧ Bq s w.heap.size d a w' l ∧ Below w.heap.size w w') (fun (i, _) => s.n - i) ((0, [], (none, 0))) (At1 (by first | rfl | exact at_int rfl (by omega) | exact at_slice rfl (by omega) | exact at_int rfl (by simp))) ?_ ?_
    · exact ⟨Nat.zero_le _, In1.nil _ _, B1, he1⟩
    · rintro ⟨i, l, a⟩ g w2 ⟨hi, hI, H, hB⟩
      refine J.seq ?_
      refine J.region ?_
      refine L.va rfl (X.lss rfl rfl) ?_
      refine L.nil ?_
      refine J.seq ?_
      refine J.dec rfl (fun hlt => ?_) (fun hlt => ?_)
      · have hin : i < s.n := by omega
        have hln := hI.ln
        have c1 := H.len_
        refine J.skip ?_
        refine J.seq ?_
        refine J.block ?_
        refine J.seq ?_
        refine J.region ?_
        refine L.va rfl (X.move (by conv => lhs; whnf)) ?_
        refine L.va rfl (X.assign (by conv => lhs; whnf)) ?_
        refine L.nil ?_
        refine J.seq ?_
        refine J.region ?_
        refine L.va rfl (X.move (by conv => lhs; whnf)) ?_
        refine L.call rfl en_38 rfl (c1) ?_
        rintro e _ ⟨rfl, rfl⟩
        refine ⟨_, rfl, ?_⟩
        refine L.va rfl (X.move (by conv => lhs; whnf)) ?_
        refine L.va rfl (X.lss rfl rfl) ?_
        refine L.nil ?_
        refine J.dec rfl (fun hq => ?_) (fun hq => ?_)
        · refine J.region ?_
          refine L.va rfl (X.move (by conv => lhs; whnf)) ?_
          refine L.va rfl (X.mkI rfl Try.underlying58 rfl) ?_
          refine L.va rfl (X.move (by conv => lhs; whnf)) ?_
          refine L.va rfl (X.mkI rfl Try.underlying3 rfl) ?_
          refine L.call rfl en_39 rfl (H.hpush (by omega) (x := (i : Int)) (by omega)) ?_
          rintro e w3 ⟨rfl, a', H3, hC, _⟩
          refine ⟨_, rfl, ?_⟩
          refine L.nil ?_
          refine J.region ?_
          refine L.va rfl (X.add rfl rfl (by omega)) ?_
          refine L.va rfl (X.move (by conv => lhs; whnf)) ?_
          refine L.nil ?_
          refine ⟨(i + 1, siftUk (kap (ahL s.ks) s.n) (l.length + 1) (l ++ [(i : Int)]) l.length, a'), At1 (by first | rfl | exact at_int rfl (by omega) | exact at_slice rfl (by omega) | exact at_int rfl (by simp)), (by (iterate 14 refine Agr.lk rfl ?_); exact Agr.lk rfl (Agr.hav rfl Agr.rfl')), ?_⟩
          exact ⟨⟨by omega, hI.add (by omega), H3, hB.trans (hC.below H.lo H.tch_ge)⟩, by show s.n - (i + 1) < s.n - i; omega⟩
        · have hlq : l.length = q := by have := hI.ln; omega
          have h0 := H.at_ (i := 0) (by omega)
          have hr := Reads.of_own H.hf
          have hb := H.hb
          have hA := hr.some_ (by omega)
          refine J.seq ?_
          refine J.region ?_
          refine L.va rfl (X.move (by conv => lhs; whnf)) ?_
          refine L.va rfl (X.move (by conv => lhs; whnf)) ?_
          refine L.va rfl (X.move (by conv => lhs; whnf)) ?_
          refine L.va rfl (X.nilCheck rfl) ?_
          refine L.va rfl (X.fieldAddr rfl Try.underlying60 rfl sz_23 (by decide)) ?_
          refine L.va rfl (X.load rfl sc_23 (by first | exact Ld.blk hb rfl | exact Ld.num hr (by omega) | exact hA)) ?_
          refine L.va rfl (X.index1n (j := 0) rfl rfl Try.underlying23 sz_3 (by first | exact Option.some_ne_none _ | exact hr.some_ (by omega) | exact hA) (by omega)) ?_
          refine L.va rfl (X.load rfl sc_3 (by first | exact Ld.blk hb rfl | exact Ld.num hr (by omega) | exact hA)) ?_
          refine L.call rfl en_40 rfl (taheadI s (i : Int) (l.getD 0 0) w2 (H.hs.more H.lo) (by omega) h0) ?_
          rintro e w3 ⟨rfl, he3⟩
          refine ⟨_, rfl, ?_⟩
          have H3 := H.ext he3
          refine L.nil ?_
          cases ha : ahL s.ks (i : Int).toNat (l.getD 0 0).toNat
          · refine J.iteF rfl ?_
            refine J.skip ?_
            refine J.region ?_
            refine L.va rfl (X.add rfl rfl (by omega)) ?_
            refine L.va rfl (X.move (by conv => lhs; whnf)) ?_
            refine L.nil ?_
            refine ⟨(i + 1, l, a), At1 (by first | rfl | exact at_int rfl (by omega) | exact at_slice rfl (by omega) | exact at_int rfl (by simp)), (by (iterate 18 refine Agr.lk rfl ?_); exact Agr.lk rfl (Agr.hav rfl Agr.rfl')), ?_⟩
            exact ⟨⟨by omega, hI.skip hR hin hlq (by omega) (by simpa using ha), H3, hB.trans (he3.mono H.lo)⟩, by show s.n - (i + 1) < s.n - i; omega⟩
          · have hb3 := H3.hb
            refine J.iteT rfl ?_
            refine J.seq ?_
            refine J.region ?_
            refine L.va rfl (X.move (by conv => lhs; whnf)) ?_
            refine L.va rfl (X.nilCheck rfl) ?_
            refine L.va rfl (X.fieldAddr rfl Try.underlying60 rfl sz_23 (by decide)) ?_
            refine L.va rfl (X.load rfl sc_23 (by first | exact Ld.blk hb3 rfl | exact hA)) ?_
            refine L.va rfl (X.move (by conv => lhs; whnf)) ?_
            refine L.va rfl (X.index1n (j := 0) rfl rfl Try.underlying23 sz_3 (by first | exact Option.some_ne_none _ | exact hA) (by omega)) ?_
            refine L.storeON rfl rfl (by conv => lhs; whnf) sz_3 (H3.hf) (by omega) ?_
            intro w4 ho4 hg4 hb4 hs4
            have hls : (l.set 0 (i : Int)).length = l.length := List.length_set ..
            have hg4' : Chg (Tch d a) w3 w4 := .of_grown hg4 (fun g hg => tch_own hg)
            have hB4 := hB.trans ((he3.mono H.lo).trans (hg4'.below H3.lo H3.tch_ge))
            have H4 : Bq s w.heap.size d a w4 (l.set 0 (i : Int)) := ⟨by rw [hls]; exact hb3.grown hg4 (fun e => own_blk_ne H3.hf hb3 (by decide) e.symm), by rw [hls]; exact ho4, H3.hs.below (hg4'.below H3.lo H3.tch_ge), H.hd, (fun x hx => by
              rcases List.mem_or_eq_of_mem_set hx with hx | rfl
              · exact H.el x hx
              · omega), hn, by rw [hls]; exact H.bl⟩
            have c5 := (Bq.kit s w.heap.size d a).fix_ H4 (by omega)
            rw [hls] at c5
            refine L.nil ?_
            refine J.region ?_
            refine L.va rfl (X.move (by conv => lhs; whnf)) ?_
            refine L.va rfl (X.mkI rfl Try.underlying58 rfl) ?_
            refine L.call rfl en_41 rfl (c5) ?_
            rintro e w5 ⟨rfl, H5, hC5⟩
            refine ⟨_, rfl, ?_⟩
            refine L.nil ?_
            refine J.region ?_
            refine L.va rfl (X.add rfl rfl (by omega)) ?_
            refine L.va rfl (X.move (by conv => lhs; whnf)) ?_
            refine L.nil ?_
            refine ⟨(i + 1, siftDk (kap (ahL s.ks) s.n) l.length (l.set 0 (i : Int)) 0 l.length, a), At1 (by first | rfl | exact at_int rfl (by omega) | exact at_slice rfl (by omega) | exact at_int rfl (by simp)), (by (iterate 27 refine Agr.lk rfl ?_); exact Agr.lk rfl (Agr.hav rfl Agr.rfl')), ?_⟩
            exact ⟨⟨by omega, hI.put hR hin hlq (by omega) (by simpa using ha), H5, hB4.trans (hC5.below H4.lo H4.tch_ge)⟩, by show s.n - (i + 1) < s.n - i; omega⟩
      · obtain rfl : i = s.n := by omega
        have hln := hI.ln
        have I2 := hI.last hR
        have c1 := H.len_
        refine J.exit ?_
        refine J.seq ?_
        refine J.region ?_
        refine L.va rfl (X.move (by conv => lhs; whnf)) ?_
        refine L.call rfl en_38 rfl (c1) ?_
        rintro e _ ⟨rfl, rfl⟩
        refine ⟨_, rfl, ?_⟩
        refine L.make (q := l.length) (c := l.length) rfl rfl rfl Try.underlying23 el_3 (by omega) ?_
        intro b3 w3 hb3 hs3 hk3 he3
        rw [made_nums] at hk3
        have hlo := H.lo
        have hbl := H.bl
        have hbs : w2.heap.size = b3 := by omega
        have hlm : l.length ≤ maxLen := by unfold maxLen; omega
        have ho3 : w3.ownsRow w.heap.size 3 1 (.slice (some ⟨b3, 0, none⟩) l.length l.length) l.length (nums .i64 (List.replicate l.length 0)) := blk_own1 (q := l.length) hk3 (by omega) hlm (by simp [nums])
        have hne : ¬ Tch d a b3 := by
          rintro (e | e)
          · have := H.hb.lt; omega
          · have := (H.hf.lt b3 ((own_n _ _ _ _).trans e)).2; omega
        have H3 := H.ext he3
        have hB3 := hB.trans (he3.mono hlo)
        obtain ⟨m, hm⟩ : ∃ m, m = l.length := ⟨_, rfl⟩
        rw [← hm] at ho3 hlm hln I2
        refine L.va rfl (X.assign (by conv => lhs; whnf)) ?_
        refine L.nil ?_
        refine J.seq ?_
        refine J.seq ?_
        refine J.region ?_
        refine L.va rfl (X.move (by conv => lhs; whnf)) ?_
        refine L.va rfl (X.len rfl Try.underlying23) ?_
        refine L.va rfl (X.sub rfl rfl (by omega)) ?_
        refine L.va rfl (X.assign (by conv => lhs; whnf)) ?_
        refine L.nil ?_
        refine J.block ?_
        refine J.loop (X := Nat × List Int × List Int) [8, 53, 54, 55, 56, 57, 58, 59, 60, 61, 62, 63] (fun (p, l, o) => [(8, .int .i64 ((p : Int) - 1))]) (fun (p, l, o) w' => p ≤ m ∧ In2 (ahL s.ks) s.n p l ∧ Bq s w.heap.size d a w' l ∧ Below w.heap.size w w' ∧ o.length = m ∧ (∀ j, p ≤ j → j < m → 0 ≤ o.getD j 0 ∧ o.getD j 0 < (s.n : Int) ∧ pos (ahL s.ks) s.n (o.getD j 0).toNat = j) ∧ w'.ownsRow w.heap.size 3 1 (.slice (some ⟨b3, 0, none⟩) m m) m (nums .i64 o)) (fun (p, _) => p) ((m, l, List.replicate m 0)) (At1 (by first | rfl | exact at_int rfl (by omega) | exact at_slice rfl (by omega) | exact at_int rfl (by simp))) ?_ ?_
        · exact ⟨Nat.le_refl _, I2, H3, hB3, List.length_replicate .., fun j h1 h2 => by omega, ho3⟩
        · rintro ⟨p, l2, o⟩ g w4 ⟨hp, I4, H4, hB4, hol, hof, ho4⟩
          refine J.seq ?_
          refine J.seq ?_
          refine J.region ?_
          refine L.va rfl (X.move (by conv => lhs; whnf)) ?_
          refine L.va rfl (X.geq rfl rfl) ?_
          refine L.nil ?_
          refine J.dec rfl (fun hge => ?_) (fun hge => ?_)
          · obtain ⟨p', rfl⟩ : ∃ p', p = p' + 1 := ⟨p - 1, by omega⟩
            obtain ⟨⟨r0, r1, r2⟩, I5⟩ := I4.pop hR
            have hl2 := I4.ln
            refine J.skip ?_
            refine J.seq ?_
            refine J.block ?_
            refine J.region ?_
            refine L.va rfl (X.move (by conv => lhs; whnf)) ?_
            refine L.va rfl (X.move (by conv => lhs; whnf)) ?_
            refine L.va rfl (X.move (by conv => lhs; whnf)) ?_
            refine L.va rfl (X.mkI rfl Try.underlying58 rfl) ?_
            refine L.call rfl en_42 rfl ((Bq.kit s w.heap.size d a).pop_ H4 (by omega)) ?_
            rintro e w5 ⟨rfl, H5, hC5⟩
            refine ⟨_, rfl, ?_⟩
            have ho5 := hC5.own ho4 (fun g hg => by injection hg with hg; subst hg; exact hne)
            have hB5 := hB4.trans (hC5.below H4.lo H4.tch_ge)
            refine L.va rfl (X.assert rfl Try.underlying3 rfl) ?_
            refine L.va rfl (X.index1n (j := p') rfl (show Value.int .i64 (((p' + 1 : Nat) : Int) - 1) = _ from by rw [show (((p' + 1 : Nat) : Int) - 1) = (p' : Int) by omega]) Try.underlying23 sz_3 (fun h => by cases h) (by omega)) ?_
            refine L.storeON rfl rfl (by conv => lhs; whnf) sz_3 (ho5) (by omega) ?_
            intro w6 ho6 hg6 hb6 hs6
            have hC6 : Chg (fun g => g = b3) w5 w6 := .of_grown hg6 (fun g hg => by injection hg with hg; exact hg.symm)
            have hwb : w.heap.size ≤ b3 := by omega
            have H6 := H5.chg hC6 (fun g h1 h2 => hne (h2 ▸ h1)) (fun g hg => by omega)
            have hB6 := hB5.trans (hC6.below H5.lo (fun g hg => by omega))
            refine L.nil ?_
            refine J.region ?_
            refine L.va rfl (X.move (by conv => lhs; whnf)) ?_
            refine L.va rfl (X.sub rfl rfl (by omega)) ?_
            refine L.va rfl (X.assign (by conv => lhs; whnf)) ?_
            refine L.nil ?_
            refine ⟨(p', (siftDk (kap (ahL s.ks) s.n) l2.length (swp l2 0 (l2.length - 1)) 0 (l2.length - 1)).take (l2.length - 1), o.set p' (l2.getD 0 0)), At1 (by first | rfl | exact at_int rfl (by omega) | exact at_slice rfl (by omega) | exact at_int rfl (by simp)), (by (iterate 12 refine Agr.lk rfl ?_); exact Agr.lk rfl (Agr.hav rfl Agr.rfl')), ?_⟩
            refine ⟨⟨by omega, I5, H6, hB6, by rw [List.length_set]; exact hol, fun j h1 h2 => ?_, ho6⟩, by show p' < p' + 1; omega⟩
            rw [getD_set _ _ _ _ (by omega)]
            by_cases e : p' = j
            · subst e
              rw [if_pos rfl]
              exact ⟨r0, r1, r2⟩
            · rw [if_neg e]
              exact hof j (by omega) h2
          · obtain rfl : p = 0 := by omega
            refine J.exit ?_
            refine J.seq ?_
            refine J.region ?_
            refine L.va rfl (X.move (by conv => lhs; whnf)) ?_
            refine L.va rfl (X.assign (by conv => lhs; whnf)) ?_
            refine L.nil ?_
            refine J.ret ?_
            refine fin1 ?_
            subst hm
            exact ⟨_, _, _, o, rfl, ho4, ⟨hol, fun j hj => hof j (Nat.zero_le _) hj⟩, by omega, hB4⟩
end Go.Proofs.Ytjleobcbgldhmaa
namespace Go.Proofs.Ytjleobcbgldhmaa
set_option maxRecDepth 100000
open Go.RowKit H
open Odr Tou HeapK
set_option linter.unusedVariables false
theorem less07 (A1 : Option Addr) (n1 c1 : Nat) (A2 : Option Addr) (n2 c2 : Nat) (u v : List Int) (w : World) (h1 : Reads w w.heap.size 1 A1 n1 (nums .u8 u)) (h2 : Reads w w.heap.size 1 A2 n2 (nums .u8 v)) (hn1 : n1 ≤ maxLen) (hn2 : n2 ≤ maxLen) :
    Calls Try.prog 10 #[.slice A1 n1 c1, .slice A2 n2 c2] w fun e w' => e = .returned (.bool (lessB u v)) ∧ Ext w w' := by
  have l1 : u.length = n1 := by have := h1.1; simpa [nums] using this
  have l2 : v.length = n2 := by have := h2.1; simpa [nums] using this
  unfold maxLen at hn1 hn2
  refine enter Try.func10 rfl (by kernel_rfl) ?_
  refine J.seq ?_
  refine J.region ?_
  refine L.va rfl (X.assign (by conv => lhs; whnf)) ?_
  refine L.nil ?_
  refine J.seq ?_
  refine J.seq ?_
  refine J.region ?_
  refine L.va rfl (X.assign (by conv => lhs; whnf)) ?_
  refine L.nil ?_
  refine J.block ?_
  refine J.loop (X := Nat) [4, 5, 6, 7, 8, 9, 10, 11, 12, 13, 14, 15, 16, 17, 18, 19, 20, 21, 22, 23, 24, 25, 26, 27, 28, 29, 30, 31, 32, 33, 34, 35] (fun i => [(5, .int .i64 (i : Int))]) (fun i w' => i ≤ n1 ∧ i ≤ n2 ∧ (∀ j, j < i → u.getD j 0 = v.getD j 0) ∧ Ext w w') (fun i => n1 - i) (0) (At1 (by first | rfl | exact at_int rfl (by omega) | exact at_slice rfl (by omega) | exact at_int rfl (by simp))) ?_ ?_
  · exact ⟨Nat.zero_le _, Nat.zero_le _, fun j hj => absurd hj (by omega), Ext.refl _⟩
  · rintro i g w2 ⟨hi, hi2, hP, he⟩
    have k1 := h1.ext he
    have k2 := h2.ext he
    refine J.seq ?_
    refine J.seq ?_
    refine J.region ?_
    refine L.va rfl (X.move (by conv => lhs; whnf)) ?_
    refine L.va rfl (X.move (by conv => lhs; whnf)) ?_
    refine L.va rfl (X.len rfl Try.underlying30) ?_
    refine L.va rfl (X.lss rfl rfl) ?_
    refine L.va rfl (X.move (by conv => lhs; whnf)) ?_
    by_cases hlt : i < n1 ∧ i < n2
    · have hA1 := k1.some_ (by omega)
      have hA2 := k2.some_ (by omega)
      refine L.caseDecT (k := 10) rfl (by omega) ?_
      refine L.va rfl (X.move (by conv => lhs; whnf)) ?_
      refine L.va rfl (X.move (by conv => lhs; whnf)) ?_
      refine L.va rfl (X.len rfl Try.underlying30) ?_
      refine L.va rfl (X.lss rfl rfl) ?_
      refine L.va rfl (X.pickT rfl (by conv => lhs; whnf)) ?_
      refine L.nil ?_
      refine J.decT rfl (by omega) ?_
      refine J.skip ?_
      refine J.seq ?_
      refine J.block ?_
      refine J.seq ?_
      refine J.quiet mixed (by kernel_rfl) ?_
      refine Qt.va rfl (fun w' hw => X.move (by conv => lhs; whnf)) ?_
      refine Qt.va rfl (fun w' hw => X.move (by conv => lhs; whnf)) ?_
      refine Qt.va rfl (fun w' hw => (by first | exact X.index1n rfl rfl Try.underlying30 sz_5 (by first | exact Option.some_ne_none _ | exact k1.some_ (by omega) | exact k2.some_ (by omega) | exact hA1 | exact hA2) (by omega) | exact X.index1 rfl rfl Try.underlying30 sz_5 (by first | exact Option.some_ne_none _ | exact k1.some_ (by omega) | exact k2.some_ (by omega) | exact hA1 | exact hA2) (by omega))) ?_
      refine Qt.va rfl (fun w' hw => X.load rfl sc_5 (by first | exact Ld.num (k1.ext hw) (by omega) | exact Ld.num (k2.ext hw) (by omega) | exact hA1 | exact hA2)) ?_
      refine Qt.va rfl (fun w' hw => X.move (by conv => lhs; whnf)) ?_
      refine Qt.va rfl (fun w' hw => X.move (by conv => lhs; whnf)) ?_
      refine Qt.va rfl (fun w' hw => (by first | exact X.index1n rfl rfl Try.underlying30 sz_5 (by first | exact Option.some_ne_none _ | exact k1.some_ (by omega) | exact k2.some_ (by omega) | exact hA1 | exact hA2) (by omega) | exact X.index1 rfl rfl Try.underlying30 sz_5 (by first | exact Option.some_ne_none _ | exact k1.some_ (by omega) | exact k2.some_ (by omega) | exact hA1 | exact hA2) (by omega))) ?_
      refine Qt.va rfl (fun w' hw => X.load rfl sc_5 (by first | exact Ld.num (k1.ext hw) (by omega) | exact Ld.num (k2.ext hw) (by omega) | exact hA1 | exact hA2)) ?_
      refine Qt.va rfl (fun w' hw => X.neq rfl rfl) ?_
      refine Qt.nil (fun w3 hq => ?_)
      replace k1 := k1.ext hq
      replace k2 := k2.ext hq
      refine J.ndec rfl (fun hd => ?_) (fun hd => ?_)
      · rw [lessB_at (i := i) (by omega) (by omega) hP hd]
        refine J.seq ?_
        refine J.quiet mixed (by kernel_rfl) ?_
        refine Qt.va rfl (fun w' hw => X.move (by conv => lhs; whnf)) ?_
        refine Qt.va rfl (fun w' hw => X.move (by conv => lhs; whnf)) ?_
        refine Qt.va rfl (fun w' hw => (by first | exact X.index1n rfl rfl Try.underlying30 sz_5 (by first | exact Option.some_ne_none _ | exact k1.some_ (by omega) | exact k2.some_ (by omega) | exact hA1 | exact hA2) (by omega) | exact X.index1 rfl rfl Try.underlying30 sz_5 (by first | exact Option.some_ne_none _ | exact k1.some_ (by omega) | exact k2.some_ (by omega) | exact hA1 | exact hA2) (by omega))) ?_
        refine Qt.va rfl (fun w' hw => X.load rfl sc_5 (by first | exact Ld.num (k1.ext hw) (by omega) | exact Ld.num (k2.ext hw) (by omega) | exact hA1 | exact hA2)) ?_
        refine Qt.va rfl (fun w' hw => X.move (by conv => lhs; whnf)) ?_
        refine Qt.va rfl (fun w' hw => X.move (by conv => lhs; whnf)) ?_
        refine Qt.va rfl (fun w' hw => (by first | exact X.index1n rfl rfl Try.underlying30 sz_5 (by first | exact Option.some_ne_none _ | exact k1.some_ (by omega) | exact k2.some_ (by omega) | exact hA1 | exact hA2) (by omega) | exact X.index1 rfl rfl Try.underlying30 sz_5 (by first | exact Option.some_ne_none _ | exact k1.some_ (by omega) | exact k2.some_ (by omega) | exact hA1 | exact hA2) (by omega))) ?_
        refine Qt.va rfl (fun w' hw => X.load rfl sc_5 (by first | exact Ld.num (k1.ext hw) (by omega) | exact Ld.num (k2.ext hw) (by omega) | exact hA1 | exact hA2)) ?_
        refine Qt.va rfl (fun w' hw => X.lss rfl rfl) ?_
        refine Qt.va rfl (fun w' hw => X.assign (by conv => lhs; whnf)) ?_
        refine Qt.nil (fun w4 hq4 => ?_)
        replace k1 := k1.ext hq4
        replace k2 := k2.ext hq4
        refine J.ret ?_
        refine inB_ret <|  thn_ret <|  thn_ret <|  inB_ret <|  thn_ret <| ?_
        refine fin1 ?_
        exact ⟨rfl, (he.trans hq).trans hq4⟩
      · skip
        refine J.skip ?_
        refine J.region ?_
        refine L.va rfl (X.move (by conv => lhs; whnf)) ?_
        refine L.va rfl (X.add rfl rfl (by omega)) ?_
        refine L.va rfl (X.assign (by conv => lhs; whnf)) ?_
        refine L.nil ?_
        refine ⟨i + 1, At1 (by first | rfl | exact at_int rfl (by omega) | exact at_slice rfl (by omega) | exact at_int rfl (by simp)), (by (iterate 23 refine Agr.lk rfl ?_); exact Agr.lk rfl (Agr.hav rfl Agr.rfl')), ?_⟩
        refine ⟨⟨by omega, by omega, fun j hj => ?_, he.trans hq⟩, by omega⟩
        rcases Nat.lt_or_ge j i with h | h
        · exact hP j h
        · obtain rfl : j = i := by omega
          exact hd
    · refine L.caseDec (k := 10) rfl (fun ha => ?_) (fun ha => ?_)
      · refine L.va rfl (X.move (by conv => lhs; whnf)) ?_
        refine L.va rfl (X.move (by conv => lhs; whnf)) ?_
        refine L.va rfl (X.len rfl Try.underlying30) ?_
        refine L.va rfl (X.lss rfl rfl) ?_
        refine L.va rfl (X.pickT rfl (by conv => lhs; whnf)) ?_
        refine L.nil ?_
        refine J.decF rfl (by omega) ?_
        rw [lessB_end fun j k1 k2 => hP j (by omega), l1, l2]
        refine J.exit ?_
        refine J.seq ?_
        refine J.region ?_
        refine L.va rfl (X.move (by conv => lhs; whnf)) ?_
        refine L.va rfl (X.len rfl Try.underlying30) ?_
        refine L.va rfl (X.move (by conv => lhs; whnf)) ?_
        refine L.va rfl (X.len rfl Try.underlying30) ?_
        refine L.va rfl (X.lss rfl rfl) ?_
        refine L.va rfl (X.assign (by conv => lhs; whnf)) ?_
        refine L.nil ?_
        refine J.ret ?_
        refine fin1 ?_
        exact ⟨congrArg (fun b => Ending.returned (.bool b)) (decide_eq_decide.2 Int.ofNat_lt), he⟩
      · refine L.no rfl ?_
        refine L.no rfl ?_
        refine L.no rfl ?_
        refine L.no rfl ?_
        refine L.va rfl (X.pickF rfl (by conv => lhs; whnf)) ?_
        refine L.nil ?_
        refine J.iteF rfl ?_
        rw [lessB_end fun j k1 k2 => hP j (by omega), l1, l2]
        refine J.exit ?_
        refine J.seq ?_
        refine J.region ?_
        refine L.va rfl (X.move (by conv => lhs; whnf)) ?_
        refine L.va rfl (X.len rfl Try.underlying30) ?_
        refine L.va rfl (X.move (by conv => lhs; whnf)) ?_
        refine L.va rfl (X.len rfl Try.underlying30) ?_
        refine L.va rfl (X.lss rfl rfl) ?_
        refine L.va rfl (X.assign (by conv => lhs; whnf)) ?_
        refine L.nil ?_
        refine J.ret ?_
        refine fin1 ?_
        exact ⟨congrArg (fun b => Ending.returned (.bool b)) (decide_eq_decide.2 Int.ofNat_lt), he⟩
end Go.Proofs.Ytjleobcbgldhmaa
namespace Go.Proofs.Ytjleobcbgldhmaa
set_option maxRecDepth 100000
open Go.RowKit H
set_option linter.unusedVariables false
namespace H
theorem X.eqlNil {P : Program} {w : World} {f : Fr} {x y : Operand} {d : Option Tmp} {tx tz ty : TypeId} {pos : String} {aft : Array Edge} {g : Option (Nat × Bool)} {A : Option Addr} {n c e : Nat} (hx : ev f x = .slice A n c) (hy : ev f y = .slice none 0 0) (ht : P.underlying tx = some (.slice e)) : (execOp (ev f) ⟨d, .binOp .eql tx x y tz, ty, pos, aft, g⟩).run P w = .ok (.value (.bool A.isNone)) w :=
  X.bin hx hy (by simp [go_sem]) (by simp [binOp, show (Op.equal tx (.slice A n c) (.slice none 0 0)).run P w = .ok A.isNone w from run_equalIn_slice_nil w 9999 tx e A n c ht])
end H
theorem cloneI (A : Option Addr) (n c : Nat) (l : List Int) (w : World) (hr : Reads w w.heap.size 1 A n (nums .i64 l)) (hn : n ≤ 5000) : Calls Try.prog 27 #[.slice A n c] w fun e w' => ∃ A' c', e = .returned (.slice A' n c') ∧ w'.ownsRow w.heap.size 3 1 (.slice A' n c') n (nums .i64 l) ∧ Ext w w' := by
  have hl : l.length = n := by have := hr.1; simpa [nums] using this
  refine enter Try.func27 rfl (by kernel_rfl) ?_
  refine J.seq ?_
  refine J.region ?_
  refine L.va rfl (X.assign (by conv => lhs; whnf)) ?_
  refine L.nil ?_
  refine J.seq ?_
  refine J.seq ?_
  refine J.region ?_
  refine L.va rfl (X.move (by conv => lhs; whnf)) ?_
  refine L.va rfl (X.eqlNil rfl rfl Try.underlying23) ?_
  refine L.nil ?_
  rcases A with _ | a
  · obtain rfl : n = 0 := by
      apply Decidable.byContradiction
      intro h
      exact hr.some_ (by omega) rfl
    obtain rfl : l = [] := List.length_eq_zero_iff.1 hl
    refine J.iteT rfl ?_
    refine J.seq ?_
    refine J.region ?_
    refine L.va rfl (X.assign (by conv => lhs; whnf)) ?_
    refine L.nil ?_
    refine J.ret ?_
    refine thn_ret <| ?_
    refine fin1 ?_
    exact ⟨none, 0, rfl, own_nil _ _ _ _, Ext.refl _⟩
  · refine J.iteF rfl ?_
    refine J.skip ?_
    refine J.seq ?_
    refine J.region ?_
    refine L.bslice (vs := []) rfl Evs.nil rfl rfl rfl rfl Try.underlying23 sz_3 zr_3 (by decide) ?_
    intro b1 w1 hb1 hs1 hk1 he1
    have ho1 : w1.ownsRow w.heap.size 3 1 (.slice (some ⟨b1, 0, none⟩) 0 0) 0 (nums .i64 []) := blk_own1 (q := 0) (l := []) hk1 (by omega) (Nat.zero_le _) rfl
    have z1 := he1.le
    refine L.va rfl (X.move (by conv => lhs; whnf)) ?_
    refine L.appendQ (q := n) (ys := l) rfl rfl rfl Try.underlying23 el_3 (ho1) (hr.ext he1) (by omega) (by simp) (by unfold maxLen; omega) (by omega) ?_
    intro A2 c2 w2 ho2 hg2 hb2 hor2
    refine L.va rfl (X.assign (by conv => lhs; whnf)) ?_
    refine L.nil ?_
    refine J.ret ?_
    refine fin1 ?_
    exact ⟨A2, c2, rfl, ho2, he1.grw hg2 (by intro g hg; injection hg with hg; subst hg; show w.heap.size ≤ b1; omega)⟩
theorem own_max {w : World} {base e sz n : Nat} {v : Value} {xs : List Value} (h : w.ownsRow base e sz v n xs) : n ≤ maxLen := by
  rcases h.2 with ⟨_, rfl⟩ | ⟨b, cap, cur, rfl, _, _, h1, h2, _⟩
  · exact Nat.zero_le _
  · exact Nat.le_trans h1 h2
theorem own_lower {w : World} {base base' e sz n : Nat} {v : Value} {xs : List Value} (h : w.ownsRow base e sz v n xs) (hb : base' ≤ base) : w.ownsRow base' e sz v n xs := by
  refine ⟨h.1, ?_⟩
  rcases h.2 with h1 | ⟨b, cap, cur, h1, h2, h3⟩
  · exact .inl h1
  · exact .inr ⟨b, cap, cur, h1, Nat.le_trans hb h2, h3⟩
end Go.Proofs.Ytjleobcbgldhmaa
namespace Go.Proofs.Ytjleobcbgldhmaa
set_option maxRecDepth 100000
open Go.RowKit H
open Odr Tou
set_option linter.unusedVariables false
theorem cloneV (A : Option Addr) (n c : Nat) (l : List Vl) (w : World) (hr : Reads w w.heap.size 3 A n (l.flatMap Vl.vs)) (hn : n ≤ 1000) (hl : l.length = n) : Calls Try.prog 28 #[.slice A n c] w fun e w' => ∃ A' c', e = .returned (.slice A' n c') ∧ w'.ownsRow w.heap.size 40 3 (.slice A' n c') n (l.flatMap Vl.vs) ∧ Ext w w' := by
  refine enter Try.func28 rfl (by kernel_rfl) ?_
  refine J.seq ?_
  refine J.region ?_
  refine L.va rfl (X.assign (by conv => lhs; whnf)) ?_
  refine L.nil ?_
  refine J.seq ?_
  refine J.seq ?_
  refine J.region ?_
  refine L.va rfl (X.move (by conv => lhs; whnf)) ?_
  refine L.va rfl (X.eqlNil rfl rfl Try.underlying24) ?_
  refine L.nil ?_
  rcases A with _ | a
  · obtain rfl : n = 0 := by
      apply Decidable.byContradiction
      intro h
      exact hr.some_ (by omega) rfl
    obtain rfl : l = [] := List.length_eq_zero_iff.1 hl
    refine J.iteT rfl ?_
    refine J.seq ?_
    refine J.region ?_
    refine L.va rfl (X.assign (by conv => lhs; whnf)) ?_
    refine L.nil ?_
    refine J.ret ?_
    refine thn_ret <| ?_
    refine fin1 ?_
    exact ⟨none, 0, rfl, own_nil _ _ _ _, Ext.refl _⟩
  · refine J.iteF rfl ?_
    refine J.skip ?_
    refine J.seq ?_
    refine J.region ?_
    refine L.bsliceR (ls := []) rfl Evs.nil rfl rfl rfl rfl Try.underlying24 sz_40 zr_40 (by decide) ?_
    intro b1 w1 hb1 hs1 hk1 he1
    have ho1 : w1.ownsRow w.heap.size 40 3 (.slice (some ⟨b1, 0, none⟩) 0 0) 0 (([] : List Vl).flatMap Vl.vs) := blk_own (size := 3) (q := 0) (c := 0) (l := []) hk1 (by omega) (Nat.le_refl _) (Nat.zero_le _) rfl
    have z1 := he1.le
    have hones : ((l.flatMap Vl.vs).all (·.oneCell')) = true := by
      rw [List.all_eq_true]
      intro v hv
      obtain ⟨x, _, hx⟩ := List.mem_flatMap.1 hv
      simp only [Vl.vs, List.mem_cons, List.not_mem_nil, or_false] at hx
      rcases hx with rfl | rfl | rfl <;> rfl
    refine L.va rfl (X.move (by conv => lhs; whnf)) ?_
    refine L.appendV (q := n) (ys := l.flatMap Vl.vs) rfl rfl rfl Try.underlying24 el_40 (ho1) (hr.ext he1) (by first | rfl | exact strs_ones _ | assumption) (by omega) (by simp) (by unfold maxLen; omega) (by omega) ?_
    intro A2 c2 w2 ho2 hg2 hb2 hor2
    refine L.va rfl (X.assign (by conv => lhs; whnf)) ?_
    refine L.nil ?_
    refine J.ret ?_
    refine fin1 ?_
    exact ⟨A2, c2, rfl, ho2, he1.grw hg2 (by intro g hg; injection hg with hg; subst hg; show w.heap.size ≤ b1; omega)⟩
end Go.Proofs.Ytjleobcbgldhmaa
