/-
  Rows compared by the reference; lists of rows; which are light.
-/
import Derived.Test.YtmnlaekcojblkaaWRowB
namespace Go.Proofs.Ytmnlaekcojblkaa
set_option maxRecDepth 100000
open Go.RowKit H
open Flo
set_option linter.unusedVariables false
theorem rsame33 (a b : Rw) (w : World) (ha : a.At w.heap.size w) (hb : b.At w.heap.size w) : Calls Try.prog 26 #[a.val, b.val] w fun e w' => e = .returned (.bool (a.same b)) ∧ Ext w w' := by
  have la := ha.lc
  have lb := hb.lc
  have lva := ha.lv
  have lvb := hb.lv
  have m1 := ha.n1
  have m2 := ha.n2
  have m3 := hb.n1
  have m4 := hb.n2
  unfold maxLen at m1 m2 m3 m4
  refine enter Try.func26 rfl (by kernel_rfl) ?_
  refine J.seq ?_
  refine J.region ?_
  -- box
  refine L.boxA (l := [_, _]) rfl rfl ?_
  intro b1 w1 hb1 hs1 hk1 he1
  -- box
  refine L.boxA (l := [_, _]) rfl rfl ?_
  intro b2 w2 hb2 hs2 hk2 he2
  have hk12 := hk1.ext he2
  have he := he1.trans he2
  have z2 := he.le
  have ha2 := (ha.ext he).more he.le
  have hb2' := (hb.ext he).more he.le
  refine L.va rfl (X.assign (by conv => lhs; whnf)) ?_
  refine L.nil ?_
  refine J.seq ?_
  refine J.seq ?_
  refine J.region ?_
  refine L.va rfl (X.fieldAddr rfl Try.underlying32 rfl sz_29 (by decide)) ?_
  refine L.va rfl (X.load rfl sc_29 (by first | exact Ld.blk hk2 rfl | exact Ld.blk hk12 rfl)) ?_
  refine L.va rfl (X.len rfl Try.underlying29) ?_
  refine L.va rfl (X.fieldAddr rfl Try.underlying32 rfl sz_29 (by decide)) ?_
  refine L.va rfl (X.load rfl sc_29 (by first | exact Ld.blk hk2 rfl | exact Ld.blk hk12 rfl)) ?_
  refine L.va rfl (X.len rfl Try.underlying29) ?_
  refine L.va rfl (X.neq rfl rfl) ?_
  refine L.va rfl (X.move (by conv => lhs; whnf)) ?_
  -- case t14
  refine L.caseNdec (k := 14) rfl (fun h1 => ?_) (fun h1 => ?_)
  · refine L.no rfl ?_
    refine L.no rfl ?_
    refine L.no rfl ?_
    refine L.no rfl ?_
    refine L.no rfl ?_
    refine L.no rfl ?_
    refine L.no rfl ?_
    refine L.va rfl (X.pickT rfl (by conv => lhs; whnf)) ?_
    refine L.nil ?_
    -- cond
    refine J.iteT rfl ?_
    have e : a.same b = false := by
      unfold Rw.same
      rw [Bool.and_eq_false_iff]
      first
        | exact .inl (eqL_len (by omega))
        | exact .inr (eqL_len (by omega))
    rw [e]
    refine J.seq ?_
    refine J.region ?_
    refine L.va rfl (X.assign (by conv => lhs; whnf)) ?_
    refine L.nil ?_
    -- ret
    refine J.ret ?_
    refine thn_ret <| ?_
    refine fin1 ?_
    exact ⟨rfl, he⟩
  refine L.va rfl (X.fieldAddr rfl Try.underlying32 rfl sz_30 (by decide)) ?_
  refine L.va rfl (X.load rfl sc_30 (by first | exact Ld.blk hk2 rfl | exact Ld.blk hk12 rfl)) ?_
  refine L.va rfl (X.len rfl Try.underlying30) ?_
  refine L.va rfl (X.fieldAddr rfl Try.underlying32 rfl sz_30 (by decide)) ?_
  refine L.va rfl (X.load rfl sc_30 (by first | exact Ld.blk hk2 rfl | exact Ld.blk hk12 rfl)) ?_
  refine L.va rfl (X.len rfl Try.underlying30) ?_
  refine L.va rfl (X.neq rfl rfl) ?_
  refine L.va rfl (X.pickF rfl (by conv => lhs; whnf)) ?_
  refine L.nil ?_
  -- cond
  refine J.ndec rfl (fun h2 => ?_) (fun h2 => ?_)
  · have e : a.same b = false := by
      unfold Rw.same
      rw [Bool.and_eq_false_iff]
      first
        | exact .inl (eqL_len (by omega))
        | exact .inr (eqL_len (by omega))
    rw [e]
    refine J.seq ?_
    refine J.region ?_
    refine L.va rfl (X.assign (by conv => lhs; whnf)) ?_
    refine L.nil ?_
    -- ret
    refine J.ret ?_
    refine thn_ret <| ?_
    refine fin1 ?_
    exact ⟨rfl, he⟩
  refine J.skip ?_
  refine J.seq ?_
  refine J.seq ?_
  refine J.region ?_
  refine L.va rfl (X.assign (by conv => lhs; whnf)) ?_
  refine L.nil ?_
  refine J.block ?_
  -- loop
  refine J.loop (X := Nat) [4, 5, 23, 24, 25, 26, 27, 28, 29, 30, 31, 32, 33, 34, 35, 36, 37, 38, 39, 40] (fun i => [(5, .int .i64 (i : Int))]) (fun i w' => i ≤ a.nc ∧ (∀ j, j < i → decide (a.c.getD j 0 = b.c.getD j 0) = true) ∧ Ext w2 w') (fun i => a.nc - i) (0) (At1 (by first | rfl | exact at_int rfl (by omega) | exact at_slice rfl (by omega) | exact at_int rfl (by simp))) ?_ ?_
  · exact ⟨by omega, fun j hj => absurd hj (by omega), Ext.refl _⟩
  · rintro i g w3 ⟨hi, hP, he3⟩
    have hk3 := hk2.ext he3
    have hk13 := hk12.ext he3
    have k1 := ha2.hc.ext he3
    have k2 := hb2'.hc.ext he3
    refine J.seq ?_
    refine J.seq ?_
    refine J.region ?_
    refine L.va rfl (X.move (by conv => lhs; whnf)) ?_
    refine L.va rfl (X.fieldAddr rfl Try.underlying32 rfl sz_29 (by decide)) ?_
    refine L.va rfl (X.load rfl sc_29 (by first | exact Ld.blk hk3 rfl | exact Ld.blk hk13 rfl | exact Ld.num k1 (by omega) | exact Ld.num k2 (by omega))) ?_
    refine L.va rfl (X.len rfl Try.underlying29) ?_
    refine L.va rfl (X.lss rfl rfl) ?_
    refine L.nil ?_
    -- cond
    refine J.dec rfl (fun hlt => ?_) (fun hlt => ?_)
    · have hA1 := k1.some_ (by omega)
      have hA2 := k2.some_ (by omega)
      refine J.skip ?_
      refine J.seq ?_
      refine J.block ?_
      refine J.seq ?_
      -- draw
      refine J.quiet mixed (by kernel_rfl) ?_
      refine Qt.va rfl (fun w' hw => X.fieldAddr rfl Try.underlying32 rfl sz_29 (by decide)) ?_
      refine Qt.va rfl (fun w' hw => X.load rfl sc_29 (by first | exact Ld.blk (hk3.ext hw) rfl | exact Ld.blk (hk13.ext hw) rfl | exact Ld.num (k1.ext hw) (by omega) | exact Ld.num (k2.ext hw) (by omega) | exact hA1 | exact hA2)) ?_
      refine Qt.va rfl (fun w' hw => X.move (by conv => lhs; whnf)) ?_
      refine Qt.va rfl (fun w' hw => (by first | exact X.index1n rfl rfl Try.underlying29 sz_3 (by first | exact Option.some_ne_none _ | exact k1.some_ (by omega) | exact k2.some_ (by omega) | exact hA1 | exact hA2) (by omega) | exact X.index1 rfl rfl Try.underlying29 sz_3 (by first | exact Option.some_ne_none _ | exact k1.some_ (by omega) | exact k2.some_ (by omega) | exact hA1 | exact hA2) (by omega))) ?_
      refine Qt.va rfl (fun w' hw => X.load rfl sc_3 (by first | exact Ld.blk (hk3.ext hw) rfl | exact Ld.blk (hk13.ext hw) rfl | exact Ld.num (k1.ext hw) (by omega) | exact Ld.num (k2.ext hw) (by omega) | exact hA1 | exact hA2)) ?_
      refine Qt.va rfl (fun w' hw => X.fieldAddr rfl Try.underlying32 rfl sz_29 (by decide)) ?_
      refine Qt.va rfl (fun w' hw => X.load rfl sc_29 (by first | exact Ld.blk (hk3.ext hw) rfl | exact Ld.blk (hk13.ext hw) rfl | exact Ld.num (k1.ext hw) (by omega) | exact Ld.num (k2.ext hw) (by omega) | exact hA1 | exact hA2)) ?_
      refine Qt.va rfl (fun w' hw => X.move (by conv => lhs; whnf)) ?_
      refine Qt.va rfl (fun w' hw => (by first | exact X.index1n rfl rfl Try.underlying29 sz_3 (by first | exact Option.some_ne_none _ | exact k1.some_ (by omega) | exact k2.some_ (by omega) | exact hA1 | exact hA2) (by omega) | exact X.index1 rfl rfl Try.underlying29 sz_3 (by first | exact Option.some_ne_none _ | exact k1.some_ (by omega) | exact k2.some_ (by omega) | exact hA1 | exact hA2) (by omega))) ?_
      refine Qt.va rfl (fun w' hw => X.load rfl sc_3 (by first | exact Ld.blk (hk3.ext hw) rfl | exact Ld.blk (hk13.ext hw) rfl | exact Ld.num (k1.ext hw) (by omega) | exact Ld.num (k2.ext hw) (by omega) | exact hA1 | exact hA2)) ?_
      refine Qt.va rfl (fun w' hw => X.neq rfl rfl) ?_
      refine Qt.nil (fun w4 hq => ?_)
      replace hk3 := hk3.ext hq
      replace hk13 := hk13.ext hq
      replace k1 := k1.ext hq
      replace k2 := k2.ext hq
      -- cond
      refine J.ndec rfl (fun hd => ?_) (fun hd => ?_)
      · have e : a.same b = false := by
          unfold Rw.same
          rw [show eqI a.c b.c = false from eqL_no (i := i) (by omega) (decide_eq_false hd)]; rfl
        rw [e]
        refine J.seq ?_
        refine J.region ?_
        refine L.va rfl (X.assign (by conv => lhs; whnf)) ?_
        refine L.nil ?_
        -- ret
        refine J.ret ?_
        refine inB_ret <|  thn_ret <|  thn_ret <|  inB_ret <|  thn_ret <| ?_
        refine fin1 ?_
        exact ⟨rfl, he.trans (he3.trans hq)⟩
      · skip
        refine J.skip ?_
        refine J.region ?_
        refine L.va rfl (X.move (by conv => lhs; whnf)) ?_
        refine L.va rfl (X.add rfl rfl (by omega)) ?_
        refine L.va rfl (X.assign (by conv => lhs; whnf)) ?_
        refine L.nil ?_
        -- loopend
        refine ⟨i + 1, At1 (by first | rfl | exact at_int rfl (by omega) | exact at_slice rfl (by omega) | exact at_int rfl (by simp)), (by (iterate 19 refine Agr.lk rfl ?_); exact Agr.lk rfl (Agr.hav rfl Agr.rfl')), ?_⟩
        refine ⟨⟨by omega, fun j hj => ?_, he3.trans hq⟩, by omega⟩
        rcases Nat.lt_or_ge j i with h | h
        · exact hP j h
        · obtain rfl : j = i := by omega
          exact decide_eq_true hd
    · have eI : eqI a.c b.c = true := eqL_yes (by omega) (fun j hj => hP j (by omega))
      have e : a.same b = eqV a.v b.v := by unfold Rw.same; rw [eI, Bool.true_and]
      rw [e]
      refine J.exit ?_
      refine J.seq ?_
      refine J.seq ?_
      refine J.region ?_
      refine L.va rfl (X.assign (by conv => lhs; whnf)) ?_
      refine L.nil ?_
      refine J.block ?_
      -- loop
      refine J.loop (X := Nat) [4, 6, 41, 42, 43, 44, 45, 46, 47, 48, 49, 50, 51, 52, 53, 54, 55, 56, 57, 58, 59] (fun i => [(6, .int .i64 (i : Int))]) (fun i w' => i ≤ a.nv ∧ (∀ j, j < i → (a.v.getD j Vl.z).same (b.v.getD j Vl.z) = true) ∧ Ext w2 w') (fun i => a.nv - i) (0) (At1 (by first | rfl | exact at_int rfl (by omega) | exact at_slice rfl (by omega) | exact at_int rfl (by simp))) ?_ ?_
      · exact ⟨by omega, fun j hj => absurd hj (by omega), he3⟩
      · rintro j g w4 ⟨hj, hPv, he4⟩
        have hk4 := hk2.ext he4
        have hk14 := hk12.ext he4
        have k1 := ha2.hv.ext he4
        have k2 := hb2'.hv.ext he4
        refine J.seq ?_
        refine J.seq ?_
        refine J.region ?_
        refine L.va rfl (X.move (by conv => lhs; whnf)) ?_
        refine L.va rfl (X.fieldAddr rfl Try.underlying32 rfl sz_30 (by decide)) ?_
        refine L.va rfl (X.load rfl sc_30 (by first | exact Ld.blk hk4 rfl | exact Ld.blk hk14 rfl)) ?_
        refine L.va rfl (X.len rfl Try.underlying30) ?_
        refine L.va rfl (X.lss rfl rfl) ?_
        refine L.nil ?_
        -- cond
        refine J.dec rfl (fun hlt2 => ?_) (fun hlt2 => ?_)
        · have hA1 := k1.some_ (by omega)
          have hA2 := k2.some_ (by omega)
          refine J.skip ?_
          refine J.seq ?_
          refine J.block ?_
          refine J.seq ?_
          -- draw
          refine J.quiet mixed (by kernel_rfl) ?_
          -- t52
          -- t57
          refine Qt.va rfl (fun w' hw => X.fieldAddr rfl Try.underlying32 rfl sz_30 (by decide)) ?_
          refine Qt.va rfl (fun w' hw => X.load rfl sc_30 (by first | exact Ld.blk (hk4.ext hw) rfl | exact Ld.blk (hk14.ext hw) rfl | exact hA1 | exact hA2)) ?_
          refine Qt.va rfl (fun w' hw => X.move (by conv => lhs; whnf)) ?_
          refine Qt.va rfl (fun w' hw => (by first | exact X.indexAddrn rfl rfl Try.underlying30 sz_102 (by first | exact Option.some_ne_none _ | exact hA1 | exact hA2) (by omega) | exact X.indexAddr rfl rfl Try.underlying30 sz_102 (by first | exact Option.some_ne_none _ | exact hA1 | exact hA2) (by omega))) ?_
          refine Qt.va rfl (fun w' hw => X.loadRow (cs := (a.v.getD j Vl.z).vs) rfl (k1.ext hw) (fun r u hu => flat_row vs_len (gtV (by omega)) r u hu) (Nat.zero_lt_succ _) Try.underlying102 rfl (by kernel_rfl)) ?_
          refine Qt.va rfl (fun w' hw => X.fieldAddr rfl Try.underlying32 rfl sz_30 (by decide)) ?_
          refine Qt.va rfl (fun w' hw => X.load rfl sc_30 (by first | exact Ld.blk (hk4.ext hw) rfl | exact Ld.blk (hk14.ext hw) rfl | exact hA1 | exact hA2)) ?_
          refine Qt.va rfl (fun w' hw => X.move (by conv => lhs; whnf)) ?_
          refine Qt.va rfl (fun w' hw => (by first | exact X.indexAddrn rfl rfl Try.underlying30 sz_102 (by first | exact Option.some_ne_none _ | exact hA1 | exact hA2) (by omega) | exact X.indexAddr rfl rfl Try.underlying30 sz_102 (by first | exact Option.some_ne_none _ | exact hA1 | exact hA2) (by omega))) ?_
          refine Qt.va rfl (fun w' hw => X.loadRow (cs := (b.v.getD j Vl.z).vs) rfl (k2.ext hw) (fun r u hu => flat_row vs_len (gtV (by omega)) r u hu) (Nat.zero_lt_succ _) Try.underlying102 rfl (by kernel_rfl)) ?_
          -- callfn bushel/bushelref32.Same
          refine Qt.call rfl en_85 rfl (fun w' hw => calls_ext hw (rsame32 (a.v.getD j Vl.z) (b.v.getD j Vl.z) w' (wfV_at ha.hw j) (wfV_at hb.hw j))) ?_
          refine Qt.va rfl (fun w' hw => X.not rfl) ?_
          refine Qt.nil (fun w5 hq => ?_)
          replace hk4 := hk4.ext hq
          replace hk14 := hk14.ext hq
          -- cond
          by_cases hd : (a.v.getD j Vl.z).same (b.v.getD j Vl.z) = true
          · rw [hd]
            refine J.iteF rfl ?_
            refine J.skip ?_
            refine J.region ?_
            refine L.va rfl (X.move (by conv => lhs; whnf)) ?_
            refine L.va rfl (X.add rfl rfl (by omega)) ?_
            refine L.va rfl (X.assign (by conv => lhs; whnf)) ?_
            refine L.nil ?_
            -- loopend
            refine ⟨j + 1, At1 (by first | rfl | exact at_int rfl (by omega) | exact at_slice rfl (by omega) | exact at_int rfl (by simp)), (by (iterate 20 refine Agr.lk rfl ?_); exact Agr.lk rfl (Agr.hav rfl Agr.rfl')), ?_⟩
            refine ⟨⟨by omega, fun j' hj' => ?_, he4.trans hq⟩, by omega⟩
            rcases Nat.lt_or_ge j' j with h | h
            · exact hPv j' h
            · obtain rfl : j' = j := by omega
              exact hd
          · have hd : (a.v.getD j Vl.z).same (b.v.getD j Vl.z) = false := by simpa using hd
            rw [show eqV a.v b.v = false from eqL_no (i := j) (by omega) hd, hd]
            refine J.iteT rfl ?_
            refine J.seq ?_
            refine J.region ?_
            refine L.va rfl (X.assign (by conv => lhs; whnf)) ?_
            refine L.nil ?_
            -- ret
            refine J.ret ?_
            refine inB_ret <|  thn_ret <|  thn_ret <|  inB_ret <|  thn_ret <| ?_
            refine fin1 ?_
            exact ⟨rfl, he.trans (he4.trans hq)⟩
        · rw [show eqV a.v b.v = true from eqL_yes (by omega) (fun j hj => hPv j (by omega))]
          refine J.exit ?_
          refine J.seq ?_
          refine J.region ?_
          refine L.va rfl (X.assign (by conv => lhs; whnf)) ?_
          refine L.nil ?_
          -- ret
          refine J.ret ?_
          refine fin1 ?_
          exact ⟨rfl, he.trans he4⟩
/-- a list of rows -/
structure Rws where
  (A : Option Addr) (n c : Nat) (l : List Rw)
namespace Rws
abbrev val (s : Rws) : Value := .slice s.A s.n s.c
structure At (s : Rws) (N : Nat) (w : World) : Prop where
  r : Reads w N 2 s.A s.n (s.l.flatMap Rw.vs)
  h : ∀ x ∈ s.l, x.At N w
  l : s.l.length = s.n
  m : s.n ≤ maxLen
theorem At.ext {s : Rws} {N : Nat} {w w' : World} (h : s.At N w) (he : Ext w w') : s.At N w' := ⟨h.r.ext he, fun x hx => (h.h x hx).ext he, h.l, h.m⟩
theorem At.more {s : Rws} {N N' : Nat} {w : World} (h : s.At N w) (hN : N ≤ N') : s.At N' w := ⟨h.r.more hN, fun x hx => (h.h x hx).more hN, h.l, h.m⟩
def Light (s : Rws) : Prop := s.n ≤ 60 ∧ ∀ x ∈ s.l, x.nc ≤ 20 ∧ x.nv ≤ 30
end Rws
theorem rw_len (r : Rw) : r.vs.length = 2 := rfl
def rw0 : Rw := ⟨none, 0, 0, [], none, 0, 0, []⟩
theorem gtR {l : List Rw} {i : Nat} (h : i < l.length) : l[i]? = some (l.getD i rw0) := by rw [List.getD, List.getElem?_eq_getElem h]; rfl
theorem memR {l : List Rw} {i : Nat} (h : i < l.length) : l.getD i rw0 ∈ l := by rw [List.getD, List.getElem?_eq_getElem h]; exact List.getElem_mem _
theorem light33 (s : Rws) (N : Nat) (w : World) (hs : s.At N w) : Calls Try.prog 15 #[s.val] w fun e w' => ∃ b, e = .returned (.bool b) ∧ (b = true → s.Light) ∧ Ext w w' := by
  have hl := hs.l
  have hm := hs.m
  unfold maxLen at hm
  refine enter Try.func15 rfl (by kernel_rfl) ?_
  refine J.seq ?_
  refine J.region ?_
  refine L.va rfl (X.assign (by conv => lhs; whnf)) ?_
  refine L.nil ?_
  refine J.seq ?_
  refine J.seq ?_
  refine J.region ?_
  refine L.va rfl (X.move (by conv => lhs; whnf)) ?_
  refine L.va rfl (X.len rfl Try.underlying23) ?_
  refine L.va rfl (X.gtr rfl rfl) ?_
  refine L.nil ?_
  -- cond
  refine J.dec rfl (fun h1 => ?_) (fun h1 => ?_)
  · refine J.seq ?_
    refine J.region ?_
    refine L.va rfl (X.assign (by conv => lhs; whnf)) ?_
    refine L.nil ?_
    -- ret
    refine J.ret ?_
    refine thn_ret <| ?_
    refine fin1 ?_
    exact ⟨false, rfl, (fun h => by cases h), Ext.refl _⟩
  · refine J.skip ?_
    refine J.seq ?_
    refine J.seq ?_
    refine J.region ?_
    refine L.va rfl (X.assign (by conv => lhs; whnf)) ?_
    refine L.nil ?_
    refine J.block ?_
    -- loop
    refine J.loop (X := Nat) [2, 3, 7, 8, 9, 10, 11, 12, 13, 14, 15, 16, 17, 18, 19, 20, 21, 22, 23, 24, 25, 26, 27, 28] (fun i => [(3, .int .i64 (i : Int))]) (fun i w' => i ≤ s.n ∧ (∀ j, j < i → (s.l.getD j rw0).nc ≤ 20 ∧ (s.l.getD j rw0).nv ≤ 30) ∧ Ext w w') (fun i => s.n - i) (0) (At1 (by first | rfl | exact at_int rfl (by omega) | exact at_slice rfl (by omega) | exact at_int rfl (by simp))) ?_ ?_
    · exact ⟨by omega, fun j hj => absurd hj (by omega), Ext.refl _⟩
    · rintro i g w2 ⟨hi, hP, he⟩
      have k := hs.r.ext he
      refine J.seq ?_
      refine J.seq ?_
      refine J.region ?_
      refine L.va rfl (X.move (by conv => lhs; whnf)) ?_
      refine L.va rfl (X.move (by conv => lhs; whnf)) ?_
      refine L.va rfl (X.len rfl Try.underlying23) ?_
      refine L.va rfl (X.lss rfl rfl) ?_
      refine L.nil ?_
      -- cond
      refine J.dec rfl (fun hlt => ?_) (fun hlt => ?_)
      · have hil : i < s.l.length := by omega
        have hA := k.some_ (by omega)
        refine J.skip ?_
        refine J.seq ?_
        refine J.block ?_
        refine J.seq ?_
        refine J.region ?_
        refine L.va rfl (X.move (by conv => lhs; whnf)) ?_
        refine L.va rfl (X.move (by conv => lhs; whnf)) ?_
        refine L.va rfl ((by first | exact X.indexAddrn rfl rfl Try.underlying23 sz_32 (by first | exact Option.some_ne_none _ | exact hA) (by omega) | exact X.indexAddr rfl rfl Try.underlying23 sz_32 (by first | exact Option.some_ne_none _ | exact hA) (by omega))) ?_
        refine L.va rfl (X.fieldP rfl Try.underlying32 rfl sz_29 (by decide) (by first | exact Option.some_ne_none _ | exact hA)) ?_
        refine L.va rfl (X.load rfl sc_29 (by first | exact hA | exact Ld.flat2 rw_len k (gtR hil) (r := 0) rfl | exact Ld.flat2 rw_len k (gtR hil) (r := 1) rfl)) ?_
        refine L.va rfl (X.len rfl Try.underlying29) ?_
        refine L.va rfl (X.gtr rfl rfl) ?_
        refine L.va rfl (X.move (by conv => lhs; whnf)) ?_
        -- case t20
        refine L.caseDec (k := 20) rfl (fun h2 => ?_) (fun h2 => ?_)
        · refine L.no rfl ?_
          refine L.no rfl ?_
          refine L.no rfl ?_
          refine L.no rfl ?_
          refine L.no rfl ?_
          refine L.no rfl ?_
          refine L.no rfl ?_
          refine L.va rfl (X.pickT rfl (by conv => lhs; whnf)) ?_
          refine L.nil ?_
          -- cond
          refine J.iteT rfl ?_
          refine J.seq ?_
          refine J.region ?_
          refine L.va rfl (X.assign (by conv => lhs; whnf)) ?_
          refine L.nil ?_
          -- ret
          refine J.ret ?_
          refine inB_ret <|  thn_ret <|  thn_ret <|  inB_ret <|  thn_ret <| ?_
          refine fin1 ?_
          exact ⟨false, rfl, (fun h => by cases h), he⟩
        refine L.va rfl (X.move (by conv => lhs; whnf)) ?_
        refine L.va rfl (X.move (by conv => lhs; whnf)) ?_
        refine L.va rfl ((by first | exact X.indexAddrn rfl rfl Try.underlying23 sz_32 (by first | exact Option.some_ne_none _ | exact hA) (by omega) | exact X.indexAddr rfl rfl Try.underlying23 sz_32 (by first | exact Option.some_ne_none _ | exact hA) (by omega))) ?_
        refine L.va rfl (X.fieldP rfl Try.underlying32 rfl sz_30 (by decide) (by first | exact Option.some_ne_none _ | exact hA)) ?_
        refine L.va rfl (X.load rfl sc_30 (by first | exact hA | exact Ld.flat2 rw_len k (gtR hil) (r := 0) rfl | exact Ld.flat2 rw_len k (gtR hil) (r := 1) rfl)) ?_
        refine L.va rfl (X.len rfl Try.underlying30) ?_
        refine L.va rfl (X.gtr rfl rfl) ?_
        refine L.va rfl (X.pickF rfl (by conv => lhs; whnf)) ?_
        refine L.nil ?_
        -- cond
        refine J.dec rfl (fun h3 => ?_) (fun h3 => ?_)
        · refine J.seq ?_
          refine J.region ?_
          refine L.va rfl (X.assign (by conv => lhs; whnf)) ?_
          refine L.nil ?_
          -- ret
          refine J.ret ?_
          refine inB_ret <|  thn_ret <|  thn_ret <|  inB_ret <|  thn_ret <| ?_
          refine fin1 ?_
          exact ⟨false, rfl, (fun h => by cases h), he⟩
        refine J.skip ?_
        refine J.region ?_
        refine L.va rfl (X.move (by conv => lhs; whnf)) ?_
        refine L.va rfl (X.add rfl rfl (by omega)) ?_
        refine L.va rfl (X.assign (by conv => lhs; whnf)) ?_
        refine L.nil ?_
        -- loopend
        refine ⟨i + 1, At1 (by first | rfl | exact at_int rfl (by omega) | exact at_slice rfl (by omega) | exact at_int rfl (by simp)), (by (iterate 24 refine Agr.lk rfl ?_); exact Agr.lk rfl (Agr.hav rfl Agr.rfl')), ?_⟩
        refine ⟨⟨by omega, fun j hj => ?_, he⟩, by omega⟩
        rcases Nat.lt_or_ge j i with h | h
        · exact hP j h
        · obtain rfl : j = i := by omega
          exact ⟨by omega, by omega⟩
      · refine J.exit ?_
        refine J.seq ?_
        refine J.region ?_
        refine L.va rfl (X.assign (by conv => lhs; whnf)) ?_
        refine L.nil ?_
        -- ret
        refine J.ret ?_
        refine fin1 ?_
        refine ⟨true, rfl, fun _ => ⟨by omega, fun x hx => ?_⟩, he⟩
        obtain ⟨j, hj, rfl⟩ := List.getElem_of_mem hx
        have := hP j (by omega)
        rwa [List.getD, List.getElem?_eq_getElem hj] at this
end Go.Proofs.Ytmnlaekcojblkaa
