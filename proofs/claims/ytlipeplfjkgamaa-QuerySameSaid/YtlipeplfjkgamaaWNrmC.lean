/-
  Codes in plain form: filter.plain, filter.common.
-/
import Derived.Test.YtlipeplfjkgamaaWNrmB
namespace Go.Proofs.Ytlipeplfjkgamaa
set_option maxRecDepth 100000
open Go.RowKit H
open Srt
open Nrm (Up Dd Cmn)
set_option linter.unusedVariables false
theorem own_bot {w : World} {base : Nat} {e : TypeId} {size n : Nat} {v : Value} {xs : List Value} (h : w.ownsRow base e size v n xs) (g : Nat) (hg : v.ownBlock = some g) : base ≤ g := by
  rcases h.2 with ⟨rfl, _⟩ | ⟨b, cap, cur, rfl, hb, hh, _⟩
  · cases hg
  · obtain rfl : b = g := by injection hg
    exact hb
/-- codes that lie in memory -/
structure Cs where
  (A : Option Addr) (n c : Nat) (l : List Int)
namespace Cs
abbrev val (s : Cs) : Value := .slice s.A s.n s.c
structure At (s : Cs) (N : Nat) (w : World) : Prop where
  r : Reads w N 1 s.A s.n (nums .i64 s.l)
  c : s.n ≤ s.c
  m : s.c ≤ maxLen
theorem At.ext {f : Cs} {N : Nat} {w w' : World} (h : f.At N w) (he : Ext w w') : f.At N w' := ⟨h.r.ext he, h.c, h.m⟩
theorem At.low {f : Cs} {N B : Nat} {w w' : World} (h : f.At N w) (he : Below B w w') (hB : N ≤ B) : f.At N w' := ⟨h.r.low he hB, h.c, h.m⟩
theorem At.more {f : Cs} {N N' : Nat} {w : World} (h : f.At N w) (hN : N ≤ N') : f.At N' w := ⟨h.r.more hN, h.c, h.m⟩
theorem At.len {f : Cs} {N : Nat} {w : World} (h : f.At N w) : f.l.length = f.n := by have := h.r.1; simpa [nums] using this
theorem At.own {A : Option Addr} {n c N : Nat} {l : List Int} {w : World} {e : TypeId} (h : w.ownsRow N e 1 (.slice A n c) n (nums .i64 l)) : (Cs.mk A n c l).At w.heap.size w := ⟨Reads.of_own h, (own_bd h).1, (own_bd h).2⟩
/-- all but the first -/
def tl (s : Cs) : Cs := ⟨if s.c = 1 then s.A else s.A.map (·.add (1 * 1)), s.n - 1, s.c - 1, s.l.tail⟩
theorem At.tl {f : Cs} {N : Nat} {w : World} (h : f.At N w) (hn : 0 < f.n) : f.tl.At N w := by
  have hl := h.len
  have hc := h.c
  have hm := h.m
  have := part_nums h.r (i := 1) (j := f.n) hn (Nat.le_refl _) h.c
  rw [List.take_of_length_le (by rw [List.length_drop]; omega), List.drop_one] at this
  exact ⟨this, show f.n - 1 ≤ f.c - 1 by omega, show f.c - 1 ≤ maxLen by omega⟩
end Cs
theorem plainI (A : Option Addr) (n c : Nat) (l : List Int) (w : World) (hr : Reads w w.heap.size 1 A n (nums .i64 l)) (hn : n ≤ 5000) :
    Calls Try.prog 175 #[.slice A n c] w fun e w' => ∃ s : Cs, e = .returned s.val ∧ w'.ownsRow w.heap.size 3 1 s.val s.n (nums .i64 s.l) ∧ Ext w w' ∧ Up s.l ∧ (∀ x, x ∈ s.l ↔ x ∈ l) := by
  refine enter Try.func175 rfl (by kernel_rfl) ?_
  refine J.seq ?_
  refine J.region ?_
  refine L.va rfl (X.assign (by conv => lhs; whnf)) ?_
  refine L.nil ?_
  refine J.seq ?_
  refine J.region ?_
  refine L.va rfl (X.move (by conv => lhs; whnf)) ?_
  -- callfn slices.Clone[[]int,int]
  refine L.call rfl en_142 rfl (cloneI A n c l w hr hn) ?_
  rintro e w1 ⟨A1, c1, rfl, ho1, he1⟩
  refine ⟨_, rfl, ?_⟩
  refine L.va rfl (X.assign (by conv => lhs; whnf)) ?_
  refine L.nil ?_
  refine J.seq ?_
  refine J.region ?_
  refine L.va rfl (X.move (by conv => lhs; whnf)) ?_
  -- callfn slices.Sort[[]int,int]
  refine L.call rfl en_230 rfl (sortI A1 n c1 w.heap.size l w1 ho1 (by omega)) ?_
  rintro e w2 ⟨rfl, l2, ho2, hg2, hp2, hs2⟩
  refine ⟨_, rfl, ?_⟩
  refine L.nil ?_
  refine J.seq ?_
  refine J.region ?_
  refine L.va rfl (X.move (by conv => lhs; whnf)) ?_
  -- callfn slices.Compact[[]int,int]
  refine L.call rfl en_231 rfl (compactI A1 n c1 w.heap.size l2 w2 ho2 hs2 (by omega)) ?_
  rintro e w3 ⟨k, y, rfl, ho3, hg3, hu, hm⟩
  refine ⟨_, rfl, ?_⟩
  refine L.va rfl (X.assign (by conv => lhs; whnf)) ?_
  refine L.nil ?_
  -- ret
  refine J.ret ?_
  refine fin1 ?_
  exact ⟨⟨A1, k, c1, y⟩, rfl, ho3, he1.grw (grb_trans hg2 hg3) (fun g hg => own_bot ho1 g hg), hu, fun x => (hm x).trans hp2.mem_iff⟩
theorem commonI (a b : Cs) (w : World) (ha : a.At w.heap.size w) (hb : b.At w.heap.size w) (ua : Up a.l) (ub : Up b.l) (hn : a.n ≤ 5000) :
    Calls Try.prog 174 #[a.val, b.val] w fun e w' => ∃ s : Cs, e = .returned s.val ∧ w'.ownsRow w.heap.size 3 1 s.val s.n (nums .i64 s.l) ∧ Ext w w' ∧ Up s.l ∧ (∀ x, x ∈ s.l ↔ (x ∈ a.l ∧ x ∈ b.l)) := by
  have hma := ha.m
  have hca := ha.c
  have hmb := hb.m
  have hcb := hb.c
  unfold maxLen at hma hmb
  refine enter Try.func174 rfl (by kernel_rfl) ?_
  refine J.seq ?_
  refine J.region ?_
  refine L.va rfl (X.assign (by conv => lhs; whnf)) ?_
  refine L.nil ?_
  refine J.seq ?_
  refine J.region ?_
  refine L.va rfl (X.assign (by conv => lhs; whnf)) ?_
  refine L.nil ?_
  refine J.seq ?_
  refine J.block ?_
  -- loop
  refine J.loop (X := Cs × Cs × Cs) [0, 1, 5, 6, 7, 8, 9, 10, 11, 12, 13, 14, 15, 16, 17, 18, 19, 20, 21, 22, 23, 24, 25, 26, 27, 28, 29, 30, 31, 32, 33, 34, 35, 36, 37, 38, 39, 40, 41, 42, 43] (fun (u, v, o) => [(0, u.val), (1, v.val), (5, o.val)]) (fun (u, v, o) w' => u.At w.heap.size w' ∧ v.At w.heap.size w' ∧ w'.ownsRow w.heap.size 3 1 o.val o.n (nums .i64 o.l) ∧ Cmn a.l b.l u.l v.l o.l ∧ o.n + u.n ≤ a.n ∧ Ext w w') (fun (u, v, _) => u.n + v.n) ((a, b, ⟨none, 0, 0, []⟩)) (At3 (by first | rfl | exact at_int rfl (by omega) | exact at_slice rfl (by omega) | exact at_int rfl (by simp)) (by first | rfl | exact at_int rfl (by omega) | exact at_slice rfl (by omega) | exact at_int rfl (by simp)) (by first | rfl | exact at_int rfl (by omega) | exact at_slice rfl (by omega) | exact at_int rfl (by simp))) ?_ ?_
  · exact ⟨ha, hb, own_nilN _ _ _ _, Cmn.start ua ub, by show 0 + a.n ≤ a.n; omega, Ext.refl _⟩
  · rintro ⟨u, v, o⟩ g w2 ⟨hu, hv, ho, hC, hlen, he⟩
    have hmu := hu.m
    have hcu := hu.c
    have hlu := hu.len
    have hmv := hv.m
    have hcv := hv.c
    have hlv := hv.len
    unfold maxLen at hmu hmv
    have hru := hu.r
    have hrv := hv.r
    refine J.seq ?_
    refine J.seq ?_
    refine J.region ?_
    refine L.va rfl (X.move (by conv => lhs; whnf)) ?_
    refine L.va rfl (X.len rfl Try.underlying23) ?_
    refine L.va rfl (X.gtr rfl rfl) ?_
    refine L.va rfl (X.move (by conv => lhs; whnf)) ?_
    -- case t9
    refine L.caseDec (k := 9) rfl (fun h1 => ?_) (fun h1 => ?_)
    · refine L.va rfl (X.move (by conv => lhs; whnf)) ?_
      refine L.va rfl (X.len rfl Try.underlying23) ?_
      refine L.va rfl (X.gtr rfl rfl) ?_
      refine L.va rfl (X.pickT rfl (by conv => lhs; whnf)) ?_
      refine L.nil ?_
      -- cond
      refine J.dec rfl (fun h2 => ?_) (fun h2 => ?_)
      · have hAu := hru.some_ (by omega)
        have hAv := hrv.some_ (by omega)
        obtain ⟨x, xt, ex⟩ : ∃ x xt, u.l = x :: xt := by
          match h : u.l with
          | [] => rw [h] at hlu; simp at hlu; omega
          | x :: xt => exact ⟨x, xt, rfl⟩
        obtain ⟨z, zt, ez⟩ : ∃ x xt, v.l = x :: xt := by
          match h : v.l with
          | [] => rw [h] at hlv; simp at hlv; omega
          | x :: xt => exact ⟨x, xt, rfl⟩
        rw [ex, ez] at hC
        have eu : u.tl.l = xt := by show u.l.tail = xt; rw [ex]; rfl
        have ew : v.tl.l = zt := by show v.l.tail = zt; rw [ez]; rfl
        rw [ex] at hru
        rw [ez] at hrv
        have hut := hu.tl (by omega)
        have hvt := hv.tl (by omega)
        refine J.skip ?_
        refine J.block ?_
        refine J.block ?_
        refine J.seq ?_
        -- draw
        refine J.quiet mixed (by kernel_rfl) ?_
        refine Qt.va rfl (fun w' hw => X.move (by conv => lhs; whnf)) ?_
        refine Qt.va rfl (fun w' hw => X.index1n (j := 0) rfl rfl Try.underlying23 sz_3 (by first | exact Option.some_ne_none _ | exact hru.some_ (by omega) | exact hrv.some_ (by omega) | exact hAu | exact hAv) (by omega)) ?_
        refine Qt.va rfl (fun w' hw => X.load rfl sc_3 (by first | exact Ld.num (hru.ext hw) (by omega) | exact Ld.num (hrv.ext hw) (by omega) | exact hAu | exact hAv)) ?_
        refine Qt.va rfl (fun w' hw => X.move (by conv => lhs; whnf)) ?_
        refine Qt.va rfl (fun w' hw => X.index1n (j := 0) rfl rfl Try.underlying23 sz_3 (by first | exact Option.some_ne_none _ | exact hru.some_ (by omega) | exact hrv.some_ (by omega) | exact hAu | exact hAv) (by omega)) ?_
        refine Qt.va rfl (fun w' hw => X.load rfl sc_3 (by first | exact Ld.num (hru.ext hw) (by omega) | exact Ld.num (hrv.ext hw) (by omega) | exact hAu | exact hAv)) ?_
        refine Qt.va rfl (fun w' hw => X.lss rfl rfl) ?_
        refine Qt.va rfl (fun w' hw => X.assign (by conv => lhs; whnf)) ?_
        refine Qt.nil (fun w3 hq => ?_)
        replace hru := hru.ext hq
        replace hrv := hrv.ext hq
        -- cond
        refine J.dec rfl (fun h3 => ?_) (fun h3 => ?_)
        · refine J.region ?_
          refine L.va rfl (X.move (by conv => lhs; whnf)) ?_
          refine L.va rfl ((by first | exact X.sliceFromn (i := 1) rfl rfl Try.underlying23 sz_3 (by omega) | exact X.sliceFrom rfl rfl Try.underlying23 sz_3 (by omega))) ?_
          refine L.va rfl (X.assign (by conv => lhs; whnf)) ?_
          refine L.nil ?_
          -- loopend
          refine ⟨(u.tl, v, o), At3 (by first | rfl | exact at_int rfl (by omega) | exact at_slice rfl (by omega) | exact at_int rfl (by simp)) (by first | rfl | exact at_int rfl (by omega) | exact at_slice rfl (by omega) | exact at_int rfl (by simp)) (by first | rfl | exact at_int rfl (by omega) | exact at_slice rfl (by omega) | exact at_int rfl (by simp)), (by (iterate 20 refine Agr.lk rfl ?_); exact Agr.lk rfl (Agr.hav rfl Agr.rfl')), ?_⟩
          refine ⟨⟨hut.ext hq, hv.ext hq, ho.ext hq, ?_, ?_, he.trans hq⟩, ?_⟩
          · rw [eu, ez]; exact hC.left h3
          · show o.n + (u.n - 1) ≤ a.n; omega
          · show u.n - 1 + v.n < u.n + v.n; omega
        · refine J.seq ?_
          -- draw
          refine J.quiet mixed (by kernel_rfl) ?_
          refine Qt.va rfl (fun w' hw => X.move (by conv => lhs; whnf)) ?_
          refine Qt.va rfl (fun w' hw => X.index1n (j := 0) rfl rfl Try.underlying23 sz_3 (by first | exact Option.some_ne_none _ | exact hru.some_ (by omega) | exact hrv.some_ (by omega) | exact hAu | exact hAv) (by omega)) ?_
          refine Qt.va rfl (fun w' hw => X.load rfl sc_3 (by first | exact Ld.num (hru.ext hw) (by omega) | exact Ld.num (hrv.ext hw) (by omega) | exact hAu | exact hAv)) ?_
          refine Qt.va rfl (fun w' hw => X.move (by conv => lhs; whnf)) ?_
          refine Qt.va rfl (fun w' hw => X.index1n (j := 0) rfl rfl Try.underlying23 sz_3 (by first | exact Option.some_ne_none _ | exact hru.some_ (by omega) | exact hrv.some_ (by omega) | exact hAu | exact hAv) (by omega)) ?_
          refine Qt.va rfl (fun w' hw => X.load rfl sc_3 (by first | exact Ld.num (hru.ext hw) (by omega) | exact Ld.num (hrv.ext hw) (by omega) | exact hAu | exact hAv)) ?_
          refine Qt.va rfl (fun w' hw => X.gtr rfl rfl) ?_
          refine Qt.va rfl (fun w' hw => X.assign (by conv => lhs; whnf)) ?_
          refine Qt.nil (fun w4 hq4 => ?_)
          replace hru := hru.ext hq4
          replace hrv := hrv.ext hq4
          -- cond
          refine J.dec rfl (fun h4 => ?_) (fun h4 => ?_)
          · refine J.region ?_
            refine L.va rfl (X.move (by conv => lhs; whnf)) ?_
            refine L.va rfl ((by first | exact X.sliceFromn (i := 1) rfl rfl Try.underlying23 sz_3 (by omega) | exact X.sliceFrom rfl rfl Try.underlying23 sz_3 (by omega))) ?_
            refine L.va rfl (X.assign (by conv => lhs; whnf)) ?_
            refine L.nil ?_
            -- loopend
            refine ⟨(u, v.tl, o), At3 (by first | rfl | exact at_int rfl (by omega) | exact at_slice rfl (by omega) | exact at_int rfl (by simp)) (by first | rfl | exact at_int rfl (by omega) | exact at_slice rfl (by omega) | exact at_int rfl (by simp)) (by first | rfl | exact at_int rfl (by omega) | exact at_slice rfl (by omega) | exact at_int rfl (by simp)), (by (iterate 28 refine Agr.lk rfl ?_); exact Agr.lk rfl (Agr.hav rfl Agr.rfl')), ?_⟩
            refine ⟨⟨(hu.ext hq).ext hq4, (hvt.ext hq).ext hq4, (ho.ext hq).ext hq4, ?_, hlen, (he.trans hq).trans hq4⟩, ?_⟩
            · rw [ew, ex]; exact hC.right h4
            · show u.n + (v.n - 1) < u.n + v.n; omega
          · have e0 : x = z := by
              have h3 : ¬ x < z := h3
              have h4 : ¬ z < x := h4
              omega
            subst e0
            have ho4 := (ho.ext hq).ext hq4
            have he4 := (he.trans hq).trans hq4
            have z4 := he4.le
            refine J.seq ?_
            refine J.region ?_
            refine L.va rfl (X.move (by conv => lhs; whnf)) ?_
            refine L.va rfl (X.move (by conv => lhs; whnf)) ?_
            refine L.va rfl (X.index1n (j := 0) rfl rfl Try.underlying23 sz_3 (by first | exact Option.some_ne_none _ | exact hru.some_ (by omega) | exact hrv.some_ (by omega) | exact hAu | exact hAv) (by omega)) ?_
            refine L.va rfl (X.load rfl sc_3 (by first | exact Ld.num hru (by omega) | exact Ld.num hrv (by omega) | exact hAu | exact hAv)) ?_
            -- buildSlice
            refine L.bslice (vs := [_]) rfl (Evs.cons (by conv => lhs; whnf) Evs.nil) rfl rfl rfl rfl Try.underlying23 sz_3 zr_3 (by decide) ?_
            intro b5 w5 hb5 hs5 hk5 he5
            -- append
            refine L.appendQ (q := o.n + 1) (ys := o.l ++ [x]) rfl rfl rfl Try.underlying23 el_3 (ho4.ext he5) ((blk_reads (q := 1) (l := nums .i64 [x]) hk5 hk5.lt rfl)) (by omega) (by simp) (by unfold maxLen; omega) (by omega) ?_
            intro A6 c6 w6 ho6 hg6 hb6 hor6
            have he46 : Ext w w6 := (he4.trans he5).low hb6 (Nat.le_refl _)
            have hut6 : u.tl.At w.heap.size w6 := ((((hut.ext hq).ext hq4).ext he5)).low hb6 (Nat.le_refl _)
            have hvt6 : v.tl.At w.heap.size w6 := ((((hvt.ext hq).ext hq4).ext he5)).low hb6 (Nat.le_refl _)
            refine L.va rfl (X.assign (by conv => lhs; whnf)) ?_
            refine L.nil ?_
            -- draw
            refine J.quiet mixed (by kernel_rfl) ?_
            refine Qt.va rfl (fun w' hw => X.move (by conv => lhs; whnf)) ?_
            refine Qt.va rfl (fun w' hw => (by first | exact X.sliceFromn (i := 1) rfl rfl Try.underlying23 sz_3 (by omega) | exact X.sliceFrom rfl rfl Try.underlying23 sz_3 (by omega))) ?_
            refine Qt.va rfl (fun w' hw => X.move (by conv => lhs; whnf)) ?_
            refine Qt.va rfl (fun w' hw => (by first | exact X.sliceFromn (i := 1) rfl rfl Try.underlying23 sz_3 (by omega) | exact X.sliceFrom rfl rfl Try.underlying23 sz_3 (by omega))) ?_
            refine Qt.va rfl (fun w' hw => X.assign (by conv => lhs; whnf)) ?_
            refine Qt.va rfl (fun w' hw => X.assign (by conv => lhs; whnf)) ?_
            refine Qt.nil (fun w7 hq7 => ?_)
            -- loopend
            refine ⟨(u.tl, v.tl, ⟨A6, o.n + 1, c6, o.l ++ [x]⟩), At3 (by first | rfl | exact at_int rfl (by omega) | exact at_slice rfl (by omega) | exact at_int rfl (by simp)) (by first | rfl | exact at_int rfl (by omega) | exact at_slice rfl (by omega) | exact at_int rfl (by simp)) (by first | rfl | exact at_int rfl (by omega) | exact at_slice rfl (by omega) | exact at_int rfl (by simp)), (by (iterate 38 refine Agr.lk rfl ?_); exact Agr.lk rfl (Agr.hav rfl Agr.rfl')), ?_⟩
            refine ⟨⟨hut6.ext hq7, hvt6.ext hq7, ho6.ext hq7, ?_, ?_, he46.trans hq7⟩, ?_⟩
            · rw [eu, ew]; exact hC.both
            · show o.n + 1 + (u.n - 1) ≤ a.n; omega
            · show u.n - 1 + (v.n - 1) < u.n + v.n; omega
      · refine J.exit ?_
        refine J.seq ?_
        refine J.region ?_
        refine L.va rfl (X.move (by conv => lhs; whnf)) ?_
        refine L.va rfl (X.assign (by conv => lhs; whnf)) ?_
        refine L.nil ?_
        -- ret
        refine J.ret ?_
        refine fin1 ?_
        have e0 : v.l = [] := List.length_eq_zero_iff.1 (by omega)
        exact ⟨o, rfl, ho, he, hC.uo, hC.stop (.inr e0)⟩
    · refine L.no rfl ?_
      refine L.no rfl ?_
      refine L.no rfl ?_
      refine L.va rfl (X.pickF rfl (by conv => lhs; whnf)) ?_
      refine L.nil ?_
      -- cond
      refine J.iteF rfl ?_
      refine J.exit ?_
      refine J.seq ?_
      refine J.region ?_
      refine L.va rfl (X.move (by conv => lhs; whnf)) ?_
      refine L.va rfl (X.assign (by conv => lhs; whnf)) ?_
      refine L.nil ?_
      -- ret
      refine J.ret ?_
      refine fin1 ?_
      have e0 : u.l = [] := List.length_eq_zero_iff.1 (by omega)
      exact ⟨o, rfl, ho, he, hC.uo, hC.stop (.inl e0)⟩
end Go.Proofs.Ytlipeplfjkgamaa
