import Derived.Laws.BitsAllLaws
import Derived.Test.YtpomklkfedpkfaaGreatZFilterCells5
/-
  What the law leans on, part 6: WNrmD, WNrmE, WQryA, WQryB, NeedPlain, WQryD, KeyPlain, WKeyA, WKeyB, WExaE, WKeyC, WNumH, WNrmF, WQryIn, WNrmG, WLight, CelIn, CelAsk, LFilterCells.
-/
namespace Go.Proofs.YtpomklkfedpkfaaGreat
set_option maxRecDepth 100000
open Go.RowKit H
open Nrm (Up sel mem_sel eq_sel up_sel kp sm nrm nf take_next)
set_option linter.unusedVariables false
def szN (s : Sch) (i : Nat) : Nat := (s.ds.getD i d0).2.toNat
def szs (s : Sch) (n : Nat) : List Nat := (List.range n).map (szN s)
theorem szs_next (s : Sch) (n : Nat) : szs s (n + 1) = szs s n ++ [szN s n] := by unfold szs; rw [List.range_succ, List.map_append]; rfl
theorem szs_len (s : Sch) (n : Nat) : (szs s n).length = n := by simp [szs]
abbrev Fi.key (f : Fi) : Int × List Int := (f.d, f.l)
theorem key_at {l : List Fi} {i : Nat} (h : i < l.length) : (l.map Fi.key).take (i + 1) = (l.map Fi.key).take i ++ [(l.getD i fi0).key] := by
  rw [take_next _ (0, []) (by rw [List.length_map]; exact h)]
  congr 2
  rw [List.getD, List.getElem?_map, gtF h]
  rfl
structure FOk (s : Sch) (f : Fis) : Prop where
  c : s.code = 0
  n : f.n ≤ 20
  d : ∀ i, i < f.n → 0 ≤ (f.l.getD i fi0).d ∧ (f.l.getD i fi0).d < s.nd
  m : ∀ i, i < f.n → (f.l.getD i fi0).n ≤ 4096
  k : ∀ i j, i < f.n → j < (f.l.getD i fi0).n → cOk s (f.l.getD i fi0).d ((f.l.getD i fi0).l.getD j 0)
theorem fE_ok {s : Sch} {x : Fi} (h : fE s x = 0) : (0 ≤ x.d ∧ x.d < s.nd) ∧ x.n ≤ 4096 ∧ ∀ j, j < x.n → cOk s x.d (x.l.getD j 0) := by
  unfold fE at h
  by_cases h1 : x.d < 0 ∨ (s.nd : Int) ≤ x.d
  · rw [if_pos h1] at h; exact absurd h (by decide)
  · rw [if_neg h1] at h
    by_cases h2 : 4096 < x.n
    · rw [if_pos h2] at h; exact absurd h (by decide)
    · rw [if_neg h2] at h
      by_cases h3 : ∃ i, i < x.n ∧ ¬ cOk s x.d (x.l.getD i 0)
      · rw [if_pos h3] at h; exact absurd h (by decide)
      · refine ⟨by omega, by omega, fun j hj => Decidable.byContradiction fun hn => h3 ⟨j, hj, hn⟩⟩
theorem fok {s : Sch} {f : Fis} (hl : f.l.length = f.n) (h : fcode s f = 0) : FOk s f := by
  unfold fcode at h
  by_cases h1 : s.code = 0
  · rw [if_neg (fun k => k h1)] at h
    by_cases h2 : 20 < f.n
    · rw [if_pos h2] at h; exact absurd h (by decide)
    · rw [if_neg h2] at h
      have := fst_ok (d := fi0) h
      exact ⟨h1, by omega, fun i hi => (fE_ok (this i (by omega))).1, fun i hi => (fE_ok (this i (by omega))).2.1, fun i j hi hj => (fE_ok (this i (by omega))).2.2 j hj⟩
  · rw [if_pos h1] at h; exact absurd h (by decide)
def FiOwn (x : Fi) (N : Nat) (w : World) : Prop := w.ownsRow N 3 1 (.slice x.A x.n x.c) x.n (nums .i64 x.l)
theorem FiOwn.at {x : Fi} {N : Nat} {w : World} (h : FiOwn x N w) : x.At w.heap.size w := ⟨Reads.of_own h, own_max h⟩
structure FisOwn (f : Fis) (N : Nat) (w : World) : Prop where
  o : w.ownsRow N 46 2 (.slice f.A f.n f.c) f.n (f.l.flatMap Fi.vs)
  h : ∀ x, x ∈ f.l → FiOwn x N w
  l : f.l.length = f.n
theorem FisOwn.at {f : Fis} {N : Nat} {w : World} (h : FisOwn f N w) : f.At w.heap.size w := ⟨Reads.of_own h.o, fun x hx => (h.h x hx).at, h.l, own_max h.o⟩
theorem FisOwn.ext {f : Fis} {N : Nat} {w w' : World} (h : FisOwn f N w) (he : Ext w w') : FisOwn f N w' := ⟨h.o.ext he, fun x hx => World.ownsRow.ext (h.h x hx) he, h.l⟩
theorem fnorm_ok {s : Sch} {f : Fis} {w : World} (H : s.Here w) (hf : f.At w.heap.size w) (hc : fcode s f = 0) : Calls Tryz.prog 13 #[s.val, f.val] w fun e w' => ∃ r : Fis, e = .returned (.tuple #[r.val, .int .i64 0]) ∧ FisOwn r w.heap.size w' ∧ r.l.map Fi.key = nrm (f.l.map Fi.key) 0 (szs s s.nd) ∧ Ext w w' := by
 have K := fok hf.l hc
 have hl := hf.l
 have hsl := H.len
 have G := Sch.good K.c
 have hnd := G.1
 have hfn := K.n
 obtain ⟨ky, eky⟩ : ∃ ky, ky = f.l.map Fi.key := ⟨_, rfl⟩
 refine enter Tryz.func13 rfl (by kernel_rfl) ?_
 refine J.seq ?_
 refine J.region ?_
 refine L.boxA (l := [_, _, _, _]) rfl rfl ?_
 intro b1 w1 hb1 hs1 hk1 he1
 iterate 2 refine L.va rfl (X.assign (by conv => lhs; whnf)) ?_
 refine L.nil ?_
 iterate 2 refine J.seq ?_
 refine J.region ?_
 refine L.va rfl ((by first | exact X.loadAgg rfl (range_l hk1) Tryz.underlying26 rfl (by kernel_rfl) | exact X.loadAgg rfl (range_blk hk1) Tryz.underlying26 rfl (by kernel_rfl))) ?_
 refine L.va rfl (X.move (by conv => lhs; whnf)) ?_
 refine L.call rfl en_15 rfl (fcheck (H.ext he1) ((hf.ext he1).more he1.le)) ?_
 rintro e w2 ⟨rfl, he2⟩
 refine ⟨_, rfl, ?_⟩
 rw [hc]
 have he02 := he1.trans he2
 replace hk1 := hk1.ext he2
 refine L.va rfl (X.assign (by conv => lhs; whnf)) ?_
 refine L.nil ?_
 refine J.seq ?_
 refine J.region ?_
 refine L.va rfl (X.move (by conv => lhs; whnf)) ?_
 refine L.va rfl (X.neq rfl rfl) ?_
 refine L.nil ?_
 refine J.iteF rfl ?_
 refine J.skip ?_
 refine J.seq ?_
 refine J.region ?_
 refine L.va rfl (X.assign (by conv => lhs; whnf)) ?_
 refine L.nil ?_
 iterate 2 refine J.seq ?_
 refine J.region ?_
 refine L.va rfl (X.fieldAddr rfl Tryz.underlying26 rfl sz_22 (by decide)) ?_
 refine L.va rfl (X.load rfl sc_22 (by first | exact Ld.blk hk1 rfl)) ?_
 refine L.va rfl (X.len rfl Tryz.underlying22) ?_
 refine L.va rfl (X.move (by conv => lhs; whnf)) ?_
 refine L.nil ?_
 refine J.block ?_
 refine J.loop (X := Nat × Fis) [7, 8, 9, 10, 11, 13, 23, 24, 25, 26, 27, 28, 29, 30, 31, 32, 33, 34, 35, 36, 37, 38, 39, 40, 41, 42, 43, 44, 45, 46, 47, 48, 49, 50, 51, 52, 53, 54, 55, 56, 57, 58, 59, 60, 61, 62] (fun (i, r) => [(23, .int .i64 (i : Int)), (7, r.val)]) (fun (i, r) w' => i ≤ s.nd ∧ FisOwn r w.heap.size w' ∧ r.l.map Fi.key = nrm ky 0 (szs s i) ∧ Ext w w') (fun (i, _) => s.nd - i) ((0, ⟨none, 0, 0, []⟩)) (At2 (by first | rfl | exact at_int rfl (by omega) | exact at_slice rfl (by omega) | exact at_int rfl (by simp)) (by first | rfl | exact at_int rfl (by omega) | exact at_slice rfl (by omega) | exact at_int rfl (by simp))) ?_ ?_
 ·exact ⟨Nat.zero_le _, ⟨own_nil _ _ _ _, (fun x hx => by cases hx), rfl⟩, rfl, he02⟩
 ·rintro ⟨i, r⟩ g w3 ⟨hi, hr, hrk, he3⟩
  have hd3 := (H.ext he3).hd
  have z3 := he3.le
  refine J.seq ?_
  refine J.region ?_
  refine L.va rfl (X.lss rfl rfl) ?_
  refine L.nil ?_
  refine J.seq ?_
  refine J.dec rfl (fun hlt => ?_) (fun hlt => ?_)
  ·have hil : i < s.nd := by omega
   have hA := hd3.some_ (by omega)
   have hrow := dims_row (l := s.ds) (i := i) (by omega)
   have hbd := szB_at (mono_b (szB_s s.ds) (by omega : i + 1 ≤ s.nd) G.2)
   have hn : ((szN s i : Nat) : Int) = (s.ds.getD i d0).2 := by unfold szN; omega
   refine J.skip ?_
   refine J.seq ?_
   refine J.block ?_
   refine J.seq ?_
   refine J.region ?_
   refine L.va rfl (X.move (by conv => lhs; whnf)) ?_
   refine L.va rfl ((by first | exact X.indexAddrn rfl rfl Tryz.underlying22 sz_54 (by first | exact Option.some_ne_none _ | exact hA) (by omega) | exact X.indexAddr rfl rfl Tryz.underlying22 sz_54 (by first | exact Option.some_ne_none _ | exact hA) (by omega))) ?_
   refine L.va rfl (X.loadRow (cs := [.string (s.ds.getD i d0).1, .int .i64 (s.ds.getD i d0).2]) rfl hd3 hrow (Nat.zero_lt_succ _) Tryz.underlying54 rfl (by kernel_rfl)) ?_
   refine L.alloc rfl zr_54 ?_
   intro b4 w4 hb4 hs4 hk4 he4
   refine L.va rfl (X.assign (by conv => lhs; whnf)) ?_
   refine L.storeAgg (vs := [_, _]) rfl rfl rfl rfl sz_54 (hk4) rfl ?_
   intro w5 hk5 hg5 hs5
   have hk5 : Blk w5 b4 54 #[.string (s.ds.getD i d0).1, .int .i64 (s.ds.getD i d0).2] := hk5
   have he35 : Ext w3 w5 := he4.grw hg5 (by intro g hg; injection hg with hg; omega)
   have he5 := he3.trans he35
   have hr5 := hr.ext he35
   have z5 := he5.le
   rw [← hn] at hk5
   refine L.nil ?_
   refine J.seq ?_
   refine J.region ?_
   refine L.va rfl (X.assign (by conv => lhs; whnf)) ?_
   refine L.nil ?_
   refine J.seq ?_
   refine J.region ?_
   refine L.va rfl (X.assign (by conv => lhs; whnf)) ?_
   refine L.nil ?_
   iterate 2 refine J.seq ?_
   refine J.region ?_
   refine L.va rfl (X.move (by conv => lhs; whnf)) ?_
   refine L.va rfl (X.len rfl Tryz.underlying28) ?_
   refine L.va rfl (X.move (by conv => lhs; whnf)) ?_
   refine L.nil ?_
   refine J.block ?_
   refine J.loop (X := Nat × Bool × Cs) [10, 11, 13, 30, 31, 32, 33, 34, 35, 36, 37, 38, 39, 40, 41, 42, 43, 44, 45, 46, 47] (fun (j, b, cs) => [(30, .int .i64 (j : Int)), (10, .bool b), (11, cs.val)]) (fun (j, b, cs) w' => j ≤ f.n ∧ b = sm (ky.take j) i ∧ (b = true → cs.l = sel (szN s i) (kp (ky.take j) i)) ∧ w'.ownsRow w.heap.size 3 1 cs.val cs.n (nums .i64 cs.l) ∧ Ext w5 w') (fun (j, _) => f.n - j) ((0, false, ⟨none, 0, 0, []⟩)) (At3 (by first | rfl | exact at_int rfl (by omega) | exact at_slice rfl (by omega) | exact at_int rfl (by simp)) (by first | rfl | exact at_int rfl (by omega) | exact at_slice rfl (by omega) | exact at_int rfl (by simp)) (by first | rfl | exact at_int rfl (by omega) | exact at_slice rfl (by omega) | exact at_int rfl (by simp))) ?_ ?_
   ·exact ⟨Nat.zero_le _, rfl, (fun h => by cases h), own_nilN _ _ _ _, Ext.refl _⟩
   ·rintro ⟨j, b, cs⟩ g w6 ⟨hj, hb, hcs, hoc, he6⟩
    have hk6 := hk5.ext he6
    have he06 := he5.trans he6
    have z6 := he06.le
    have hf6 := hf.ext he06
    refine J.seq ?_
    refine J.region ?_
    refine L.va rfl (X.lss rfl rfl) ?_
    refine L.nil ?_
    refine J.seq ?_
    refine J.dec rfl (fun hlt2 => ?_) (fun hlt2 => ?_)
    ·have hjn : j < f.n := by omega
     have hA2 := hf6.r.some_ (by omega)
     obtain ⟨x, hx⟩ : ∃ x, x = f.l.getD j fi0 := ⟨_, rfl⟩
     have hX := hf6.one hjn
     have hgt := gtF (l := f.l) (i := j) (by omega)
     have hxm := K.m j hjn
     have hxk := K.k j
     have hnk := key_at (l := f.l) (i := j) (by omega)
     rw [← hx] at hX hgt hxm hxk hnk
     rw [← eky] at hnk
     have hxl := hX.len
     refine J.skip ?_
     refine J.seq ?_
     refine J.block ?_
     refine J.seq ?_
     refine J.region ?_
     refine L.va rfl ((by first | exact X.indexAddrn rfl rfl Tryz.underlying28 sz_46 (by first | exact Option.some_ne_none _ | exact hA2) (by omega) | exact X.indexAddr rfl rfl Tryz.underlying28 sz_46 (by first | exact Option.some_ne_none _ | exact hA2) (by omega))) ?_
     refine L.va rfl (X.loadRow (cs := x.vs) rfl hf6.r (fun r u hu => flat_row fi_len hgt r u hu) (Nat.zero_lt_succ _) Tryz.underlying46 rfl (by kernel_rfl)) ?_
     refine L.alloc rfl zr_46 ?_
     intro b7 w7 hb7 hs7 hk7 he7
     refine L.storeAgg (vs := [_, _]) rfl rfl rfl rfl sz_46 (hk7) rfl ?_
     intro w8 hk8 hg8 hs8
     have he68 : Ext w6 w8 := he7.grw hg8 (by intro g hg; injection hg with hg; omega)
     have hk8 : Blk w8 b7 46 x.vs.toArray := hk8
     have hX8 := hX.ext he68
     have hoc8 := hoc.ext he68
     have he58 := he6.trans he68
     have he08 := he06.trans he68
     refine L.nil ?_
     iterate 2 refine J.seq ?_
     refine J.region ?_
     refine L.va rfl (X.fieldAddr rfl Tryz.underlying46 rfl sz_3 (by decide)) ?_
     refine L.va rfl (X.load rfl sc_3 (by first | exact Ld.blk hk1 rfl | exact Ld.blk hk8 rfl | exact hA2)) ?_
     refine L.va rfl (X.move (by conv => lhs; whnf)) ?_
     refine L.va rfl (X.neq rfl rfl) ?_
     refine L.nil ?_
     refine J.ndec rfl (fun hne => ?_) (fun hne => ?_)
     ·skip
      refine J.exit ?_
      refine J.region ?_
      refine L.va rfl (X.add rfl rfl (by omega)) ?_
      refine L.va rfl (X.move (by conv => lhs; whnf)) ?_
      refine L.nil ?_
      refine ⟨(j + 1, b, cs), At3 (by first | rfl | exact at_int rfl (by omega) | exact at_slice rfl (by omega) | exact at_int rfl (by simp)) (by first | rfl | exact at_int rfl (by omega) | exact at_slice rfl (by omega) | exact at_int rfl (by simp)) (by first | rfl | exact at_int rfl (by omega) | exact at_slice rfl (by omega) | exact at_int rfl (by simp)), (by (iterate 10 refine Agr.lk rfl ?_); exact Agr.lk rfl (Agr.hav rfl Agr.rfl')), ?_⟩
      have e1 : decide (x.d = (i : Int)) = false := by simpa using hne
      refine ⟨⟨by omega, ?_, fun h => ?_, hoc8, he58⟩, by show f.n - (j + 1) < f.n - j; omega⟩
      ·rw [hnk, Nrm.sm_next, e1, Bool.or_false]; exact hb
      ·rw [hcs h, hnk]
       refine Nrm.sel_congr fun c _ _ => ?_
       rw [Nrm.kp_next, e1]
       simp
     ·have hxd : x.d = (i : Int) := by simpa using hne
      have e1 : decide (x.d = (i : Int)) = true := by simpa using hxd
      have hsm : sm (ky.take (j + 1)) i = true := by rw [hnk, Nrm.sm_next, e1, Bool.or_true]
      have hrng : ∀ c, c ∈ x.l → 0 ≤ c ∧ c < (szN s i : Int) := by
       intro c hcx
       obtain ⟨q, hq, rfl⟩ := List.getElem_of_mem hcx
       have := hxk q hjn (by omega)
       rw [List.getD, List.getElem?_eq_getElem hq, hxd] at this
       rw [hn]
       exact this
      have c1 := fun (w' : World) (h : x.At w'.heap.size w') => plainI x.A x.n x.c x.l w' h.r (by omega)
      refine J.skip ?_
      refine J.seq ?_
      refine J.region ?_
      refine L.va rfl (X.move (by conv => lhs; whnf)) ?_
      refine L.nil ?_
      cases b
      ·refine J.iteF rfl ?_
       refine J.region ?_
       refine L.va rfl (X.fieldAddr rfl Tryz.underlying46 rfl sz_44 (by decide)) ?_
       refine L.va rfl (X.load rfl sc_44 (by first | exact Ld.blk hk1 rfl | exact Ld.blk hk8 rfl | exact hA2)) ?_
       refine L.call rfl en_29 rfl ((c1 w8 (hX8.more he08.le))) ?_
       rintro e w9 ⟨cs2, rfl, ho9, he9, hu9, hm9⟩
       refine ⟨_, rfl, ?_⟩
       iterate 2 refine L.va rfl (X.assign (by conv => lhs; whnf)) ?_
       refine L.nil ?_
       refine J.region ?_
       refine L.va rfl (X.add rfl rfl (by omega)) ?_
       refine L.va rfl (X.move (by conv => lhs; whnf)) ?_
       refine L.nil ?_
       refine ⟨(j + 1, true, cs2), At3 (by first | rfl | exact at_int rfl (by omega) | exact at_slice rfl (by omega) | exact at_int rfl (by simp)) (by first | rfl | exact at_int rfl (by omega) | exact at_slice rfl (by omega) | exact at_int rfl (by simp)) (by first | rfl | exact at_int rfl (by omega) | exact at_slice rfl (by omega) | exact at_int rfl (by simp)), (by (iterate 16 refine Agr.lk rfl ?_); exact Agr.lk rfl (Agr.hav rfl Agr.rfl')), ?_⟩
       refine ⟨⟨by omega, hsm.symm, fun _ => ?_, own_lower ho9 he08.le, he58.trans he9⟩, by show f.n - (j + 1) < f.n - j; omega⟩
       refine eq_sel hu9 fun c => ?_
       rw [hm9, hnk, Nrm.kp_next, Nrm.kp_none hb.symm, e1]
       constructor
       ·intro h; exact ⟨hrng c h, by simpa using h⟩
       ·rintro ⟨_, h⟩; simpa using h
      ·refine J.iteT rfl ?_
       refine J.region ?_
       refine L.va rfl (X.move (by conv => lhs; whnf)) ?_
       refine L.va rfl (X.fieldAddr rfl Tryz.underlying46 rfl sz_44 (by decide)) ?_
       refine L.va rfl (X.load rfl sc_44 (by first | exact Ld.blk hk1 rfl | exact Ld.blk hk8 rfl | exact hA2)) ?_
       refine L.call rfl en_29 rfl ((c1 w8 (hX8.more he08.le))) ?_
       rintro e w9 ⟨cs2, rfl, ho9, he9, hu9, hm9⟩
       refine ⟨_, rfl, ?_⟩
       have hoc9 := hoc8.ext he9
       have hcs' := hcs rfl
       have hcn : cs.n ≤ 5000 := by
        have h1 := (Cs.At.own hoc9).len
        have h2 := Nrm.sel_le (szN s i) (kp (ky.take j) i)
        rw [← hcs'] at h2
        have h1 : cs.l.length = cs.n := h1
        omega
       refine L.call rfl en_28 rfl (commonI cs cs2 w9 (.own hoc9) (.own ho9) (by rw [hcs']; exact up_sel _ _) hu9 hcn) ?_
       rintro e wa ⟨cs3, rfl, hoa, hea, hua, hma⟩
       refine ⟨_, rfl, ?_⟩
       refine L.va rfl (X.assign (by conv => lhs; whnf)) ?_
       refine L.nil ?_
       refine J.region ?_
       refine L.va rfl (X.add rfl rfl (by omega)) ?_
       refine L.va rfl (X.move (by conv => lhs; whnf)) ?_
       refine L.nil ?_
       have he0a := he08.trans he9
       refine ⟨(j + 1, true, cs3), At3 (by first | rfl | exact at_int rfl (by omega) | exact at_slice rfl (by omega) | exact at_int rfl (by simp)) (by first | rfl | exact at_int rfl (by omega) | exact at_slice rfl (by omega) | exact at_int rfl (by simp)) (by first | rfl | exact at_int rfl (by omega) | exact at_slice rfl (by omega) | exact at_int rfl (by simp)), (by (iterate 17 refine Agr.lk rfl ?_); exact Agr.lk rfl (Agr.hav rfl Agr.rfl')), ?_⟩
       refine ⟨⟨by omega, hsm.symm, fun _ => ?_, own_lower hoa he0a.le, (he58.trans he9).trans hea⟩, by show f.n - (j + 1) < f.n - j; omega⟩
       refine eq_sel hua fun c => ?_
       rw [hma, hcs', mem_sel, hm9, hnk, Nrm.kp_next, e1, Bool.and_eq_true]
       constructor
       ·rintro ⟨⟨h1, h2⟩, h3⟩; exact ⟨h1, h2, by simpa using h3⟩
       ·rintro ⟨h1, h2, h3⟩; exact ⟨⟨h1, h2⟩, by simpa using h3⟩
    ·obtain rfl : j = f.n := by omega
     have hky : ky.take f.n = ky := List.take_of_length_le (by rw [eky, List.length_map]; omega)
     rw [hky] at hb hcs
     have hr6 := hr5.ext he6
     have hrl := hr6.l
     have hrn : r.n ≤ i := by
      have h1 := congrArg List.length hrk
      rw [List.length_map] at h1
      have h2 := Nrm.nrm_len ky (szs s i) 0
      rw [szs_len] at h2
      omega
     have hnx : nrm ky 0 (szs s (i + 1)) = nrm ky 0 (szs s i) ++ nf ky i (szN s i) := by
      rw [szs_next, Nrm.nrm_snoc, szs_len, Nat.zero_add]
     refine J.exit ?_
     refine J.seq ?_
     refine J.region ?_
     iterate 2 refine L.va rfl (X.move (by conv => lhs; whnf)) ?_
     cases b
     ·refine L.caseBF (k := 49) rfl (by rfl) ?_
      iterate 5 refine L.no rfl ?_
      refine L.va rfl (X.pickF rfl (by conv => lhs; whnf)) ?_
      refine L.nil ?_
      refine J.iteF rfl ?_
      refine J.skip ?_
      refine J.region ?_
      refine L.va rfl (X.add rfl rfl (by omega)) ?_
      refine L.va rfl (X.move (by conv => lhs; whnf)) ?_
      refine L.nil ?_
      refine ⟨(i + 1, r), At2 (by first | rfl | exact at_int rfl (by omega) | exact at_slice rfl (by omega) | exact at_int rfl (by simp)) (by first | rfl | exact at_int rfl (by omega) | exact at_slice rfl (by omega) | exact at_int rfl (by simp)), (by (iterate 12 refine Agr.lk rfl ?_); refine Agr.lk rfl ?_; refine Agr.hav rfl ?_; (iterate 11 refine Agr.lk rfl ?_); exact Agr.lk rfl (Agr.hav rfl Agr.rfl')), ?_⟩
      refine ⟨⟨by omega, hr6, ?_, he06⟩, by show s.nd - (i + 1) < s.nd - i; omega⟩
      rw [hnx, Nrm.nf_none hb.symm, List.append_nil]
      exact hrk
     ·have hcs' := hcs rfl
      have hcl : cs.l.length = cs.n := (Cs.At.own hoc).len
      refine L.caseBT (k := 49) rfl (by rfl) ?_
      refine L.va rfl (X.move (by conv => lhs; whnf)) ?_
      refine L.va rfl (X.len rfl Tryz.underlying44) ?_
      refine L.va rfl (X.fieldAddr rfl Tryz.underlying54 rfl sz_3 (by decide)) ?_
      refine L.va rfl (X.load rfl sc_3 (by first | exact Ld.blk hk1 rfl | exact Ld.blk hk6 rfl | exact hA)) ?_
      refine L.va rfl (X.lss rfl rfl) ?_
      refine L.va rfl (X.pickT rfl (by conv => lhs; whnf)) ?_
      refine L.nil ?_
      refine J.dec rfl (fun hlt3 => ?_) (fun hlt3 => ?_)
      ·refine J.region ?_
       iterate 3 refine L.va rfl (X.move (by conv => lhs; whnf)) ?_
       refine L.va rfl (X.build (l := [_, _]) (Evs.cons (by conv => lhs; whnf) (Evs.cons (by conv => lhs; whnf) Evs.nil)) (bld_run Tryz.underlying46 (bp_46 Tryz.underlying46) zr_46 rfl)) ?_
       refine L.bslice1 (l := [_, _]) rfl rfl rfl Tryz.underlying28 sz_46 zr_46 rfl ?_
       intro b8 w8 hb8 hs8 hk8 he8
       have hoX := hr6.o.ext he8
       refine L.appendV (q := r.n + 1) (ys := ((r.l ++ [Fi.mk i cs.A cs.n cs.c cs.l]).flatMap Fi.vs)) rfl rfl rfl Tryz.underlying28 el_46 (hoX) ((blk_readsN (sz := 2) (q := 1) (l := (Fi.mk i cs.A cs.n cs.c cs.l).vs) hk8 hk8.lt rfl)) (by first | rfl | exact strs_ones _ | assumption) (by omega) (by simp) (by unfold maxLen; omega) (by omega) ?_
       intro A9 c9 w9 ho9 hg9 hb9 hor9
       refine L.va rfl (X.assign (by conv => lhs; whnf)) ?_
       refine L.nil ?_
       refine J.region ?_
       refine L.va rfl (X.add rfl rfl (by omega)) ?_
       refine L.va rfl (X.move (by conv => lhs; whnf)) ?_
       refine L.nil ?_
       refine ⟨(i + 1, ⟨A9, r.n + 1, c9, r.l ++ [Fi.mk i cs.A cs.n cs.c cs.l]⟩), At2 (by first | rfl | exact at_int rfl (by omega) | exact at_slice rfl (by omega) | exact at_int rfl (by simp)) (by first | rfl | exact at_int rfl (by omega) | exact at_slice rfl (by omega) | exact at_int rfl (by simp)), (by (iterate 19 refine Agr.lk rfl ?_); refine Agr.lk rfl ?_; refine Agr.hav rfl ?_; (iterate 11 refine Agr.lk rfl ?_); exact Agr.lk rfl (Agr.hav rfl Agr.rfl')), ?_⟩
       have he08 := he06.trans he8
       refine ⟨⟨by omega, ⟨ho9, fun y hy => ?_, by show (r.l ++ [_]).length = r.n + 1; rw [List.length_append, hrl]; rfl⟩, ?_, he08.low hb9 (Nat.le_refl _)⟩, by show s.nd - (i + 1) < s.nd - i; omega⟩
       ·rcases List.mem_append.1 hy with hy | hy
        ·exact World.ownsRow.kept (World.ownsRow.ext (hr6.h y hy) he8) hg9 (own_or (World.ownsRow.ext (hr6.h y hy) he8) hoX (by decide))
        ·rw [List.mem_singleton] at hy
         subst hy
         exact (hoc.ext he8).kept hg9 (own_or (hoc.ext he8) hoX (by decide))
       ·show (r.l ++ [Fi.mk i cs.A cs.n cs.c cs.l]).map Fi.key = _
        rw [List.map_append, hrk, hnx]
        congr 1
        unfold nf
        rw [← hcs', if_pos (by omega)]
        rfl
      ·skip
       refine J.skip ?_
       refine J.region ?_
       refine L.va rfl (X.add rfl rfl (by omega)) ?_
       refine L.va rfl (X.move (by conv => lhs; whnf)) ?_
       refine L.nil ?_
       refine ⟨(i + 1, r), At2 (by first | rfl | exact at_int rfl (by omega) | exact at_slice rfl (by omega) | exact at_int rfl (by simp)) (by first | rfl | exact at_int rfl (by omega) | exact at_slice rfl (by omega) | exact at_int rfl (by simp)), (by (iterate 12 refine Agr.lk rfl ?_); refine Agr.lk rfl ?_; refine Agr.hav rfl ?_; (iterate 11 refine Agr.lk rfl ?_); exact Agr.lk rfl (Agr.hav rfl Agr.rfl')), ?_⟩
       refine ⟨⟨by omega, hr6, ?_, he06⟩, by show s.nd - (i + 1) < s.nd - i; omega⟩
       rw [hnx]
       unfold nf
       rw [← hcs', if_neg (by omega), List.append_nil]
       exact hrk
  ·obtain rfl : i = s.nd := by omega
   refine J.exit ?_
   refine J.seq ?_
   refine J.region ?_
   refine L.va rfl (X.move (by conv => lhs; whnf)) ?_
   iterate 2 refine L.va rfl (X.assign (by conv => lhs; whnf)) ?_
   refine L.nil ?_
   refine J.ret ?_
   refine fin2 ?_
   rw [eky] at hrk
   exact ⟨r, rfl, hr, hrk, he3⟩
end Go.Proofs.YtpomklkfedpkfaaGreat
namespace Go.Proofs.YtpomklkfedpkfaaGreat
set_option maxRecDepth 100000
open Go.RowKit H
open Nrm (pk pk_iff)
set_option linter.unusedVariables false
def p1 (x : Fi) (cs : List Int) : Bool := decide (0 ≤ x.d ∧ x.d < cs.length) && x.l.contains (cs.getD x.d.toNat 0)
theorem pk_next (l : Nrm.Ks) (f : Int × List Int) (cs : List Int) : pk (l ++ [f]) cs = (pk l cs && (decide (0 ≤ f.1 ∧ f.1 < cs.length) && f.2.contains (cs.getD f.1.toNat 0))) := by
  unfold pk
  simp
theorem pk_bad {l : List Fi} {cs : List Int} {i : Nat} (hi : i < l.length) (h : p1 (l.getD i fi0) cs = false) : pk (l.map Fi.key) cs = false := by
  unfold pk
  rw [List.all_eq_false]
  refine ⟨(l.getD i fi0).key, List.mem_map.2 ⟨_, memF hi, rfl⟩, ?_⟩
  unfold p1 at h
  show ¬ (decide (0 ≤ (l.getD i fi0).d ∧ (l.getD i fi0).d < cs.length) && (l.getD i fi0).l.contains (cs.getD (l.getD i fi0).d.toNat 0)) = true
  rw [h]
  decide
theorem p1_lo {x : Fi} {cs : List Int} (h : x.d < 0) : p1 x cs = false := by unfold p1; rw [decide_eq_false (by omega)]; rfl
theorem p1_hi {x : Fi} {cs : List Int} (h : (cs.length : Int) ≤ x.d) : p1 x cs = false := by unfold p1; rw [decide_eq_false (by omega)]; rfl
theorem p1_in {x : Fi} {cs : List Int} (h : 0 ≤ x.d) (hd : x.d < (cs.length : Int)) : p1 x cs = x.l.contains (cs.getD x.d.toNat 0) := by
  unfold p1
  rw [decide_eq_true ⟨h, hd⟩]
  rfl
theorem pass_ {f : Fis} {A : Option Addr} {n c : Nat} {cs : List Int} {w : World} (hf : f.At w.heap.size w) (hr : Reads w w.heap.size 1 A n (nums .i64 cs)) (hn : n ≤ maxLen) : Calls Tryz.prog 19 #[f.val, .slice A n c] w fun e w' => e = .returned (.bool (pk (f.l.map Fi.key) cs)) ∧ Ext w w' := by
 have hl := hf.l
 have hm := hf.m
 have hcl : cs.length = n := by have := hr.1; simpa [nums] using this
 unfold maxLen at hn hm
 refine enter Tryz.func19 rfl (by kernel_rfl) ?_
 refine J.seq ?_
 refine J.region ?_
 refine L.va rfl (X.assign (by conv => lhs; whnf)) ?_
 refine L.nil ?_
 iterate 2 refine J.seq ?_
 refine J.region ?_
 refine L.va rfl (X.move (by conv => lhs; whnf)) ?_
 refine L.va rfl (X.len rfl Tryz.underlying28) ?_
 refine L.va rfl (X.move (by conv => lhs; whnf)) ?_
 refine L.nil ?_
 refine J.block ?_
 refine J.loop (X := Nat) [4, 6, 9, 10, 11, 12, 13, 14, 15, 16, 17, 18, 19, 20, 21, 22, 23, 24, 25, 26, 27, 28, 29, 30, 31, 32, 33, 34] (fun i => [(9, .int .i64 (i : Int))]) (fun i w' => i ≤ f.n ∧ pk ((f.l.map Fi.key).take i) cs = true ∧ Ext w w') (fun i => f.n - i) (0) (At1 (by first | rfl | exact at_int rfl (by omega) | exact at_slice rfl (by omega) | exact at_int rfl (by simp))) ?_ ?_
 ·exact ⟨Nat.zero_le _, rfl, Ext.refl _⟩
 ·rintro i g w3 ⟨hi, hP, he3⟩
  have z3 := he3.le
  have hf3 := hf.ext he3
  refine J.seq ?_
  refine J.region ?_
  refine L.va rfl (X.lss rfl rfl) ?_
  refine L.nil ?_
  refine J.seq ?_
  refine J.dec rfl (fun hlt => ?_) (fun hlt => ?_)
  ·have hin : i < f.n := by omega
   have hA := hf3.r.some_ (by omega)
   have hnk := key_at (l := f.l) (i := i) (by omega)
   have hbad := pk_bad (l := f.l) (cs := cs) (i := i) (by omega)
   obtain ⟨x, hx⟩ : ∃ x, x = f.l.getD i fi0 := ⟨_, rfl⟩
   have hX := hf3.one hin
   have hgt := gtF (l := f.l) (i := i) (by omega)
   rw [← hx] at hX hgt hnk hbad
   refine J.skip ?_
   refine J.seq ?_
   refine J.block ?_
   refine J.seq ?_
   refine J.region ?_
   refine L.va rfl ((by first | exact X.indexAddrn rfl rfl Tryz.underlying28 sz_46 (by first | exact Option.some_ne_none _ | exact hA) (by omega) | exact X.indexAddr rfl rfl Tryz.underlying28 sz_46 (by first | exact Option.some_ne_none _ | exact hA) (by omega))) ?_
   refine L.va rfl (X.loadRow (cs := x.vs) rfl hf3.r (fun r u hu => flat_row fi_len hgt r u hu) (Nat.zero_lt_succ _) Tryz.underlying46 rfl (by kernel_rfl)) ?_
   refine L.alloc rfl zr_46 ?_
   intro b4 w4 hb4 hs4 hk4 he4
   refine L.storeAgg (vs := [_, _]) rfl rfl rfl rfl sz_46 (hk4) rfl ?_
   intro w5 hk5 hg5 hs5
   have he35 : Ext w3 w5 := he4.grw hg5 (by intro g hg; injection hg with hg; omega)
   have hk5 : Blk w5 b4 46 x.vs.toArray := hk5
   have he5 := he3.trans he35
   have z5 := he5.le
   have hX5 := hX.ext he35
   have hr5 := hr.ext he5
   have hxm := hX.m
   refine L.nil ?_
   refine J.seq ?_
   refine J.quiet mixed (by kernel_rfl) ?_
   refine Qt.va rfl (fun w' hw => X.fieldAddr rfl Tryz.underlying46 rfl sz_3 (by decide)) ?_
   refine Qt.va rfl (fun w' hw => X.load rfl sc_3 (by first | exact Ld.blk (hk5.ext hw) rfl | exact Ld.num (hr5.ext hw) (by omega) | exact hA)) ?_
   refine Qt.va rfl (fun w' hw => X.lss rfl rfl) ?_
   refine Qt.va rfl (fun w' hw => X.move (by conv => lhs; whnf)) ?_
   refine Qt.caseDec (k := 16) rfl (fun h1 => ?_) (fun h1 => ?_)
   ·refine Qt.no rfl ?_
    iterate 4 refine Qt.no rfl ?_
    refine Qt.va rfl (fun w' hw => X.pickT rfl (by conv => lhs; whnf)) ?_
    refine Qt.va rfl (fun w' hw => X.move (by conv => lhs; whnf)) ?_
    iterate 9 refine Qt.no rfl ?_
    refine Qt.va rfl (fun w' hw => X.pickT rfl (by conv => lhs; whnf)) ?_
    refine Qt.nil (fun w6 hq => ?_)
    replace hk5 := hk5.ext hq
    replace hr5 := hr5.ext hq
    refine J.iteT rfl ?_
    rw [hbad (p1_lo h1)]
    refine J.seq ?_
    refine J.region ?_
    refine L.va rfl (X.assign (by conv => lhs; whnf)) ?_
    refine L.nil ?_
    refine J.ret ?_
    refine inB_ret <|  thn_ret <|  thn_ret <|  inB_ret <|  thn_ret <| ?_
    refine fin1 ?_
    exact ⟨rfl, he5.trans hq⟩
   ·refine Qt.va rfl (fun w' hw => X.fieldAddr rfl Tryz.underlying46 rfl sz_3 (by decide)) ?_
    refine Qt.va rfl (fun w' hw => X.load rfl sc_3 (by first | exact Ld.blk (hk5.ext hw) rfl | exact Ld.num (hr5.ext hw) (by omega) | exact hA)) ?_
    refine Qt.va rfl (fun w' hw => X.move (by conv => lhs; whnf)) ?_
    refine Qt.va rfl (fun w' hw => X.len rfl Tryz.underlying44) ?_
    refine Qt.va rfl (fun w' hw => X.geq rfl rfl) ?_
    refine Qt.va rfl (fun w' hw => X.pickF rfl (by conv => lhs; whnf)) ?_
    refine Qt.va rfl (fun w' hw => X.move (by conv => lhs; whnf)) ?_
    refine Qt.caseDec (k := 23) rfl (fun h2 => ?_) (fun h2 => ?_)
    ·refine Qt.no rfl ?_
     iterate 8 refine Qt.no rfl ?_
     refine Qt.va rfl (fun w' hw => X.pickT rfl (by conv => lhs; whnf)) ?_
     refine Qt.nil (fun w6 hq => ?_)
     replace hk5 := hk5.ext hq
     replace hr5 := hr5.ext hq
     refine J.iteT rfl ?_
     rw [hbad (p1_hi (by omega))]
     refine J.seq ?_
     refine J.region ?_
     refine L.va rfl (X.assign (by conv => lhs; whnf)) ?_
     refine L.nil ?_
     refine J.ret ?_
     refine inB_ret <|  thn_ret <|  thn_ret <|  inB_ret <|  thn_ret <| ?_
     refine fin1 ?_
     exact ⟨rfl, he5.trans hq⟩
    ·have hd : 0 ≤ x.d ∧ x.d < (cs.length : Int) := by omega
     have hA2 := hr.some_ (by omega)
     refine Qt.va rfl (fun w' hw => X.fieldAddr rfl Tryz.underlying46 rfl sz_44 (by decide)) ?_
     refine Qt.va rfl (fun w' hw => X.load rfl sc_44 (by first | exact Ld.blk (hk5.ext hw) rfl | exact Ld.num (hr5.ext hw) (by omega) | exact hA2)) ?_
     refine Qt.va rfl (fun w' hw => X.move (by conv => lhs; whnf)) ?_
     refine Qt.va rfl (fun w' hw => X.fieldAddr rfl Tryz.underlying46 rfl sz_3 (by decide)) ?_
     refine Qt.va rfl (fun w' hw => X.load rfl sc_3 (by first | exact Ld.blk (hk5.ext hw) rfl | exact Ld.num (hr5.ext hw) (by omega) | exact hA2)) ?_
     refine Qt.va rfl (fun w' hw => (by first | exact X.index1n rfl rfl Tryz.underlying44 sz_3 (by first | exact Option.some_ne_none _ | exact hr5.some_ (by omega) | exact hA2) (by omega) | exact X.index1 rfl rfl Tryz.underlying44 sz_3 (by first | exact Option.some_ne_none _ | exact hr5.some_ (by omega) | exact hA2) (by omega))) ?_
     refine Qt.va rfl (fun w' hw => X.load rfl sc_3 (by first | exact Ld.blk (hk5.ext hw) rfl | exact Ld.num (hr5.ext hw) (by omega) | exact hA2)) ?_
     refine Qt.call rfl en_35 rfl (fun w' hw => calls_same hw (containsI x.A x.n x.c x.l (cs.getD x.d.toNat 0) w' (((hX5.ext hw).r.more (by have := hw.le; omega))) hxm)) ?_
     refine Qt.va rfl (fun w' hw => X.not rfl) ?_
     refine Qt.va rfl (fun w' hw => X.pickF rfl (by conv => lhs; whnf)) ?_
     refine Qt.nil (fun w6 hq => ?_)
     replace hk5 := hk5.ext hq
     replace hr5 := hr5.ext hq
     rw [p1_in hd.1 hd.2] at hbad
     cases hc : x.l.contains (cs.getD x.d.toNat 0)
     ·refine J.iteT rfl ?_
      rw [hbad hc]
      refine J.seq ?_
      refine J.region ?_
      refine L.va rfl (X.assign (by conv => lhs; whnf)) ?_
      refine L.nil ?_
      refine J.ret ?_
      refine inB_ret <|  thn_ret <|  thn_ret <|  inB_ret <|  thn_ret <| ?_
      refine fin1 ?_
      exact ⟨rfl, he5.trans hq⟩
     ·refine J.iteF rfl ?_
      refine J.skip ?_
      refine J.region ?_
      refine L.va rfl (X.add rfl rfl (by omega)) ?_
      refine L.va rfl (X.move (by conv => lhs; whnf)) ?_
      refine L.nil ?_
      refine ⟨i + 1, At1 (by first | rfl | exact at_int rfl (by omega) | exact at_slice rfl (by omega) | exact at_int rfl (by simp)), (by (iterate 29 refine Agr.lk rfl ?_); exact Agr.lk rfl (Agr.hav rfl Agr.rfl')), ?_⟩
      refine ⟨⟨by omega, ?_, he5.trans hq⟩, by omega⟩
      rw [hnk, pk_next, hP, Bool.true_and]
      show p1 x cs = true
      rw [p1_in hd.1 hd.2, hc]
  ·obtain rfl : i = f.n := by omega
   rw [List.take_of_length_le (by rw [List.length_map]; omega)] at hP
   rw [hP]
   refine J.exit ?_
   refine J.seq ?_
   refine J.region ?_
   refine L.va rfl (X.assign (by conv => lhs; whnf)) ?_
   refine L.nil ?_
   refine J.ret ?_
   refine fin1 ?_
   exact ⟨rfl, he3⟩
theorem rpass_ {f : Fis} {A : Option Addr} {n c : Nat} {cs : List Int} {w : World} (hf : f.At w.heap.size w) (hr : Reads w w.heap.size 1 A n (nums .i64 cs)) (hn : n ≤ maxLen) : Calls Tryz.prog 25 #[f.val, .slice A n c] w fun e w' => e = .returned (.bool (pk (f.l.map Fi.key) cs)) ∧ Ext w w' := by
 have hl := hf.l
 have hm := hf.m
 have hcl : cs.length = n := by have := hr.1; simpa [nums] using this
 unfold maxLen at hn hm
 refine enter Tryz.func25 rfl (by kernel_rfl) ?_
 refine J.seq ?_
 refine J.region ?_
 refine L.va rfl (X.assign (by conv => lhs; whnf)) ?_
 refine L.nil ?_
 iterate 2 refine J.seq ?_
 refine J.region ?_
 refine L.va rfl (X.assign (by conv => lhs; whnf)) ?_
 refine L.nil ?_
 refine J.block ?_
 refine J.loop (X := Nat) [4, 5, 6, 7, 8, 9, 10, 11, 12, 13, 14, 15, 16, 17, 18, 19, 20, 21, 22, 23, 24, 25, 26, 27, 28, 29, 30, 31, 32, 33, 34, 35, 36, 37, 38, 39, 40, 41, 42, 43, 44] (fun i => [(5, .int .i64 (i : Int))]) (fun i w' => i ≤ f.n ∧ pk ((f.l.map Fi.key).take i) cs = true ∧ Ext w w') (fun i => f.n - i) (0) (At1 (by first | rfl | exact at_int rfl (by omega) | exact at_slice rfl (by omega) | exact at_int rfl (by simp))) ?_ ?_
 ·exact ⟨Nat.zero_le _, rfl, Ext.refl _⟩
 ·rintro i g w3 ⟨hi, hP, he3⟩
  have z3 := he3.le
  have hf3 := hf.ext he3
  have hr3 := hr.ext he3
  iterate 2 refine J.seq ?_
  refine J.region ?_
  iterate 2 refine L.va rfl (X.move (by conv => lhs; whnf)) ?_
  refine L.va rfl (X.len rfl Tryz.underlying28) ?_
  refine L.va rfl (X.lss rfl rfl) ?_
  refine L.nil ?_
  refine J.dec rfl (fun hlt => ?_) (fun hlt => ?_)
  ·have hin : i < f.n := by omega
   have hA := hf3.r.some_ (by omega)
   have hnk := key_at (l := f.l) (i := i) (by omega)
   have hbad := pk_bad (l := f.l) (cs := cs) (i := i) (by omega)
   obtain ⟨x, hx⟩ : ∃ x, x = f.l.getD i fi0 := ⟨_, rfl⟩
   have hX := hf3.one hin
   have hgt := gtF (l := f.l) (i := i) (by omega)
   rw [← hx] at hX hgt hnk hbad
   have hxm := hX.m
   refine J.skip ?_
   refine J.seq ?_
   refine J.block ?_
   refine J.seq ?_
   refine J.quiet mixed (by kernel_rfl) ?_
   iterate 2 refine Qt.va rfl (fun w' hw => X.move (by conv => lhs; whnf)) ?_
   refine Qt.va rfl (fun w' hw => (by first | exact X.indexAddrn rfl rfl Tryz.underlying28 sz_46 (by first | exact Option.some_ne_none _ | exact hr3.some_ (by omega) | exact hA) (by omega) | exact X.indexAddr rfl rfl Tryz.underlying28 sz_46 (by first | exact Option.some_ne_none _ | exact hr3.some_ (by omega) | exact hA) (by omega))) ?_
   refine Qt.va rfl (fun w' hw => X.fieldP rfl Tryz.underlying46 rfl sz_3 (by decide) (by first | exact Option.some_ne_none _ | exact hr3.some_ (by omega) | exact hA)) ?_
   refine Qt.va rfl (fun w' hw => X.load rfl sc_3 (by first | exact Ld.num (hr3.ext hw) (by omega) | exact hA | exact Ld.flat2 fi_len (hf3.r.ext hw) hgt (r := 0) rfl | exact Ld.flat2 fi_len (hf3.r.ext hw) hgt (r := 1) rfl)) ?_
   refine Qt.va rfl (fun w' hw => X.lss rfl rfl) ?_
   refine Qt.va rfl (fun w' hw => X.move (by conv => lhs; whnf)) ?_
   refine Qt.caseDec (k := 18) rfl (fun h1 => ?_) (fun h1 => ?_)
   ·refine Qt.no rfl ?_
    iterate 7 refine Qt.no rfl ?_
    refine Qt.va rfl (fun w' hw => X.pickT rfl (by conv => lhs; whnf)) ?_
    refine Qt.va rfl (fun w' hw => X.move (by conv => lhs; whnf)) ?_
    iterate 15 refine Qt.no rfl ?_
    refine Qt.va rfl (fun w' hw => X.pickT rfl (by conv => lhs; whnf)) ?_
    refine Qt.nil (fun w6 hq => ?_)
    replace hr3 := hr3.ext hq
    refine J.iteT rfl ?_
    rw [hbad (p1_lo h1)]
    refine J.seq ?_
    refine J.region ?_
    refine L.va rfl (X.assign (by conv => lhs; whnf)) ?_
    refine L.nil ?_
    refine J.ret ?_
    refine inB_ret <|  thn_ret <|  thn_ret <|  inB_ret <|  thn_ret <| ?_
    refine fin1 ?_
    exact ⟨rfl, he3.trans hq⟩
   ·refine Qt.va rfl (fun w' hw => X.move (by conv => lhs; whnf)) ?_
    refine Qt.va rfl (fun w' hw => X.move (by conv => lhs; whnf)) ?_
    refine Qt.va rfl (fun w' hw => (by first | exact X.indexAddrn rfl rfl Tryz.underlying28 sz_46 (by first | exact Option.some_ne_none _ | exact hr3.some_ (by omega) | exact hA) (by omega) | exact X.indexAddr rfl rfl Tryz.underlying28 sz_46 (by first | exact Option.some_ne_none _ | exact hr3.some_ (by omega) | exact hA) (by omega))) ?_
    refine Qt.va rfl (fun w' hw => X.fieldP rfl Tryz.underlying46 rfl sz_3 (by decide) (by first | exact Option.some_ne_none _ | exact hr3.some_ (by omega) | exact hA)) ?_
    refine Qt.va rfl (fun w' hw => X.load rfl sc_3 (by first | exact Ld.num (hr3.ext hw) (by omega) | exact hA | exact Ld.flat2 fi_len (hf3.r.ext hw) hgt (r := 0) rfl | exact Ld.flat2 fi_len (hf3.r.ext hw) hgt (r := 1) rfl)) ?_
    refine Qt.va rfl (fun w' hw => X.move (by conv => lhs; whnf)) ?_
    refine Qt.va rfl (fun w' hw => X.len rfl Tryz.underlying44) ?_
    refine Qt.va rfl (fun w' hw => X.geq rfl rfl) ?_
    refine Qt.va rfl (fun w' hw => X.pickF rfl (by conv => lhs; whnf)) ?_
    refine Qt.va rfl (fun w' hw => X.move (by conv => lhs; whnf)) ?_
    refine Qt.caseDec (k := 28) rfl (fun h2 => ?_) (fun h2 => ?_)
    ·refine Qt.no rfl ?_
     iterate 14 refine Qt.no rfl ?_
     refine Qt.va rfl (fun w' hw => X.pickT rfl (by conv => lhs; whnf)) ?_
     refine Qt.nil (fun w6 hq => ?_)
     replace hr3 := hr3.ext hq
     refine J.iteT rfl ?_
     rw [hbad (p1_hi (by omega))]
     refine J.seq ?_
     refine J.region ?_
     refine L.va rfl (X.assign (by conv => lhs; whnf)) ?_
     refine L.nil ?_
     refine J.ret ?_
     refine inB_ret <|  thn_ret <|  thn_ret <|  inB_ret <|  thn_ret <| ?_
     refine fin1 ?_
     exact ⟨rfl, he3.trans hq⟩
    ·have hd : 0 ≤ x.d ∧ x.d < (cs.length : Int) := by omega
     have hA2 := hr.some_ (by omega)
     iterate 2 refine Qt.va rfl (fun w' hw => X.move (by conv => lhs; whnf)) ?_
     refine Qt.va rfl (fun w' hw => (by first | exact X.indexAddrn rfl rfl Tryz.underlying28 sz_46 (by first | exact Option.some_ne_none _ | exact hr3.some_ (by omega) | exact hA | exact hA2) (by omega) | exact X.indexAddr rfl rfl Tryz.underlying28 sz_46 (by first | exact Option.some_ne_none _ | exact hr3.some_ (by omega) | exact hA | exact hA2) (by omega))) ?_
     refine Qt.va rfl (fun w' hw => X.fieldP rfl Tryz.underlying46 rfl sz_44 (by decide) (by first | exact Option.some_ne_none _ | exact hr3.some_ (by omega) | exact hA | exact hA2)) ?_
     refine Qt.va rfl (fun w' hw => X.load rfl sc_44 (by first | exact Ld.num (hr3.ext hw) (by omega) | exact hA | exact hA2 | exact Ld.flat2 fi_len (hf3.r.ext hw) hgt (r := 0) rfl | exact Ld.flat2 fi_len (hf3.r.ext hw) hgt (r := 1) rfl)) ?_
     iterate 3 refine Qt.va rfl (fun w' hw => X.move (by conv => lhs; whnf)) ?_
     refine Qt.va rfl (fun w' hw => (by first | exact X.indexAddrn rfl rfl Tryz.underlying28 sz_46 (by first | exact Option.some_ne_none _ | exact hr3.some_ (by omega) | exact hA | exact hA2) (by omega) | exact X.indexAddr rfl rfl Tryz.underlying28 sz_46 (by first | exact Option.some_ne_none _ | exact hr3.some_ (by omega) | exact hA | exact hA2) (by omega))) ?_
     refine Qt.va rfl (fun w' hw => X.fieldP rfl Tryz.underlying46 rfl sz_3 (by decide) (by first | exact Option.some_ne_none _ | exact hr3.some_ (by omega) | exact hA | exact hA2)) ?_
     refine Qt.va rfl (fun w' hw => X.load rfl sc_3 (by first | exact Ld.num (hr3.ext hw) (by omega) | exact hA | exact hA2 | exact Ld.flat2 fi_len (hf3.r.ext hw) hgt (r := 0) rfl | exact Ld.flat2 fi_len (hf3.r.ext hw) hgt (r := 1) rfl)) ?_
     refine Qt.va rfl (fun w' hw => (by first | exact X.index1n rfl rfl Tryz.underlying44 sz_3 (by first | exact Option.some_ne_none _ | exact hr3.some_ (by omega) | exact hA | exact hA2) (by omega) | exact X.index1 rfl rfl Tryz.underlying44 sz_3 (by first | exact Option.some_ne_none _ | exact hr3.some_ (by omega) | exact hA | exact hA2) (by omega))) ?_
     refine Qt.va rfl (fun w' hw => X.load rfl sc_3 (by first | exact Ld.num (hr3.ext hw) (by omega) | exact hA | exact hA2 | exact Ld.flat2 fi_len (hf3.r.ext hw) hgt (r := 0) rfl | exact Ld.flat2 fi_len (hf3.r.ext hw) hgt (r := 1) rfl)) ?_
     refine Qt.call rfl en_44 rfl (fun w' hw => calls_same hw (has28 x.A x.n x.c x.l (cs.getD x.d.toNat 0) w' (((hX.ext hw).r.more (by have := hw.le; omega))) hxm)) ?_
     refine Qt.va rfl (fun w' hw => X.not rfl) ?_
     refine Qt.va rfl (fun w' hw => X.pickF rfl (by conv => lhs; whnf)) ?_
     refine Qt.nil (fun w6 hq => ?_)
     replace hr3 := hr3.ext hq
     rw [p1_in hd.1 hd.2] at hbad
     cases hc : x.l.contains (cs.getD x.d.toNat 0)
     ·refine J.iteT rfl ?_
      rw [hbad hc]
      refine J.seq ?_
      refine J.region ?_
      refine L.va rfl (X.assign (by conv => lhs; whnf)) ?_
      refine L.nil ?_
      refine J.ret ?_
      refine inB_ret <|  thn_ret <|  thn_ret <|  inB_ret <|  thn_ret <| ?_
      refine fin1 ?_
      exact ⟨rfl, he3.trans hq⟩
     ·refine J.iteF rfl ?_
      refine J.skip ?_
      refine J.region ?_
      refine L.va rfl (X.move (by conv => lhs; whnf)) ?_
      refine L.va rfl (X.add rfl rfl (by omega)) ?_
      refine L.va rfl (X.assign (by conv => lhs; whnf)) ?_
      refine L.nil ?_
      refine ⟨i + 1, At1 (by first | rfl | exact at_int rfl (by omega) | exact at_slice rfl (by omega) | exact at_int rfl (by simp)), (by (iterate 42 refine Agr.lk rfl ?_); exact Agr.lk rfl (Agr.hav rfl Agr.rfl')), ?_⟩
      refine ⟨⟨by omega, ?_, he3.trans hq⟩, by omega⟩
      rw [hnk, pk_next, hP, Bool.true_and]
      show p1 x cs = true
      rw [p1_in hd.1 hd.2, hc]
  ·obtain rfl : i = f.n := by omega
   rw [List.take_of_length_le (by rw [List.length_map]; omega)] at hP
   rw [hP]
   refine J.exit ?_
   refine J.seq ?_
   refine J.region ?_
   refine L.va rfl (X.assign (by conv => lhs; whnf)) ?_
   refine L.nil ?_
   refine J.ret ?_
   refine fin1 ?_
   exact ⟨rfl, he3⟩
end Go.Proofs.YtpomklkfedpkfaaGreat
namespace Go.Proofs.YtpomklkfedpkfaaGreat
set_option maxRecDepth 100000
open Go.RowKit H
set_option linter.unusedVariables false
def colOk (s : Sch) (x : Int × Int) : Prop := (x.1 = 0 ∧ x.2 = 0) ∨ (1 ≤ x.1 ∧ x.1 ≤ 4 ∧ 0 ≤ x.2 ∧ x.2 < (s.n1 : Int) + s.n2) ∨ (5 ≤ x.1 ∧ x.1 ≤ 6 ∧ 0 ≤ x.2 ∧ x.2 < (s.n1 : Int))
instance (s : Sch) (x : Int × Int) : Decidable (colOk s x) := by unfold colOk; infer_instance
abbrev cV (x : Int × Int) : List Value := [.int .i64 x.1, .int .i64 x.2]
end Go.Proofs.YtpomklkfedpkfaaGreat
namespace Go.Proofs.YtpomklkfedpkfaaGreat
set_option maxRecDepth 100000
open Go.RowKit H
set_option linter.unusedVariables false
abbrev oV (x : Int × Bool) : List Value := [.int .i64 x.1, .bool x.2]
structure Qu where
  (g : Nat) (f : Fis) (Ac : Option Addr) (nc cc : Nat) (c : List (Int × Int)) (Ao : Option Addr) (no co : Nat) (o : List (Int × Bool)) (m : Int)
namespace Qu
abbrev vs (q : Qu) : List Value := [.int .u32 (q.g : Int), q.f.val, .slice q.Ac q.nc q.cc, .slice q.Ao q.no q.co, .int .i64 q.m]
abbrev val (q : Qu) : Value := .agg q.vs.toArray
structure At (q : Qu) (N : Nat) (w : World) : Prop where
  g : q.g < 4294967296
  f : q.f.At N w
  c : Reads w N 2 q.Ac q.nc (q.c.flatMap cV)
  lc : q.c.length = q.nc
  mc : q.nc ≤ maxLen
  o : Reads w N 2 q.Ao q.no (q.o.flatMap oV)
  lo : q.o.length = q.no
  mo : q.no ≤ maxLen
theorem At.ext {q : Qu} {N : Nat} {w w' : World} (h : q.At N w) (he : Ext w w') : q.At N w' := ⟨h.g, h.f.ext he, h.c.ext he, h.lc, h.mc, h.o.ext he, h.lo, h.mo⟩
theorem At.low {q : Qu} {N B : Nat} {w w' : World} (h : q.At N w) (he : Below B w w') (hB : N ≤ B) : q.At N w' := ⟨h.g, h.f.low he hB, h.c.low he hB, h.lc, h.mc, h.o.low he hB, h.lo, h.mo⟩
theorem At.more {q : Qu} {N N' : Nat} {w : World} (h : q.At N w) (hN : N ≤ N') : q.At N' w := ⟨h.g, h.f.more hN, h.c.more hN, h.lc, h.mc, h.o.more hN, h.lo, h.mo⟩
end Qu
section
variable {s : Sch} {q : Qu}
end
end Go.Proofs.YtpomklkfedpkfaaGreat
namespace Go.Proofs.YtpomklkfedpkfaaGreat
open Go.RowKit
def fbit (f : Fi) : Nat := if 0 ≤ f.d ∧ f.d < 32 then 2 ^ f.d.toNat else 0
def fneed : List Fi → Nat
  | [] => 0
  | f :: t => fbit f ||| fneed t
theorem fneed_snoc (l : List Fi) (f : Fi) : fneed (l ++ [f]) = fneed l ||| fbit f := by
  induction l with
  | nil => simp [fneed]
  | cons x t ih => simp only [List.cons_append, fneed, ih, Nat.or_assoc]
theorem fneed_take {l : List Fi} {i : Nat} (h : i < l.length) : fneed (l.take (i + 1)) = fneed (l.take i) ||| fbit (l.getD i fi0) := by
  rw [List.take_succ_eq_append_getElem h, fneed_snoc, List.getD, List.getElem?_eq_getElem h]; rfl
theorem fbit_lt (f : Fi) : fbit f < 4294967296 := by
  unfold fbit
  split
  · rename_i h
    have : f.d.toNat < 32 := by omega
    exact Nat.lt_of_lt_of_le (Nat.pow_lt_pow_right (by decide) this) (by decide)
  · decide
theorem fneed_lt : ∀ l, fneed l < 4294967296
  | [] => by decide
  | f :: t => by
    have h1 := fbit_lt f
    have h2 := fneed_lt t
    exact Nat.or_lt_two_pow (n := 32) h1 h2
theorem fbit_test (f : Fi) (i : Nat) (hi : i < 32) : (fbit f).testBit i = decide (f.d = (i : Int)) := by
  unfold fbit
  split
  · rename_i h
    rw [Nat.testBit_two_pow]
    exact decide_eq_decide.2 (by omega)
  · rename_i h
    rw [Nat.zero_testBit, decide_eq_false (by omega)]
theorem fneed_test (i : Nat) (hi : i < 32) : ∀ l : List Fi, (fneed l).testBit i = l.any fun f => decide (f.d = (i : Int))
  | [] => by simp [fneed]
  | f :: t => by rw [fneed, Nat.testBit_or, fbit_test f i hi, fneed_test i hi t, List.any_cons]
theorem mod_next (x d : Nat) : x % 2 ^ (d + 1) = x % 2 ^ d + (if x.testBit d then 2 ^ d else 0) := by
  have h1 : x % 2 ^ (d + 1) = x % 2 ^ d + 2 ^ d * (x / 2 ^ d % 2) := by rw [Nat.pow_succ, Nat.mod_mul]
  rw [h1, Nat.testBit_eq_decide_div_mod_eq]
  have h2 : x / 2 ^ d % 2 < 2 := Nat.mod_lt _ (by decide)
  by_cases h : x / 2 ^ d % 2 = 1
  · rw [h]; simp
  · have : x / 2 ^ d % 2 = 0 := by omega
    rw [this]; simp
theorem mod_lt32 {x d : Nat} (hx : x < 4294967296) : x % 2 ^ d < 4294967296 := Nat.lt_of_le_of_lt (Nat.mod_le _ _) hx
theorem mod_all {x : Nat} (hx : x < 4294967296) : x % 2 ^ 32 = x := Nat.mod_eq_of_lt hx
theorem two_pow_lt {d : Nat} (h : d < 32) : 2 ^ d < 4294967296 := Nat.lt_of_lt_of_le (Nat.pow_lt_pow_right (by decide) h) (by decide)
end Go.Proofs.YtpomklkfedpkfaaGreat
namespace Go.Proofs.YtpomklkfedpkfaaGreat
set_option maxRecDepth 100000
open Go.RowKit H
set_option linter.unusedVariables false
namespace H
section
variable {P : Program} {w : World} {ρ : Operand → Value} {d : Option Tmp} {tx tz ty : TypeId} {x y : Operand} {pos : String} {aft : Array Edge} {g : Option (Nat × Bool)} {k ky : IntKind} {m n z : Int}
theorem X.orE (hx : ρ x = .int k m) (hy : ρ y = .int k n) (h : bits .or k m n = z) : (execOp ρ ⟨d, .binOp .or tx x y tz, ty, pos, aft, g⟩).run P w = .ok (.value (.int k z)) w := by rw [← h]; exact X.or hx hy
theorem X.shlE (hx : ρ x = .int k m) (hy : ρ y = .int ky n) (h0 : 0 ≤ n) (h : k.wrap (m * 2 ^ min n.toNat k.bits) = z) : (execOp ρ ⟨d, .binOp .shl tx x y tz, ty, pos, aft, g⟩).run P w = .ok (.value (.int k z)) w := by rw [← h]; exact X.shl hx hy h0
theorem X.addE (hx : ρ x = .int k m) (hy : ρ y = .int k n) (h : k.wrap (m + n) = z) : (execOp ρ ⟨d, .binOp .add tx x y tz, ty, pos, aft, g⟩).run P w = .ok (.value (.int k z)) w := by rw [← h]; exact X.addw hx hy
end
end H
theorem shl32 {n : Int} (h0 : 0 ≤ n) (h : n < 32) : IntKind.u32.wrap (1 * 2 ^ min n.toNat IntKind.u32.bits) = ((2 ^ n.toNat : Nat) : Int) := by
  have hp := two_pow_lt (d := n.toNat) (by omega)
  have e : min n.toNat IntKind.u32.bits = n.toNat := Nat.min_eq_left (by show n.toNat ≤ 32; omega)
  rw [e, Int.one_mul, show (2 : Int) ^ n.toNat = ((2 ^ n.toNat : Nat) : Int) by simp]
  generalize 2 ^ n.toNat = q at hp ⊢
  rw [w32 (by omega)]
theorem fneed_ (f : Fis) (w : World) (hf : f.At w.heap.size w) : Calls Tryz.prog 17 #[f.val] w fun e w' => e = .returned (.int .u32 ((fneed f.l : Nat) : Int)) ∧ Ext w w' := by
 have hl := hf.l
 have hm := hf.m
 unfold maxLen at hm
 refine enter Tryz.func17 rfl (by kernel_rfl) ?_
 refine J.seq ?_
 refine J.region ?_
 refine L.va rfl (X.assign (by conv => lhs; whnf)) ?_
 refine L.nil ?_
 refine J.seq ?_
 refine J.region ?_
 refine L.va rfl (X.assign (by conv => lhs; whnf)) ?_
 refine L.nil ?_
 iterate 2 refine J.seq ?_
 refine J.region ?_
 refine L.va rfl (X.move (by conv => lhs; whnf)) ?_
 refine L.va rfl (X.len rfl Tryz.underlying28) ?_
 refine L.va rfl (X.move (by conv => lhs; whnf)) ?_
 refine L.nil ?_
 refine J.block ?_
 refine J.loop (X := Nat) [3, 5, 8, 9, 10, 11, 12, 13, 14, 15, 16, 17, 18, 19, 20, 21, 22, 23, 24, 25] (fun i => [(8, .int .i64 (i : Int)), (3, .int .u32 ((fneed (f.l.take i) : Nat) : Int))]) (fun i w' => i ≤ f.n ∧ Ext w w') (fun i => f.n - i) (0) (At2 (by first | rfl | exact at_int rfl (by omega) | exact at_slice rfl (by omega) | exact at_int rfl (by simp)) (by first | rfl | exact at_int rfl (by omega) | exact at_slice rfl (by omega) | exact at_int rfl (by simp))) ?_ ?_
 ·exact ⟨Nat.zero_le _, Ext.refl _⟩
 ·rintro i g w1 ⟨hi, he1⟩
  have z1 := he1.le
  have hf1 := hf.ext he1
  refine J.seq ?_
  refine J.region ?_
  refine L.va rfl (X.lss rfl rfl) ?_
  refine L.nil ?_
  refine J.seq ?_
  refine J.dec rfl (fun hlt => ?_) (fun hlt => ?_)
  ·have hin : i < f.n := by omega
   have hA := hf1.r.some_ (by omega)
   obtain ⟨x, hx⟩ : ∃ x, x = f.l.getD i fi0 := ⟨_, rfl⟩
   have hgt := gtF (l := f.l) (i := i) (by omega)
   have hnx := fneed_take (l := f.l) (i := i) (by omega)
   rw [← hx] at hgt hnx
   refine J.skip ?_
   refine J.seq ?_
   refine J.block ?_
   refine J.seq ?_
   refine J.region ?_
   refine L.va rfl ((by first | exact X.indexAddrn rfl rfl Tryz.underlying28 sz_46 (by first | exact Option.some_ne_none _ | exact hA) (by omega) | exact X.indexAddr rfl rfl Tryz.underlying28 sz_46 (by first | exact Option.some_ne_none _ | exact hA) (by omega))) ?_
   refine L.va rfl (X.loadRow (cs := x.vs) rfl hf1.r (fun r u hu => flat_row fi_len hgt r u hu) (Nat.zero_lt_succ _) Tryz.underlying46 rfl (by kernel_rfl)) ?_
   refine L.alloc rfl zr_46 ?_
   intro b4 w4 hb4 hs4 hk4 he4
   refine L.storeAgg (vs := [_, _]) rfl rfl rfl rfl sz_46 (hk4) rfl ?_
   intro w5 hk5 hg5 hs5
   have he15 : Ext w1 w5 := he4.grw hg5 (by intro g hg; injection hg with hg; omega)
   have hk5 : Blk w5 b4 46 x.vs.toArray := hk5
   refine L.nil ?_
   refine J.seq ?_
   refine J.region ?_
   refine L.va rfl (X.fieldAddr rfl Tryz.underlying46 rfl sz_3 (by decide)) ?_
   refine L.va rfl (X.load rfl sc_3 (by first | exact Ld.blk hk5 rfl | exact hA)) ?_
   refine L.va rfl (X.geq rfl rfl) ?_
   refine L.va rfl (X.move (by conv => lhs; whnf)) ?_
   refine L.caseDec (k := 15) rfl (fun h1 => ?_) (fun h1 => ?_)
   ·refine L.va rfl (X.fieldAddr rfl Tryz.underlying46 rfl sz_3 (by decide)) ?_
    refine L.va rfl (X.load rfl sc_3 (by first | exact Ld.blk hk5 rfl | exact hA)) ?_
    refine L.va rfl (X.lss rfl rfl) ?_
    refine L.va rfl (X.pickT rfl (by conv => lhs; whnf)) ?_
    refine L.nil ?_
    refine J.dec rfl (fun h2 => ?_) (fun h2 => ?_)
    ·have e : bits .or .u32 ((fneed (f.l.take i) : Nat) : Int) ((2 ^ x.d.toNat : Nat) : Int) = ((fneed (f.l.take (i + 1)) : Nat) : Int) := by
      rw [u32_or_nat _ _ (fneed_lt _) (two_pow_lt (by omega)), hnx]; unfold fbit; rw [if_pos ⟨h1, h2⟩]
     refine J.region ?_
     refine L.va rfl (X.move (by conv => lhs; whnf)) ?_
     refine L.va rfl (X.fieldAddr rfl Tryz.underlying46 rfl sz_3 (by decide)) ?_
     refine L.va rfl (X.load rfl sc_3 (by first | exact Ld.blk hk5 rfl | exact hA)) ?_
     refine L.va rfl (X.shlE rfl rfl h1 (shl32 h1 h2)) ?_
     refine L.va rfl (X.orE rfl rfl e) ?_
     refine L.va rfl (X.assign (by conv => lhs; whnf)) ?_
     refine L.nil ?_
     refine J.region ?_
     refine L.va rfl (X.add rfl rfl (by omega)) ?_
     refine L.va rfl (X.move (by conv => lhs; whnf)) ?_
     refine L.nil ?_
     refine ⟨i + 1, At2 (by first | rfl | exact at_int rfl (by omega) | exact at_slice rfl (by omega) | exact at_int rfl (by simp)) (by first | rfl | exact at_int rfl (by omega) | exact at_slice rfl (by omega) | exact at_int rfl (by simp)), (by (iterate 21 refine Agr.lk rfl ?_); exact Agr.lk rfl (Agr.hav rfl Agr.rfl')), ?_⟩
     exact ⟨⟨by omega, he1.trans he15⟩, by omega⟩
    ·have e : fneed (f.l.take i) = fneed (f.l.take (i + 1)) := by rw [hnx]; unfold fbit; rw [if_neg (fun h => h2 h.2), Nat.or_zero]
     refine J.skip ?_
     refine J.region ?_
     refine L.va rfl (X.add rfl rfl (by omega)) ?_
     refine L.va rfl (X.move (by conv => lhs; whnf)) ?_
     refine L.nil ?_
     rw [e]
     refine ⟨i + 1, At2 (by first | rfl | exact at_int rfl (by omega) | exact at_slice rfl (by omega) | exact at_int rfl (by simp)) (by first | rfl | exact at_int rfl (by omega) | exact at_slice rfl (by omega) | exact at_int rfl (by simp)), (by (iterate 15 refine Agr.lk rfl ?_); exact Agr.lk rfl (Agr.hav rfl Agr.rfl')), ?_⟩
     exact ⟨⟨by omega, he1.trans he15⟩, by omega⟩
   ·have e : fneed (f.l.take i) = fneed (f.l.take (i + 1)) := by rw [hnx]; unfold fbit; rw [if_neg (fun h => h1 h.1), Nat.or_zero]
    iterate 3 refine L.no rfl ?_
    refine L.va rfl (X.pickF rfl (by conv => lhs; whnf)) ?_
    refine L.nil ?_
    refine J.iteF rfl ?_
    refine J.skip ?_
    refine J.region ?_
    refine L.va rfl (X.add rfl rfl (by omega)) ?_
    refine L.va rfl (X.move (by conv => lhs; whnf)) ?_
    refine L.nil ?_
    rw [e]
    refine ⟨i + 1, At2 (by first | rfl | exact at_int rfl (by omega) | exact at_slice rfl (by omega) | exact at_int rfl (by simp)) (by first | rfl | exact at_int rfl (by omega) | exact at_slice rfl (by omega) | exact at_int rfl (by simp)), (by (iterate 15 refine Agr.lk rfl ?_); exact Agr.lk rfl (Agr.hav rfl Agr.rfl')), ?_⟩
    exact ⟨⟨by omega, he1.trans he15⟩, by omega⟩
  ·obtain rfl : i = f.n := by omega
   rw [List.take_of_length_le (by omega)]
   refine J.exit ?_
   refine J.seq ?_
   refine J.region ?_
   refine L.va rfl (X.move (by conv => lhs; whnf)) ?_
   refine L.va rfl (X.assign (by conv => lhs; whnf)) ?_
   refine L.nil ?_
   refine J.ret ?_
   refine fin1 ?_
   exact ⟨rfl, he1⟩
theorem any_take_next {l : List Fi} {i : Nat} (h : i < l.length) (p : Fi → Bool) : (l.take (i + 1)).any p = ((l.take i).any p || p (l.getD i fi0)) := by
  rw [List.take_succ_eq_append_getElem h, List.any_append, List.getD, List.getElem?_eq_getElem h]; simp
theorem rfneed_ (f : Fis) (w : World) (hf : f.At w.heap.size w) : Calls Tryz.prog 24 #[f.val] w fun e w' => e = .returned (.int .u32 ((fneed f.l : Nat) : Int)) ∧ w = w' := by
 have hl := hf.l
 have hm := hf.m
 have hlt32 := fneed_lt f.l
 unfold maxLen at hm
 refine enter Tryz.func24 rfl (by kernel_rfl) ?_
 refine J.seq ?_
 refine J.region ?_
 refine L.va rfl (X.assign (by conv => lhs; whnf)) ?_
 refine L.nil ?_
 refine J.seq ?_
 refine J.region ?_
 refine L.va rfl (X.assign (by conv => lhs; whnf)) ?_
 refine L.nil ?_
 iterate 2 refine J.seq ?_
 refine J.region ?_
 refine L.va rfl (X.assign (by conv => lhs; whnf)) ?_
 refine L.nil ?_
 refine J.block ?_
 refine J.loop (X := Nat) [3, 4, 5, 6, 7, 8, 9, 10, 11, 12, 13, 14, 15, 16, 17, 18, 19, 20, 21, 22, 23, 24, 25, 26] (fun d => [(4, .int .i64 (d : Int)), (3, .int .u32 ((fneed f.l % 2 ^ d : Nat) : Int))]) (fun d w' => w' = w ∧ d ≤ 32) (fun d => 32 - d) (0) (At2 (by first | rfl | exact at_int rfl (by omega) | exact at_slice rfl (by omega) | exact at_int rfl (by simp)) (by first | rfl | exact at_int rfl (by omega) | exact at_slice rfl (by omega) | exact at_int rfl (by simp))) ?_ ?_
 ·exact ⟨rfl, Nat.zero_le _⟩
 ·rintro d g w1 ⟨rfl, hd⟩
  iterate 2 refine J.seq ?_
  refine J.region ?_
  refine L.va rfl (X.move (by conv => lhs; whnf)) ?_
  refine L.va rfl (X.lss rfl rfl) ?_
  refine L.nil ?_
  refine J.dec rfl (fun hlt => ?_) (fun hlt => ?_)
  ·have hd32 : d < 32 := by omega
   have hnx := mod_next (fneed f.l) d
   have htest := fneed_test d hd32 f.l
   have h2 := two_pow_lt hd32
   have hmd := mod_lt32 (d := d + 1) hlt32
   refine J.skip ?_
   refine J.cut (X := Nat) [3, 5, 10, 11, 12, 13, 14, 15, 16, 17, 18, 19, 20, 21, 22, 23, 24, 25, 26] (fun d' => [(3, .int .u32 ((fneed f.l % 2 ^ (d + 1) : Nat) : Int))]) (fun d' w' => w' = w1) ?_ ?_
   ·refine J.block ?_
    refine J.seq ?_
    refine J.region ?_
    refine L.va rfl (X.assign (by conv => lhs; whnf)) ?_
    refine L.nil ?_
    refine J.block ?_
    refine J.loop (X := Nat) [3, 5, 10, 11, 12, 13, 14, 15, 16, 17, 18, 19, 20, 21, 22, 23, 24, 25, 26] (fun i => [(5, .int .i64 (i : Int)), (3, .int .u32 ((fneed f.l % 2 ^ d : Nat) : Int))]) (fun i w' => w' = w1 ∧ i ≤ f.n ∧ ((f.l.take i).any fun f => decide (f.d = (d : Int))) = false) (fun i => f.n - i) (0) (At2 (by first | rfl | exact at_int rfl (by omega) | exact at_slice rfl (by omega) | exact at_int rfl (by simp)) (by first | rfl | exact at_int rfl (by omega) | exact at_slice rfl (by omega) | exact at_int rfl (by simp))) ?_ ?_
    ·exact ⟨rfl, Nat.zero_le _, rfl⟩
    ·rintro i g w2 ⟨rfl, hi, hP⟩
     iterate 2 refine J.seq ?_
     refine J.region ?_
     iterate 2 refine L.va rfl (X.move (by conv => lhs; whnf)) ?_
     refine L.va rfl (X.len rfl Tryz.underlying28) ?_
     refine L.va rfl (X.lss rfl rfl) ?_
     refine L.nil ?_
     refine J.dec rfl (fun hlt2 => ?_) (fun hlt2 => ?_)
     ·have hin : i < f.n := by omega
      have hA := hf.r.some_ (by omega)
      have hgt := gtF (l := f.l) (i := i) (by omega)
      have han := any_take_next (l := f.l) (i := i) (by omega) fun f => decide (f.d = (d : Int))
      refine J.skip ?_
      refine J.seq ?_
      refine J.block ?_
      refine J.seq ?_
      refine J.region ?_
      iterate 2 refine L.va rfl (X.move (by conv => lhs; whnf)) ?_
      refine L.va rfl ((by first | exact X.indexAddrn rfl rfl Tryz.underlying28 sz_46 (by first | exact Option.some_ne_none _ | exact hA) (by omega) | exact X.indexAddr rfl rfl Tryz.underlying28 sz_46 (by first | exact Option.some_ne_none _ | exact hA) (by omega))) ?_
      refine L.va rfl (X.fieldP rfl Tryz.underlying46 rfl sz_3 (by decide) (by first | exact Option.some_ne_none _ | exact hA)) ?_
      refine L.va rfl (X.load rfl sc_3 (by first | exact hA | exact Ld.flat2 fi_len hf.r hgt (r := 0) rfl)) ?_
      refine L.va rfl (X.move (by conv => lhs; whnf)) ?_
      refine L.va rfl (X.eql rfl rfl) ?_
      refine L.nil ?_
      refine J.dec rfl (fun heq => ?_) (fun heq => ?_)
      ·have hany : (f.l.any fun f => decide (f.d = (d : Int))) = true := List.any_eq_true.2 ⟨_, memF (by omega : i < f.l.length), decide_eq_true heq⟩
       rw [hany] at htest
       rw [htest, if_pos rfl] at hnx
       refine J.seq ?_
       refine J.region ?_
       iterate 2 refine L.va rfl (X.move (by conv => lhs; whnf)) ?_
       refine L.call rfl en_43 rfl (rtwo_any d w2 hd32) ?_
       rintro e _ ⟨rfl, rfl⟩
       refine ⟨_, rfl, ?_⟩
       refine L.va rfl (X.addE rfl rfl (show IntKind.u32.wrap (((fneed f.l % 2 ^ d : Nat) : Int) + ((2 ^ d : Nat) : Int)) = ((fneed f.l % 2 ^ (d + 1) : Nat) : Int) by rw [hnx] at hmd ⊢; rw [w32 (by omega)]; omega)) ?_
       refine L.va rfl (X.assign (by conv => lhs; whnf)) ?_
       refine L.nil ?_
       refine J.exit ?_
       refine ⟨0, At1 (by first | rfl | exact at_int rfl (by omega) | exact at_slice rfl (by omega) | exact at_int rfl (by simp)), (by (iterate 16 refine Agr.lk rfl ?_); refine Agr.lk rfl ?_; refine Agr.hav rfl ?_; (iterate 1 refine Agr.lk rfl ?_); exact Agr.rfl'), ?_⟩
       rfl
      ·refine J.skip ?_
       refine J.region ?_
       refine L.va rfl (X.move (by conv => lhs; whnf)) ?_
       refine L.va rfl (X.add rfl rfl (by omega)) ?_
       refine L.va rfl (X.assign (by conv => lhs; whnf)) ?_
       refine L.nil ?_
       refine ⟨i + 1, At2 (by first | rfl | exact at_int rfl (by omega) | exact at_slice rfl (by omega) | exact at_int rfl (by simp)) (by first | rfl | exact at_int rfl (by omega) | exact at_slice rfl (by omega) | exact at_int rfl (by simp)), (by (iterate 14 refine Agr.lk rfl ?_); exact Agr.lk rfl (Agr.hav rfl Agr.rfl')), ?_⟩
       refine ⟨⟨rfl, by omega, ?_⟩, by omega⟩
       rw [han, hP, Bool.false_or]
       exact decide_eq_false heq
     ·have hany : (f.l.any fun f => decide (f.d = (d : Int))) = false := by rwa [List.take_of_length_le (by omega)] at hP
      rw [hany] at htest
      have hnx' : fneed f.l % 2 ^ d = fneed f.l % 2 ^ (d + 1) := by rw [hnx, htest]; rfl
      rw [hnx']
      refine J.exit ?_
      refine ⟨0, At1 (by first | rfl | exact at_int rfl (by omega) | exact at_slice rfl (by omega) | exact at_int rfl (by simp)), (by (iterate 4 refine Agr.lk rfl ?_); refine Agr.lk rfl ?_; refine Agr.hav rfl ?_; (iterate 1 refine Agr.lk rfl ?_); exact Agr.rfl'), ?_⟩
      rfl
   ·rintro d' g w2 rfl
    refine J.region ?_
    refine L.va rfl (X.move (by conv => lhs; whnf)) ?_
    refine L.va rfl (X.add rfl rfl (by omega)) ?_
    refine L.va rfl (X.assign (by conv => lhs; whnf)) ?_
    refine L.nil ?_
    refine ⟨d + 1, At2 (by first | rfl | exact at_int rfl (by omega) | exact at_slice rfl (by omega) | exact at_int rfl (by simp)) (by first | rfl | exact at_int rfl (by omega) | exact at_slice rfl (by omega) | exact at_int rfl (by simp)), (by (iterate 3 refine Agr.lk rfl ?_); refine Agr.lk rfl ?_; refine Agr.hav rfl ?_; (iterate 2 refine Agr.lk rfl ?_); exact Agr.lk rfl (Agr.hav rfl Agr.rfl')), ?_⟩
    exact ⟨⟨rfl, by omega⟩, by omega⟩
  ·obtain rfl : d = 32 := by omega
   rw [mod_all hlt32]
   refine J.exit ?_
   refine J.seq ?_
   refine J.region ?_
   refine L.va rfl (X.move (by conv => lhs; whnf)) ?_
   refine L.va rfl (X.assign (by conv => lhs; whnf)) ?_
   refine L.nil ?_
   refine J.ret ?_
   refine fin1 ?_
   exact ⟨rfl, rfl⟩
end Go.Proofs.YtpomklkfedpkfaaGreat
namespace Go.Proofs.YtpomklkfedpkfaaGreat
set_option maxRecDepth 100000
set_option linter.unusedVariables false
def szD (ds : List (ByteArray × Int)) (i : Nat) : Int := (ds.getD i d0).2
def blw (ds : List (ByteArray × Int)) (m i : Nat) : Nat → Int
  | 0 => 1
  | d + 1 => if m.testBit (i + d) then blw ds m i d * szD ds (i + d) else blw ds m i d
theorem blw_head (ds : List (ByteArray × Int)) (m i : Nat) : ∀ d, blw ds m i (d + 1) = (if m.testBit i then szD ds i else 1) * blw ds m (i + 1) d
  | 0 => by
    simp only [blw, Nat.add_zero]
    split <;> simp
  | d + 1 => by
    have ih := blw_head ds m i d
    have e : i + (d + 1) = i + 1 + d := by omega
    have h1 : blw ds m i (d + 1 + 1) = if m.testBit (i + (d + 1)) then blw ds m i (d + 1) * szD ds (i + (d + 1)) else blw ds m i (d + 1) := rfl
    have h2 : blw ds m (i + 1) (d + 1) = if m.testBit (i + 1 + d) then blw ds m (i + 1) d * szD ds (i + 1 + d) else blw ds m (i + 1) d := rfl
    rw [h1, h2, e]
    split
    · rw [ih, Int.mul_assoc]
    · exact ih
theorem kyP_blw (ds : List (ByteArray × Int)) (m : Nat) : ∀ n, kyP ds m n = blw ds m 0 n
  | 0 => rfl
  | n + 1 => by
    have h1 : kyP ds m (n + 1) = if m.testBit n then kyP ds m n * szD ds n else kyP ds m n := rfl
    have h2 : blw ds m 0 (n + 1) = if m.testBit (0 + n) then blw ds m 0 n * szD ds (0 + n) else blw ds m 0 n := rfl
    rw [h1, h2, Nat.zero_add, kyP_blw ds m n]
section
variable {ds : List (ByteArray × Int)} {m n : Nat}
theorem szD_bd (hS : szB ds n = true) {i : Nat} (hi : i < n) : 1 ≤ szD ds i ∧ szD ds i ≤ 4096 := by
  have := szB_at (mono_b (szB_s ds) (by omega : i + 1 ≤ n) hS)
  exact ⟨this.1, this.2.1⟩
theorem blw_pos (hS : szB ds n = true) (i : Nat) : ∀ d, i + d ≤ n → 1 ≤ blw ds m i d
  | 0, _ => Int.le_refl _
  | d + 1, h => by
    have ih := blw_pos hS i d (by omega)
    have hb := szD_bd hS (show i + d < n by omega)
    have h1 : blw ds m i (d + 1) = if m.testBit (i + d) then blw ds m i d * szD ds (i + d) else blw ds m i d := rfl
    rw [h1]
    split
    · have := Int.mul_le_mul ih hb.1 (by decide) (by omega)
      simpa using this
    · exact ih
theorem blw_le (hS : szB ds n = true) (i : Nat) : ∀ d, i + d ≤ n → blw ds m i d ≤ 1099511627776 := by
  have hP : ∀ i d, i + d ≤ n → blw ds m (i + 1) (d - 1) ≤ blw ds m i d ∨ d = 0 := by
    intro i d h
    match d with
    | 0 => exact .inr rfl
    | d + 1 =>
      left
      have hb := szD_bd hS (show i < n by omega)
      have hp := blw_pos (m := m) hS (i + 1) d (by omega)
      rw [blw_head, Nat.add_sub_cancel]
      split
      · have := Int.mul_le_mul_of_nonneg_right hb.1 (show 0 ≤ blw ds m (i + 1) d by omega)
        simpa using this
      · simp
  have key : ∀ i d, i + d ≤ n → blw ds m i d ≤ blw ds m 0 (i + d) := by
    intro i
    induction i with
    | zero => intro d _; rw [Nat.zero_add]; exact Int.le_refl _
    | succ i ih =>
      intro d h
      have h1 := hP i (d + 1) (by omega)
      rw [Nat.add_sub_cancel] at h1
      have h2 := ih (d + 1) (by omega)
      rcases h1 with h1 | h1
      · rw [show i + 1 + d = i + (d + 1) by omega]; omega
      · omega
  intro d h
  have h1 := key i d h
  have h2 := (kyP_bd m (mono_b (szB_s ds) h hS) (i + d) (Nat.le_refl _)).2
  rw [kyP_blw] at h2
  omega
end
def cdK (ds : List (ByteArray × Int)) (m n : Nat) (k : Int) (i : Nat) : Int := if m.testBit i then k / blw ds m (i + 1) (n - (i + 1)) % szD ds i else -1
def coK (ds : List (ByteArray × Int)) (m n : Nat) (k : Int) : List Int := (List.range n).map (cdK ds m n k)
theorem coK_length (ds : List (ByteArray × Int)) (m n : Nat) (k : Int) : (coK ds m n k).length = n := by simp [coK]
theorem range_getD {f : Nat → Int} {n i : Nat} (hi : i < n) : ((List.range n).map f).getD i 0 = f i := by simp [List.getD, hi]
theorem coK_at {ds : List (ByteArray × Int)} {m n : Nat} {k : Int} {i : Nat} (hi : i < n) : (coK ds m n k).getD i 0 = cdK ds m n k i := range_getD hi
section
variable {ds : List (ByteArray × Int)} {m n : Nat}
end
end Go.Proofs.YtpomklkfedpkfaaGreat
namespace Go.Proofs.YtpomklkfedpkfaaGreat
set_option maxRecDepth 100000
open Go.RowKit H
set_option linter.unusedVariables false
namespace Sch
def askE (s : Sch) (m : Nat) : Int := if s.code ≠ 0 then 1 else if (m : Int) ≤ s.F then 0 else 11
theorem askE_0 {s : Sch} {m : Nat} (h : s.askE m = 0) : s.code = 0 ∧ (m : Int) ≤ s.F := by
  unfold askE at h
  split at h
  · cases h
  · rename_i hc
    split at h
    · rename_i hF
      exact ⟨Decidable.not_not.1 hc, hF⟩
    · cases h
theorem Here.ask {s : Sch} {w : World} (h : s.Here w) {m : Nat} (hm : m < 4294967296) : Calls Tryz.prog 34 #[s.val, .int .u32 (m : Int)] w fun e w' => e = .returned (.int .i64 (s.askE m)) ∧ Ext w w' := by
 refine enter Tryz.func34 rfl (by kernel_rfl) ?_
 refine J.seq ?_
 refine J.region ?_
 refine L.boxA (l := [_, _, _, _]) rfl rfl ?_
 intro b1 w1 hb1 hs1 hk1 he1
 refine L.va rfl (X.assign (by conv => lhs; whnf)) ?_
 refine L.nil ?_
 refine J.seq ?_
 refine J.region ?_
 refine L.va rfl ((by first | exact X.loadAgg rfl (range_l hk1) Tryz.underlying26 rfl (by kernel_rfl) | exact X.loadAgg rfl (range_blk hk1) Tryz.underlying26 rfl (by kernel_rfl))) ?_
 by_cases hc : s.code = 0
 ·have g0 := (good hc).1
  have hF := F_bd hc
  have han := andNot_full (s := s) hm g0.2.1
  refine L.call rfl en_53 rfl ((h.ext he1).full_ok hc) ?_
  rintro e w2 ⟨rfl, he2⟩
  refine ⟨_, rfl, ?_⟩
  have he2 : Ext w1 w2 := he2
  refine L.va rfl (X.assign (by conv => lhs; whnf)) ?_
  refine L.nil ?_
  refine J.seq ?_
  refine J.block ?_
  refine J.seq ?_
  refine J.region ?_
  refine L.va rfl (X.move (by conv => lhs; whnf)) ?_
  refine L.va rfl (X.eql rfl rfl) ?_
  refine L.va rfl (X.assign (by conv => lhs; whnf)) ?_
  refine L.nil ?_
  refine J.decF rfl (by omega) ?_
  refine J.seq ?_
  refine J.region ?_
  iterate 2 refine L.va rfl (X.move (by conv => lhs; whnf)) ?_
  refine L.va rfl (X.andNot rfl rfl) ?_
  refine L.va rfl (X.neq rfl rfl) ?_
  refine L.va rfl (X.assign (by conv => lhs; whnf)) ?_
  refine L.nil ?_
  refine J.ndec rfl (fun hn => ?_) (fun hn => ?_)
  ·have e : s.askE m = 11 := by rw [askE, if_neg (fun k => k hc), if_neg (by omega)]
   rw [e]
   refine J.seq ?_
   refine J.region ?_
   refine L.va rfl (X.assign (by conv => lhs; whnf)) ?_
   refine L.nil ?_
   refine J.ret ?_
   refine inB_ret <|  thn_ret <| ?_
   refine fin1 ?_
   exact ⟨rfl, he1.trans he2⟩
  ·have e : s.askE m = 0 := by rw [askE, if_neg (fun k => k hc), if_pos (by omega)]
   rw [e]
   refine J.skip ?_
   refine J.seq ?_
   refine J.region ?_
   refine L.va rfl (X.assign (by conv => lhs; whnf)) ?_
   refine L.nil ?_
   refine J.ret ?_
   refine fin1 ?_
   exact ⟨rfl, he1.trans he2⟩
 ·refine L.call rfl en_53 rfl ((h.ext he1).full_no hc) ?_
  rintro e w2 ⟨rfl, he2⟩
  refine ⟨_, rfl, ?_⟩
  have he2 : Ext w1 w2 := he2
  have e : s.askE m = 1 := by rw [askE, if_pos hc]
  rw [e]
  refine L.va rfl (X.assign (by conv => lhs; whnf)) ?_
  refine L.nil ?_
  refine J.seq ?_
  refine J.block ?_
  refine J.seq ?_
  refine J.region ?_
  refine L.va rfl (X.move (by conv => lhs; whnf)) ?_
  refine L.va rfl (X.eql rfl rfl) ?_
  refine L.va rfl (X.assign (by conv => lhs; whnf)) ?_
  refine L.nil ?_
  refine J.iteT rfl ?_
  refine J.seq ?_
  refine J.region ?_
  refine L.va rfl (X.assign (by conv => lhs; whnf)) ?_
  refine L.nil ?_
  refine J.ret ?_
  refine inB_ret <|  thn_ret <| ?_
  refine fin1 ?_
  exact ⟨rfl, he1.trans he2⟩
section
variable {s : Sch} {m nc : Nat} {cs : List Int}
end
end Sch
end Go.Proofs.YtpomklkfedpkfaaGreat
namespace Go.Proofs.YtpomklkfedpkfaaGreat
set_option maxRecDepth 100000
open Go.RowKit H
set_option linter.unusedVariables false
namespace Sch
def coE (s : Sch) (m : Nat) (k : Int) : Int := if s.askE m ≠ 0 then s.askE m else if kyP s.ds m s.nd ≤ k then 2 else 0
def coL (s : Sch) (m : Nat) (k : Int) : List Int := if s.coE m k = 0 then coK s.ds m s.nd k else []
section
variable {s : Sch} {m : Nat} {k : Int}
theorem coE_a (h : s.askE m ≠ 0) : s.coE m k = s.askE m ∧ s.coL m k = [] := by
  have e : s.coE m k = s.askE m := by rw [coE, if_pos h]
  exact ⟨e, by rw [coL, e, if_neg h]⟩
theorem coE_2 (h : s.askE m = 0) (hk : kyP s.ds m s.nd ≤ k) : s.coE m k = 2 ∧ s.coL m k = [] := by
  have e : s.coE m k = 2 := by rw [coE, if_neg (fun x => x h), if_pos hk]
  exact ⟨e, by rw [coL, e, if_neg (by decide)]⟩
theorem coE_0 (h : s.askE m = 0) (hk : ¬ kyP s.ds m s.nd ≤ k) : s.coE m k = 0 ∧ s.coL m k = coK s.ds m s.nd k := by
  have e : s.coE m k = 0 := by rw [coE, if_neg (fun x => x h), if_neg hk]
  exact ⟨e, by rw [coL, if_pos e]⟩
end
def coU (ds : List (ByteArray × Int)) (m n : Nat) (k : Int) (j : Nat) : List Int := (List.range n).map fun x => if x < j then 0 else cdK ds m n k x
theorem coU_all (ds : List (ByteArray × Int)) (m n : Nat) (k : Int) : coU ds m n k 0 = coK ds m n k := by
  unfold coU coK
  apply List.map_congr_left
  intro x _
  rw [if_neg (by omega)]
theorem coU_none (ds : List (ByteArray × Int)) (m n : Nat) (k : Int) : coU ds m n k n = List.replicate n 0 := by
  unfold coU
  apply List.ext_getElem
  · simp
  · intro i h1 h2
    simp at h1
    simp [h1]
theorem coU_next (ds : List (ByteArray × Int)) (m n : Nat) (k : Int) (j : Nat) (hj : j + 1 ≤ n) : (coU ds m n k (j + 1)).set j (cdK ds m n k j) = coU ds m n k j := by
  unfold coU
  apply List.ext_getElem
  · simp
  · intro i h1 h2
    simp at h1
    rw [List.getElem_set]
    simp only [List.getElem_map, List.getElem_range]
    split
    · rename_i e; subst e; rw [if_neg (by omega)]
    · rename_i e
      by_cases hlt : i < j
      · rw [if_pos (by omega), if_pos hlt]
      · rw [if_neg (by omega), if_neg hlt]
theorem coU_length (ds : List (ByteArray × Int)) (m n : Nat) (k : Int) (j : Nat) : (coU ds m n k j).length = n := by simp [coU]
theorem own_setN {w : World} {base e n c : Nat} {A : Option Addr} {k : IntKind} {zs ys : List Int} (h : w.ownsRow base e 1 (.slice A n c) n (nums k zs)) (hy : zs = ys) : w.ownsRow base e 1 (.slice A n c) n (nums k ys) := hy ▸ h
theorem Here.codes {s : Sch} {w : World} (h : s.Here w) {m : Nat} (hm : m < 4294967296) (k : Int) (hk : 0 ≤ k ∧ k ≤ 18446744073709551615) :
  Calls Tryz.prog 18 #[s.val, .int .u32 (m : Int), .int .u64 k] w fun e w' => ∃ A c, e = .returned (.tuple #[.slice A (s.coL m k).length c, .int .i64 (s.coE m k)]) ∧ w'.ownsRow w.heap.size 3 1 (.slice A (s.coL m k).length c) (s.coL m k).length (nums .i64 (s.coL m k)) ∧ Ext w w' := by
 have hle := h.hle
 have ra := @coE_a s m k
 have r2 := @coE_2 s m k
 have r0 := @coE_0 s m k
 refine enter Tryz.func18 rfl (by kernel_rfl) ?_
 refine J.seq ?_
 refine J.region ?_
 refine L.boxA (l := [_, _, _, _]) rfl rfl ?_
 intro b1 w1 hb1 hs1 hk1 he1
 iterate 2 refine L.va rfl (X.assign (by conv => lhs; whnf)) ?_
 refine L.nil ?_
 iterate 2 refine J.seq ?_
 refine J.region ?_
 refine L.va rfl ((by first | exact X.loadAgg rfl (range_l hk1) Tryz.underlying26 rfl (by kernel_rfl) | exact X.loadAgg rfl (range_blk hk1) Tryz.underlying26 rfl (by kernel_rfl))) ?_
 refine L.va rfl (X.move (by conv => lhs; whnf)) ?_
 refine L.call rfl en_34 rfl ((h.ext he1).ask hm) ?_
 rintro e w2 ⟨rfl, he2⟩
 refine ⟨_, rfl, ?_⟩
 have he2 : Ext w1 w2 := he2
 have he02 := he1.trans he2
 replace hk1 := hk1.ext he2
 refine L.va rfl (X.assign (by conv => lhs; whnf)) ?_
 refine L.nil ?_
 refine J.seq ?_
 refine J.region ?_
 refine L.va rfl (X.move (by conv => lhs; whnf)) ?_
 refine L.va rfl (X.neq rfl rfl) ?_
 refine L.nil ?_
 refine J.ndec rfl (fun hA => ?_) (fun hA => ?_)
 ·rw [(ra hA).1, (ra hA).2]
  refine J.seq ?_
  refine J.region ?_
  refine L.va rfl (X.move (by conv => lhs; whnf)) ?_
  iterate 2 refine L.va rfl (X.assign (by conv => lhs; whnf)) ?_
  refine L.nil ?_
  refine J.ret ?_
  refine thn_ret <| ?_
  refine fin2 ?_
  exact ⟨none, 0, rfl, own_nilN _ _ _ _, he02⟩
 ·have hA0 : s.askE m = 0 := hA
  obtain ⟨hc, hF⟩ := askE_0 hA0
  obtain ⟨g0, g1⟩ := good hc
  have hl := h.len
  have hkv : s.kv m = kyP s.ds m s.nd := by rw [Sch.kv, if_pos ⟨hc, hF⟩]
  have hbp := kyP_bd m g1 s.nd (Nat.le_refl _)
  refine J.skip ?_
  refine J.seq ?_
  refine J.region ?_
  refine L.va rfl ((by first | exact X.loadAgg rfl (range_l hk1) Tryz.underlying26 rfl (by kernel_rfl) | exact X.loadAgg rfl (range_blk hk1) Tryz.underlying26 rfl (by kernel_rfl))) ?_
  refine L.va rfl (X.move (by conv => lhs; whnf)) ?_
  refine L.call rfl en_31 rfl ((h.ext he02).keys hm) ?_
  rintro e w3 ⟨rfl, he3⟩
  refine ⟨_, rfl, ?_⟩
  have he3 : Ext w2 w3 := he3
  have he03 := he02.trans he3
  replace hk1 := hk1.ext he3
  rw [hkv]
  refine L.va rfl (X.move (by conv => lhs; whnf)) ?_
  iterate 2 refine L.va rfl (X.extract rfl rfl) ?_
  iterate 2 refine L.va rfl (X.assign (by conv => lhs; whnf)) ?_
  refine L.nil ?_
  iterate 2 refine J.seq ?_
  refine J.region ?_
  iterate 2 refine L.va rfl (X.move (by conv => lhs; whnf)) ?_
  refine L.va rfl (X.geq rfl rfl) ?_
  refine L.nil ?_
  refine J.dec rfl (fun hge => ?_) (fun hge => ?_)
  ·rw [(r2 hA0 hge).1, (r2 hA0 hge).2]
   refine J.seq ?_
   refine J.region ?_
   iterate 2 refine L.va rfl (X.assign (by conv => lhs; whnf)) ?_
   refine L.nil ?_
   refine J.ret ?_
   refine thn_ret <| ?_
   refine fin2 ?_
   exact ⟨none, 0, rfl, own_nilN _ _ _ _, he03⟩
  ·rw [(r0 hA0 (by omega)).1, (r0 hA0 (by omega)).2, coK_length]
   refine J.skip ?_
   refine J.seq ?_
   refine J.region ?_
   refine L.va rfl (X.fieldAddr rfl Tryz.underlying26 rfl sz_22 (by decide)) ?_
   refine L.va rfl (X.load rfl sc_22 (by first | exact Ld.blk hk1 rfl)) ?_
   refine L.va rfl (X.len rfl Tryz.underlying22) ?_
   refine L.make rfl rfl rfl Tryz.underlying44 el_3 (by omega) ?_
   intro b4 w4 hb4 hs4 hk4 he4
   rw [made_nums] at hk4
   have hz03 := he03.le
   have he04 := he03.trans he4
   have ho4 : w4.ownsRow w.heap.size 3 1 (.slice (some ⟨b4, 0, none⟩) s.nd s.nd) s.nd (nums .i64 (List.replicate s.nd 0)) := blk_own1 hk4 (by omega) (by unfold maxLen; omega) (by simp [nums])
   rw [← coU_none s.ds m s.nd k] at ho4
   replace hk1 := hk1.ext he4
   have hd4 := h.hd.ext he04
   refine L.va rfl (X.assign (by conv => lhs; whnf)) ?_
   refine L.nil ?_
   iterate 2 refine J.seq ?_
   refine J.region ?_
   refine L.va rfl (X.fieldAddr rfl Tryz.underlying26 rfl sz_22 (by decide)) ?_
   refine L.va rfl (X.load rfl sc_22 (by first | exact Ld.blk hk1 rfl | exact Ld.rd hd4 (by omega))) ?_
   refine L.va rfl (X.len rfl Tryz.underlying22) ?_
   refine L.va rfl (X.sub rfl rfl (by omega)) ?_
   refine L.va rfl (X.assign (by conv => lhs; whnf)) ?_
   refine L.nil ?_
   refine J.block ?_
   refine J.loop (X := Int × Int) [2, 12, 13, 37, 38, 39, 40, 41, 42, 43, 44, 45, 46, 47, 48, 49, 50, 51, 52, 53, 54, 55, 56, 57, 58, 59, 60, 61, 62, 63, 64, 65] (fun x => [(12, .int .i64 x.1), (2, .int .u64 x.2)]) (fun x w' => -1 ≤ x.1 ∧ x.1 < s.nd ∧ x.2 = k / blw s.ds m (x.1 + 1).toNat (s.nd - (x.1 + 1).toNat) ∧ w'.ownsRow w.heap.size 3 1 (.slice (some ⟨b4, 0, none⟩) s.nd s.nd) s.nd (nums .i64 (coU s.ds m s.nd k (x.1 + 1).toNat)) ∧ Ext w w' ∧ Blk w' b1 26 #[.slice s.Ad s.nd s.cd, .slice s.A1 s.n1 s.c1, .slice s.A2 s.n2 s.c2, .slice s.Av s.nv s.cv]) (fun x => (x.1 + 1).toNat) (((s.nd : Int) - 1, k)) (At2 (by first | rfl | exact at_int rfl (by omega) | exact at_slice rfl (by omega) | exact at_int rfl (by simp)) (by first | rfl | exact at_int rfl (by omega) | exact at_slice rfl (by omega) | exact at_int rfl (by simp))) ?_ ?_
   ·have e : ((s.nd : Int) - 1 + 1).toNat = s.nd := by omega
    refine ⟨by dsimp only; omega, by dsimp only; omega, ?_, ?_, he04, hk1⟩
    ·dsimp only
     rw [e, Nat.sub_self, show blw s.ds m s.nd 0 = 1 from rfl, Int.ediv_one]
    ·dsimp only
     rw [e]
     exact ho4
   ·rintro ⟨a, q⟩ g w5 ⟨ha0, ha1, hq, ho5, he05, hk5⟩
    dsimp only at ha0 ha1 hq ho5
    have q1 : ((a, q) : Int × Int).1 = a := rfl
    have q2 : ((a, q) : Int × Int).2 = q := rfl
    have hd5 := h.hd.ext he05
    iterate 2 refine J.seq ?_
    refine J.region ?_
    refine L.va rfl (X.move (by conv => lhs; whnf)) ?_
    refine L.va rfl (X.geq rfl rfl) ?_
    refine L.nil ?_
    refine J.dec rfl (fun hlt => ?_) (fun hlt => ?_)
    ·have ha : 0 ≤ a := hlt
     obtain ⟨i, rfl⟩ := Int.eq_ofNat_of_zero_le ha
     have hi : i < s.nd := by omega
     have e1 : ((i : Int) + 1).toNat = i + 1 := by omega
     have e2 : ((i : Int) - 1 + 1).toNat = i := by omega
     rw [e1] at hq ho5
     have hbl := blw_pos (m := m) g1 (i + 1) (s.nd - (i + 1)) (by omega)
     have hq0 : 0 ≤ q ∧ q ≤ k := by
      rw [hq]
      exact div_le' hk.1 (by omega)
     have hbd : 1 ≤ szD s.ds i ∧ szD s.ds i ≤ 4096 := szD_bd g1 hi
     have hcd : cdK s.ds m s.nd k i = if m.testBit i then q % szD s.ds i else -1 := by rw [cdK, hq]
     have hqn : k / blw s.ds m i (s.nd - i) = if m.testBit i then q / szD s.ds i else q := by
      rw [show s.nd - i = s.nd - (i + 1) + 1 by omega, blw_head, hq]
      split
      ·rw [Int.mul_comm, Int.ediv_ediv_of_nonneg (by omega)]
      ·rw [Int.one_mul]
     have hnx := coU_next s.ds m s.nd k i (by omega)
     have hcl := coU_length s.ds m s.nd k (i + 1)
     have hba := bit_and (m := m) (i := i) hm (by omega)
     have hl2 : i < s.ds.length := by omega
     have hnb : some b1 ≠ Value.ownBlock (.slice (some ⟨b4, 0, none⟩) s.nd s.nd) := fun e => own_blk_ne ho5 hk5 (by decide) e.symm
     refine J.skip ?_
     refine J.seq ?_
     refine J.block ?_
     refine J.seq ?_
     refine J.region ?_
     iterate 2 refine L.va rfl (X.move (by conv => lhs; whnf)) ?_
     refine L.va rfl ((by first | exact X.index1n rfl rfl Tryz.underlying44 sz_3 (by first | exact Option.some_ne_none _ | exact hd5.some_ (by omega)) (by omega) | exact X.index1 rfl rfl Tryz.underlying44 sz_3 (by first | exact Option.some_ne_none _ | exact hd5.some_ (by omega)) (by omega))) ?_
     refine L.storeON rfl rfl (by conv => lhs; whnf) sz_3 (ho5) (by omega) ?_
     intro w6 ho6 hg6 hb6 hs6
     have he06 := he05.low hb6 (Nat.le_refl _)
     have hk6 := hk5.grown hg6 hnb
     have hd6 := h.hd.ext he06
     refine L.nil ?_
     refine J.seq ?_
     refine J.region ?_
     iterate 2 refine L.va rfl (X.move (by conv => lhs; whnf)) ?_
     refine L.va rfl (X.shr rfl rfl (by omega)) ?_
     refine L.va rfl (X.and rfl rfl) ?_
     refine L.va rfl (X.eql rfl rfl) ?_
     refine L.nil ?_
     rw [hba]
     cases ht : m.testBit i
     ·rw [ht, if_neg (by decide)] at hcd hqn
      refine J.decF rfl (by decide) ?_
      refine J.skip ?_
      refine J.region ?_
      refine L.va rfl (X.move (by conv => lhs; whnf)) ?_
      refine L.va rfl (X.sub rfl rfl (by omega)) ?_
      refine L.va rfl (X.assign (by conv => lhs; whnf)) ?_
      refine L.nil ?_
      refine ⟨((i : Int) - 1, q), At2 (by first | rfl | exact at_int rfl (by omega) | exact at_slice rfl (by omega) | exact at_int rfl (by simp)) (by first | rfl | exact at_int rfl (by omega) | exact at_slice rfl (by omega) | exact at_int rfl (by simp)), (by (iterate 13 refine Agr.lk rfl ?_); exact Agr.lk rfl (Agr.hav rfl Agr.rfl')), ?_⟩
      refine ⟨⟨by dsimp only; omega, by dsimp only; omega, ?_, ?_, he06, hk6⟩, by dsimp only; omega⟩
      ·dsimp only; rw [e2]; exact hqn.symm
      ·dsimp only; rw [e2]; exact own_setN ho6 (by rw [← hcd]; exact hnx)
     ·rw [ht, if_pos rfl] at hcd hqn
      refine J.iteT rfl ?_
      have hsz : (s.ds.getD i d0).2 = szD s.ds i := rfl
      have hld := Ld.dimN hd6 hi
      rw [hsz] at hld
      generalize szD s.ds i = dv at *
      refine J.seq ?_
      refine J.region ?_
      refine L.va rfl (X.fieldAddr rfl Tryz.underlying26 rfl sz_22 (by decide)) ?_
      refine L.va rfl (X.load rfl sc_22 (by first | exact Ld.blk hk6 rfl | exact Ld.rd hd6 (by omega))) ?_
      refine L.va rfl (X.move (by conv => lhs; whnf)) ?_
      refine L.va rfl ((by first | exact X.indexAddrn rfl rfl Tryz.underlying22 sz_54 (by first | exact Option.some_ne_none _ | exact hd6.some_ (by omega)) (by omega) | exact X.indexAddr rfl rfl Tryz.underlying22 sz_54 (by first | exact Option.some_ne_none _ | exact hd6.some_ (by omega)) (by omega))) ?_
      refine L.va rfl (X.fieldP rfl Tryz.underlying54 rfl sz_3 (by decide) (by first | exact Option.some_ne_none _ | exact hd6.some_ (by omega))) ?_
      refine L.va rfl (X.load rfl sc_3 hld) ?_
      refine L.va rfl ((by first | exact X.convU rfl is_3 Tryz.underlying48 (by omega) | exact X.convw rfl is_3 Tryz.underlying48)) ?_
      refine L.va rfl (X.assign (by conv => lhs; whnf)) ?_
      refine L.nil ?_
      refine J.seq ?_
      refine J.region ?_
      iterate 4 refine L.va rfl (X.move (by conv => lhs; whnf)) ?_
      refine L.va rfl (X.rem rfl rfl (by omega)) ?_
      refine L.va rfl ((by first | exact X.convI rfl is_48 Tryz.underlying3 (by omega) | exact X.convw rfl is_48 Tryz.underlying3)) ?_
      refine L.va rfl ((by first | exact X.index1n rfl rfl Tryz.underlying44 sz_3 (by first | exact Option.some_ne_none _ | exact hd6.some_ (by omega)) (by omega) | exact X.index1 rfl rfl Tryz.underlying44 sz_3 (by first | exact Option.some_ne_none _ | exact hd6.some_ (by omega)) (by omega))) ?_
      have hr0 : 0 ≤ q % dv ∧ q % dv < dv := ⟨Int.emod_nonneg _ (by omega), Int.emod_lt_of_pos _ (by omega)⟩
      have hr1 : 0 ≤ (((i : Int), q) : Int × Int).2 % dv ∧ (((i : Int), q) : Int × Int).2 % dv < dv := hr0
      refine L.storeON rfl rfl (by conv => lhs; whnf) sz_3 (ho6) (by omega) ?_
      intro w7 ho7 hg7 hb7 hs7
      have he07 := he06.low hb7 (Nat.le_refl _)
      have hk7 := hk6.grown hg7 (fun e => own_blk_ne ho6 hk6 (by decide) e.symm)
      refine L.nil ?_
      refine J.region ?_
      iterate 2 refine L.va rfl (X.move (by conv => lhs; whnf)) ?_
      refine L.va rfl (X.quoU rfl rfl (by omega)) ?_
      refine L.va rfl (X.assign (by conv => lhs; whnf)) ?_
      refine L.nil ?_
      refine J.region ?_
      refine L.va rfl (X.move (by conv => lhs; whnf)) ?_
      refine L.va rfl (X.sub rfl rfl (by omega)) ?_
      refine L.va rfl (X.assign (by conv => lhs; whnf)) ?_
      refine L.nil ?_
      refine ⟨((i : Int) - 1, q / dv), At2 (by first | rfl | exact at_int rfl (by omega) | exact at_slice rfl (by omega) | exact at_int rfl (by simp)) (by first | rfl | exact at_int rfl (by omega) | exact at_slice rfl (by omega) | exact at_int rfl (by simp)), (by (iterate 32 refine Agr.lk rfl ?_); exact Agr.lk rfl (Agr.hav rfl Agr.rfl')), ?_⟩
      refine ⟨⟨by dsimp only; omega, by dsimp only; omega, ?_, ?_, he07, hk7⟩, by dsimp only; omega⟩
      ·dsimp only; rw [e2]; exact hqn.symm
      ·dsimp only; rw [e2]; exact own_setN ho7 (by rw [List.set_set, ← hnx, hcd, show IntKind.i64.wrap ((((i : Int), q) : Int × Int).2 % dv) = q % dv from w64 (by omega)])
    ·have ha : a = -1 := by
      have : ¬ 0 ≤ a := hlt
      omega
     subst ha
     refine J.exit ?_
     refine J.seq ?_
     refine J.region ?_
     refine L.va rfl (X.move (by conv => lhs; whnf)) ?_
     iterate 2 refine L.va rfl (X.assign (by conv => lhs; whnf)) ?_
     refine L.nil ?_
     refine J.ret ?_
     refine fin2 ?_
     rw [show ((-1 : Int) + 1).toNat = 0 by decide, coU_all] at ho5
     exact ⟨_, _, rfl, ho5, he05⟩
end Sch
end Go.Proofs.YtpomklkfedpkfaaGreat
namespace Go.Proofs.YtpomklkfedpkfaaGreat
set_option maxRecDepth 100000
open Go.RowKit H
open Dfp
open Nrm (pk)
set_option linter.unusedVariables false
def cellsE (s : Sch) (m : Nat) (f : Fis) (l : List Con) : Int := if fcode s f ≠ 0 then fcode s f else if rightK s m l = false then 1 else if bits .andNot .u32 ((fneed f.l : Nat) : Int) (m : Int) ≠ 0 then 11 else 0
def passC (s : Sch) (m : Nat) (f : Fis) (x : Con) : Bool := pk (f.l.map Fi.key) (s.coL m (x.k : Int))
def CellsR (s : Sch) (m : Nat) (f : Fis) (l : List Con) (w : World) (e : Ending) (w' : World) : Prop :=
  ∃ t : Ces, e = .returned (.tuple #[t.val, .int .i64 (cellsE s m f l)]) ∧ t.At w'.heap.size w' ∧ t.n ≤ t.c ∧ t.n ≤ 1000 ∧ (∀ x ∈ t.l, x.Lt) ∧ (cellsE s m f l ≠ 0 → t.con = []) ∧ (cellsE s m f l = 0 → t.con = l.filter (passC s m f)) ∧ Ext w w'
theorem CellsR.none_ {s : Sch} {m : Nat} {f : Fis} {l : List Con} {w w' : World} {e : Ending} {z : Int} (hz : cellsE s m f l = z) (h0 : z ≠ 0) (he : e = .returned (.tuple #[.slice none 0 0, .int .i64 z])) (hx : Ext w w') : CellsR s m f l w e w' :=
  ⟨⟨none, 0, 0, []⟩, by rw [he, hz], ⟨Reads.of_own (own_nil w' 0 0 4), (fun x hx => by cases hx), rfl, Nat.zero_le _⟩, Nat.le_refl _, Nat.zero_le _, (fun x hx => by cases hx), fun _ => rfl, fun h => absurd (hz.symm.trans h) h0, hx⟩
theorem fcells {s : Sch} {m : Nat} {f : Fis} {t : Ces} {w : World} (H : s.Here w) (hm : m < 4294967296) (hf : f.At w.heap.size w) (ht : t.At w.heap.size w) (hn : t.n ≤ 1000) (hL : ∀ x ∈ t.l, x.Lt) : Calls Tryz.prog 8 #[s.val, .int .u32 (m : Int), f.val, t.val] w (CellsR s m f t.con w) := by
 obtain ⟨A, n, c, l⟩ := t
 obtain rfl : l.length = n := ht.l
 have hn : l.length ≤ 1000 := hn
 have hr : Reads w w.heap.size 4 A l.length (l.flatMap Ce.vs) := ht.r
 show Calls Tryz.prog 8 #[s.val, .int .u32 (m : Int), f.val, .slice A l.length c] w (CellsR s m f (l.map Ce.con) w)
 refine enter Tryz.func8 rfl (by kernel_rfl) ?_
 refine J.seq ?_
 refine J.region ?_
 refine L.boxA (l := [_, _, _, _]) rfl rfl ?_
 intro b1 w1 hb1 hs1 hk1 he1
 have z1 := he1.le
 have c2 := fcheck (f := f) (H.ext he1) ((hf.ext he1).more z1)
 iterate 2 refine L.va rfl (X.assign (by conv => lhs; whnf)) ?_
 refine L.nil ?_
 iterate 2 refine J.seq ?_
 refine J.region ?_
 refine L.va rfl ((by first | exact X.loadAgg rfl (range_l hk1) Tryz.underlying26 rfl (by kernel_rfl) | exact X.loadAgg rfl (range_blk hk1) Tryz.underlying26 rfl (by kernel_rfl))) ?_
 refine L.va rfl (X.move (by conv => lhs; whnf)) ?_
 refine L.call rfl en_15 rfl (c2) ?_
 rintro e w2 ⟨rfl, he2⟩
 refine ⟨_, rfl, ?_⟩
 have he2 : Ext w1 w2 := he2
 have he02 := he1.trans he2
 have z2 := he02.le
 have hk1 := hk1.ext he2
 refine L.va rfl (X.assign (by conv => lhs; whnf)) ?_
 refine L.nil ?_
 refine J.seq ?_
 refine J.region ?_
 refine L.va rfl (X.move (by conv => lhs; whnf)) ?_
 refine L.va rfl (X.neq rfl rfl) ?_
 refine L.nil ?_
 refine J.ndec rfl (fun h1 => ?_) (fun h1 => ?_)
 ·refine J.seq ?_
  refine J.region ?_
  refine L.va rfl (X.move (by conv => lhs; whnf)) ?_
  iterate 2 refine L.va rfl (X.assign (by conv => lhs; whnf)) ?_
  refine L.nil ?_
  refine J.ret ?_
  refine thn_ret <| ?_
  refine fin2 ?_
  exact CellsR.none_ (if_pos h1) h1 rfl he02
 ·have c3 := cright (s := s) (m := m) (t := Ces.mk A l.length c l) (N := w.heap.size) (H.ext he02) hm z2 (ht.ext he02) hn hL
  refine J.skip ?_
  iterate 2 refine J.seq ?_
  refine J.region ?_
  refine L.va rfl ((by first | exact X.loadAgg rfl (range_l hk1) Tryz.underlying26 rfl (by kernel_rfl) | exact X.loadAgg rfl (range_blk hk1) Tryz.underlying26 rfl (by kernel_rfl))) ?_
  iterate 2 refine L.va rfl (X.move (by conv => lhs; whnf)) ?_
  refine L.call rfl en_16 rfl (c3) ?_
  rintro e w3 ⟨rfl, he3⟩
  refine ⟨_, rfl, ?_⟩
  have he3 : Ext w2 w3 := he3
  have he03 := he02.trans he3
  have z3 := he03.le
  have hk1 := hk1.ext he3
  refine L.va rfl (X.not rfl) ?_
  refine L.nil ?_
  cases hrk : rightK s m (l.map Ce.con)
  ·refine J.iteT rfl ?_
   refine J.seq ?_
   refine J.region ?_
   iterate 2 refine L.va rfl (X.assign (by conv => lhs; whnf)) ?_
   refine L.nil ?_
   refine J.ret ?_
   refine thn_ret <| ?_
   refine fin2 ?_
   exact CellsR.none_ (by unfold cellsE; rw [if_neg (fun k => k h1), if_pos hrk]) (by decide) rfl he03
  ·refine J.iteF rfl ?_
   have c4 := fneed_ f w3 ((hf.ext he03).more z3)
   refine J.skip ?_
   iterate 2 refine J.seq ?_
   refine J.region ?_
   refine L.va rfl (X.move (by conv => lhs; whnf)) ?_
   refine L.call rfl en_17 rfl (c4) ?_
   rintro e w4 ⟨rfl, he4⟩
   refine ⟨_, rfl, ?_⟩
   have he4 : Ext w3 w4 := he4
   have he04 := he03.trans he4
   have hk1 := hk1.ext he4
   refine L.va rfl (X.move (by conv => lhs; whnf)) ?_
   refine L.va rfl (X.andNot rfl rfl) ?_
   refine L.va rfl (X.neq rfl rfl) ?_
   refine L.nil ?_
   refine J.ndec rfl (fun h2 => ?_) (fun h2 => ?_)
   ·refine J.seq ?_
    refine J.region ?_
    iterate 2 refine L.va rfl (X.assign (by conv => lhs; whnf)) ?_
    refine L.nil ?_
    refine J.ret ?_
    refine thn_ret <| ?_
    refine fin2 ?_
    exact CellsR.none_ (by unfold cellsE; rw [if_neg (fun k => k h1), if_neg (by simp [hrk]), if_pos h2]) (by decide) rfl he04
   ·have hE : cellsE s m f (l.map Ce.con) = 0 := by unfold cellsE; rw [if_neg (fun k => k h1), if_neg (by simp [hrk]), if_neg (fun h => h h2)]
    have Rl := ris_of (rightK_ris hrk)
    refine J.skip ?_
    refine J.seq ?_
    refine J.region ?_
    refine L.va rfl (X.assign (by conv => lhs; whnf)) ?_
    refine L.nil ?_
    iterate 2 refine J.seq ?_
    refine J.region ?_
    refine L.va rfl (X.move (by conv => lhs; whnf)) ?_
    refine L.va rfl (X.len rfl Tryz.underlying29) ?_
    refine L.va rfl (X.move (by conv => lhs; whnf)) ?_
    refine L.nil ?_
    refine J.block ?_
    refine J.loop (X := Nat × Option Addr × Nat × List Ce) [11, 13, 14, 15, 34, 35, 36, 37, 38, 39, 40, 41, 42, 43, 44, 45, 46, 47, 48, 49, 50, 51, 52, 53] (fun (i, B, d, o) => [(34, .int .i64 (i : Int)), (11, .slice B o.length d)]) (fun (i, B, d, o) w' => i ≤ l.length ∧ o.length ≤ i ∧ o = (l.take i).filter (fun x => passC s m f x.con) ∧ w'.ownsRow w4.heap.size 52 4 (.slice B o.length d) o.length (o.flatMap Ce.vs) ∧ Ext w4 w') (fun (i, _) => l.length - i) ((0, none, 0, [])) (At2 (by first | rfl | exact at_int rfl (by omega) | exact at_slice rfl (by omega) | exact at_int rfl (by simp)) (by first | rfl | exact at_int rfl (by omega) | exact at_slice rfl (by omega) | exact at_int rfl (by simp))) ?_ ?_
    ·exact ⟨Nat.zero_le _, Nat.le_refl _, rfl, own_nil _ _ _ _, Ext.refl _⟩
    ·rintro ⟨i, B, d, o⟩ g w5 ⟨hi, hoi, ho, ho5, he45⟩
     have he5 := he04.trans he45
     have hk5 := hk1.ext he45
     have z5 := he5.le
     refine J.seq ?_
     refine J.region ?_
     refine L.va rfl (X.lss rfl rfl) ?_
     refine L.nil ?_
     refine J.seq ?_
     refine J.dec rfl (fun hlt => ?_) (fun hlt => ?_)
     ·have hin : i < l.length := by omega
      have hr5 := hr.ext he5
      have hA := hr5.some_ (by omega)
      have gy := gtX hin
      have my := memD (l := l) (i := i) (d := ce0) hin
      have et := take_one hin
      obtain ⟨y, hy⟩ : ∃ y, y = l.getD i ce0 := ⟨_, rfl⟩
      rw [← hy] at gy my et
      have yk : y.k < 18446744073709551616 := (ht.h y my).k
      refine J.skip ?_
      refine J.seq ?_
      refine J.block ?_
      refine J.seq ?_
      refine J.region ?_
      refine L.va rfl ((by first | exact X.indexAddrn rfl rfl Tryz.underlying29 sz_52 (by first | exact Option.some_ne_none _ | exact hA) (by omega) | exact X.indexAddr rfl rfl Tryz.underlying29 sz_52 (by first | exact Option.some_ne_none _ | exact hA) (by omega))) ?_
      refine L.va rfl (X.loadRow (cs := y.vs) rfl hr5 (fun r u hu => flat_row ce_len gy r u hu) (Nat.zero_lt_succ _) Tryz.underlying52 rfl (by kernel_rfl)) ?_
      refine L.alloc rfl zr_52 ?_
      intro b6 w6 hb6 hs6 hk6 he6
      refine L.storeAgg (vs := [_, _, _, _]) rfl rfl rfl rfl sz_52 (hk6) rfl ?_
      intro w7 hk7 hg7 hs7
      have he57 : Ext w5 w7 := he6.grw hg7 (by intro g hg; injection hg with hg; omega)
      have hk7 : Blk w7 b6 52 y.vs.toArray := hk7
      have hk17 := hk5.ext he57
      have he07 := he5.trans he57
      have z7 := he07.le
      have c8 := (H.ext he07).codes hm (y.k : Int) (by omega)
      refine L.nil ?_
      refine J.seq ?_
      refine J.region ?_
      refine L.va rfl (X.loadAgg rfl (range_blk hk17) Tryz.underlying26 rfl (by kernel_rfl)) ?_
      refine L.va rfl (X.move (by conv => lhs; whnf)) ?_
      refine L.va rfl (X.fieldAddr rfl Tryz.underlying52 rfl sz_48 (by decide)) ?_
      refine L.va rfl (X.load rfl sc_48 (by first | exact Ld.blk hk7 rfl)) ?_
      refine L.call rfl en_18 rfl (c8) ?_
      rintro e w8 ⟨A8, c8', rfl, ho8, he8⟩
      refine ⟨_, rfl, ?_⟩
      have he8 : Ext w7 w8 := he8
      have he08 := he07.trans he8
      have z8 := he08.le
      have hk8 := hk7.ext he8
      have hcl : (s.coL m (y.k : Int)).length ≤ maxLen := Nat.le_trans (own_bd ho8).1 (own_bd ho8).2
      have c9 := pass_ (f := f) (c := c8') (w := w8) ((hf.ext he08).more z8) (Reads.of_own ho8) hcl
      refine L.va rfl (X.move (by conv => lhs; whnf)) ?_
      iterate 2 refine L.va rfl (X.extract rfl rfl) ?_
      iterate 2 refine L.va rfl (X.assign (by conv => lhs; whnf)) ?_
      refine L.nil ?_
      refine J.seq ?_
      refine J.region ?_
      iterate 2 refine L.va rfl (X.move (by conv => lhs; whnf)) ?_
      refine L.call rfl en_19 rfl (c9) ?_
      rintro e w9 ⟨rfl, he9⟩
      refine ⟨_, rfl, ?_⟩
      have he9 : Ext w8 w9 := he9
      have he09 := he08.trans he9
      have he59 := (he57.trans he8).trans he9
      have hk9 := hk8.ext he9
      have ho9 := ho5.ext he59
      cases hp : pk (f.l.map Fi.key) (s.coL m (y.k : Int))
      ·refine L.nil ?_
       refine J.iteF rfl ?_
       refine J.skip ?_
       refine J.region ?_
       refine L.va rfl (X.add rfl rfl (by omega)) ?_
       refine L.va rfl (X.move (by conv => lhs; whnf)) ?_
       refine L.nil ?_
       refine ⟨(i + 1, B, d, o), At2 (by first | rfl | exact at_int rfl (by omega) | exact at_slice rfl (by omega) | exact at_int rfl (by simp)) (by first | rfl | exact at_int rfl (by omega) | exact at_slice rfl (by omega) | exact at_int rfl (by simp)), (by (iterate 19 refine Agr.lk rfl ?_); exact Agr.lk rfl (Agr.hav rfl Agr.rfl')), ?_⟩
       refine ⟨⟨by omega, by omega, ?_, ho9, he45.trans he59⟩, by show l.length - (i + 1) < l.length - i; omega⟩
       rw [et, List.filter_append, ← ho]
       have : passC s m f y.con = false := hp
       simp [this]
      ·skip
       refine L.nil ?_
       refine J.iteT rfl ?_
       refine J.region ?_
       refine L.va rfl (X.move (by conv => lhs; whnf)) ?_
       refine L.va rfl (X.loadAgg rfl (range_l hk9) Tryz.underlying52 rfl (by kernel_rfl)) ?_
       refine L.bslice1 (l := [_, _, _, _]) rfl rfl rfl Tryz.underlying29 sz_52 zr_52 rfl ?_
       intro b10 w10 hb10 hs10 hk10 he10
       have ho10 := ho9.ext he10
       have he010 := he09.trans he10
       have z10 := he010.le
       have z410 := ((he45.trans he59).trans he10).le
       refine L.appendV (q := o.length + 1) (ys := ((o ++ [y]).flatMap Ce.vs)) rfl rfl rfl Tryz.underlying29 el_52 (ho10) ((blk_readsN (sz := 4) (q := 1) (l := y.vs) hk10 hk10.lt rfl)) (by first | rfl | exact strs_ones _ | assumption) (by omega) (by simp) (by unfold maxLen; omega) (by omega) ?_
       intro A11 c11 w11 ho11 hg11 hb11 hor11
       have he411 := ((he45.trans he59).trans he10).grw hg11 (fun g hg => (ho10.lt g hg).1)
       have eo : (o ++ [y]).length = o.length + 1 := by rw [List.length_append]; rfl
       refine L.va rfl (X.assign (by conv => lhs; whnf)) ?_
       refine L.nil ?_
       refine J.region ?_
       refine L.va rfl (X.add rfl rfl (by omega)) ?_
       refine L.va rfl (X.move (by conv => lhs; whnf)) ?_
       refine L.nil ?_
       refine ⟨(i + 1, A11, c11, o ++ [y]), At2 (rfl) (at_slice rfl eo.symm), (by (iterate 24 refine Agr.lk rfl ?_); exact Agr.lk rfl (Agr.hav rfl Agr.rfl')), ?_⟩
       refine ⟨⟨by omega, by rw [eo]; omega, ?_, by rw [eo]; exact ho11, he411⟩, by show l.length - (i + 1) < l.length - i; omega⟩
       rw [et, List.filter_append, ← ho]
       have : passC s m f y.con = true := hp
       simp [this]
     ·obtain rfl : i = l.length := by omega
      rw [List.take_length] at ho
      have ro : RisC o := by rw [ho]; exact Rl.sublist List.filter_sublist
      have mo : ∀ y ∈ o, y ∈ l := fun y hy => by rw [ho] at hy; exact (List.mem_filter.1 hy).1
      have c7 := cmerge ⟨B, o.length, d, o⟩ w5 ⟨Reads.of_own ho5, fun y hy => (((ht.h y (mo y hy)).ext he5).more z5), rfl, by show o.length ≤ maxLen; unfold maxLen; omega⟩ (by show o.length ≤ 1000; omega) (own_le' ho5) (rise_of ro) (fun y hy => hL y (mo y hy))
      refine J.exit ?_
      refine J.seq ?_
      refine J.region ?_
      refine L.va rfl (X.move (by conv => lhs; whnf)) ?_
      refine L.call rfl en_20 rfl (c7) ?_
      rintro e w6 ⟨t, rfl, hcon, hat, htc, htL, he6⟩
      refine ⟨_, rfl, ?_⟩
      iterate 2 refine L.va rfl (X.extract rfl rfl) ?_
      iterate 2 refine L.va rfl (X.assign (by conv => lhs; whnf)) ?_
      refine L.nil ?_
      refine J.ret ?_
      refine fin2 ?_
      refine ⟨t, ?_, hat, htc, ?_, htL, fun h => absurd hE h, fun _ => ?_, he5.trans he6⟩
      ·rw [hE]
       rfl
      ·have e1 := congrArg List.length hcon
       have e2 := hat.l
       have e3 : t.l.length = o.length := by simpa [Ces.con] using e1
       omega
      ·rw [hcon]
       show o.map Ce.con = (l.map Ce.con).filter (passC s m f)
       rw [ho, List.filter_map]
       rfl
end Go.Proofs.YtpomklkfedpkfaaGreat
namespace Go.Proofs.YtpomklkfedpkfaaGreat
set_option maxRecDepth 100000
open Go.RowKit H
set_option linter.unusedVariables false
namespace Sch
section
variable {s : Sch} {a b : Nat} {k : Int}
end
theorem Here.rcodes {s : Sch} {w : World} (h : s.Here w) (hc : s.code = 0) {m : Nat} (hm : m < 4294967296) (k : Int) (hk : 0 ≤ k ∧ k ≤ 18446744073709551615) :
  Calls Tryz.prog 26 #[s.val, .int .u32 (m : Int), .int .u64 k] w fun e w' => ∃ A c, e = .returned (.slice A s.nd c) ∧ w'.ownsRow w.heap.size 3 1 (.slice A s.nd c) s.nd (nums .i64 (coK s.ds m s.nd k)) ∧ Ext w w' := by
 have hle := h.hle
 obtain ⟨g0, g1⟩ := good hc
 have hl := h.len
 refine enter Tryz.func26 rfl (by kernel_rfl) ?_
 refine J.seq ?_
 refine J.region ?_
 refine L.boxA (l := [_, _, _, _]) rfl rfl ?_
 intro b1 w1 hb1 hs1 hk1 he1
 refine L.va rfl (X.assign (by conv => lhs; whnf)) ?_
 refine L.nil ?_
 refine J.seq ?_
 refine J.region ?_
 refine L.va rfl (X.assign (by conv => lhs; whnf)) ?_
 refine L.nil ?_
 iterate 2 refine J.seq ?_
 refine J.region ?_
 refine L.va rfl (X.assign (by conv => lhs; whnf)) ?_
 refine L.nil ?_
 refine J.block ?_
 refine J.loop (X := Nat × Option Addr × Nat) [7, 8, 9, 10, 11, 12, 13, 14, 15, 16, 17, 18, 19, 20, 21, 22, 23, 24, 25, 26, 27, 28, 29, 30, 31, 32, 33, 34, 35, 36, 37, 38, 39, 40, 41, 42, 43, 44, 45, 46, 47, 48, 49, 50, 51, 52, 53, 54, 55, 56, 57, 58, 59, 60] (fun x => [(8, .int .i64 (x.1 : Int)), (7, .slice x.2.1 x.1 x.2.2)]) (fun x w' => x.1 ≤ s.nd ∧ w'.ownsRow w.heap.size 3 1 (.slice x.2.1 x.1 x.2.2) x.1 (nums .i64 ((coK s.ds m s.nd k).take x.1)) ∧ Blk w' b1 26 #[.slice s.Ad s.nd s.cd, .slice s.A1 s.n1 s.c1, .slice s.A2 s.n2 s.c2, .slice s.Av s.nv s.cv] ∧ Ext w w') (fun x => s.nd - x.1) ((0, none, 0)) (At2 (by first | rfl | exact at_int rfl (by omega) | exact at_slice rfl (by omega) | exact at_int rfl (by simp)) (by first | rfl | exact at_int rfl (by omega) | exact at_slice rfl (by omega) | exact at_int rfl (by simp))) ?_ ?_
 ·exact ⟨by dsimp only; omega, own_nilN _ _ _ _, hk1, he1⟩
 ·rintro ⟨i, A, c⟩ g w2 ⟨hi, ho2, hk2, he2⟩
  dsimp only at hi ho2
  have q1 : ((i, A, c) : Nat × Option Addr × Nat).1 = i := rfl
  have hd2 := h.hd.ext he2
  have hz2 := he2.le
  iterate 2 refine J.seq ?_
  refine J.region ?_
  refine L.va rfl (X.move (by conv => lhs; whnf)) ?_
  refine L.va rfl (X.fieldAddr rfl Tryz.underlying26 rfl sz_22 (by decide)) ?_
  refine L.va rfl (X.load rfl sc_22 (by first | exact Ld.blk hk2 rfl | exact Ld.rd hd2 (by omega))) ?_
  refine L.va rfl (X.len rfl Tryz.underlying22) ?_
  refine L.va rfl (X.lss rfl rfl) ?_
  refine L.nil ?_
  refine J.dec rfl (fun hlt => ?_) (fun hlt => ?_)
  ·have hil : i < s.nd := by dsimp only at hlt; omega
   have hnb := own_blk_ne ho2 hk2 (by decide)
   have htk : (coK s.ds m s.nd k).take (i + 1) = (coK s.ds m s.nd k).take i ++ [cdK s.ds m s.nd k i] := by
    rw [List.take_add_one]
    congr 1
    have := coK_at (ds := s.ds) (m := m) (k := k) hil
    rw [List.getD] at this
    have hlt2 : i < (coK s.ds m s.nd k).length := by rw [coK_length]; exact hil
    rw [List.getElem?_eq_getElem hlt2] at this ⊢
    simpa using this
   refine J.skip ?_
   refine J.seq ?_
   refine J.block ?_
   iterate 2 refine J.seq ?_
   refine J.region ?_
   iterate 2 refine L.va rfl (X.move (by conv => lhs; whnf)) ?_
   refine L.call rfl en_42 rfl (rin_any m i _ hm (by omega)) ?_
   rintro e _ ⟨rfl, rfl⟩
   refine ⟨_, rfl, ?_⟩
   cases ht : m.testBit i
   ·have hcd : cdK s.ds m s.nd k i = -1 := by rw [cdK, ht]; rfl
    rw [hcd] at htk
    refine L.va rfl (X.not rfl) ?_
    refine L.nil ?_
    refine J.iteT rfl ?_
    refine J.seq ?_
    refine J.region ?_
    refine L.va rfl (X.move (by conv => lhs; whnf)) ?_
    refine L.bslice (vs := [_]) rfl (Evs.cons (by conv => lhs; whnf) Evs.nil) rfl rfl rfl rfl Tryz.underlying44 sz_3 zr_3 (by decide) ?_
    intro b3 w3 hb3 hs3 hk3 he3
    have hz3 := he3.le
    refine L.appendQ (q := i + 1) (ys := ((coK s.ds m s.nd k).take i ++ [-1])) rfl rfl rfl Tryz.underlying44 el_3 (ho2.ext he3) ((blk_reads (q := 1) (l := nums .i64 [-1]) hk3 (by omega : b3 < w3.heap.size) rfl)) (by omega) (by simp) (by unfold maxLen; omega) (by omega) ?_
    intro A4 c4 w4 ho4 hg4 hb4 hor4
    rw [← htk] at ho4
    have he4 : Ext w w4 := (he2.trans he3).low hb4 (Nat.le_refl _)
    have hk4 := (hk2.ext he3).grown hg4 (fun e => hnb e.symm)
    refine L.va rfl (X.assign (by conv => lhs; whnf)) ?_
    refine L.nil ?_
    refine J.exit ?_
    refine J.region ?_
    refine L.va rfl (X.move (by conv => lhs; whnf)) ?_
    refine L.va rfl (X.add rfl rfl (by omega)) ?_
    refine L.va rfl (X.assign (by conv => lhs; whnf)) ?_
    refine L.nil ?_
    refine ⟨(i + 1, A4, c4), At2 (by first | rfl | exact at_int rfl (by omega) | exact at_slice rfl (by omega) | exact at_int rfl (by simp)) (by first | rfl | exact at_int rfl (by omega) | exact at_slice rfl (by omega) | exact at_int rfl (by simp)), (by (iterate 16 refine Agr.lk rfl ?_); exact Agr.lk rfl (Agr.hav rfl Agr.rfl')), ?_⟩
    exact ⟨⟨by dsimp only; omega, ho4, hk4, he4⟩, by dsimp only; omega⟩
   ·have hsD : (s.ds.getD i d0).2 = szD s.ds i := rfl
    have hbd : 1 ≤ szD s.ds i ∧ szD s.ds i ≤ 4096 := szD_bd g1 hil
    refine L.va rfl (X.not rfl) ?_
    refine L.nil ?_
    refine J.iteF rfl ?_
    refine J.skip ?_
    refine J.seq ?_
    refine J.region ?_
    refine L.va rfl (X.assign (by conv => lhs; whnf)) ?_
    refine L.nil ?_
    iterate 2 refine J.seq ?_
    refine J.region ?_
    refine L.va rfl (X.move (by conv => lhs; whnf)) ?_
    refine L.va rfl (X.add rfl rfl (by omega)) ?_
    refine L.va rfl (X.assign (by conv => lhs; whnf)) ?_
    refine L.nil ?_
    refine J.block ?_
    refine J.loop (X := Nat × Int) [9, 10, 27, 28, 29, 30, 31, 32, 33, 34, 35, 36, 37, 38, 39, 40, 41, 42, 43, 44, 45] (fun x => [(10, .int .i64 ((i + 1 + x.1 : Nat) : Int)), (9, .int .u64 x.2)]) (fun x w' => w' = w2 ∧ i + 1 + x.1 ≤ s.nd ∧ x.2 = blw s.ds m (i + 1) x.1) (fun x => s.nd - x.1) ((0, 1)) (At2 (by first | rfl | exact at_int rfl (by omega) | exact at_slice rfl (by omega) | exact at_int rfl (by simp)) (by first | rfl | exact at_int rfl (by omega) | exact at_slice rfl (by omega) | exact at_int rfl (by simp))) ?_ ?_
    ·exact ⟨rfl, by dsimp only; omega, rfl⟩
    ·rintro ⟨d, z⟩ g3 w3 ⟨rfl, hd, hz⟩
     dsimp only at hd hz
     have q3 : ((d, z) : Nat × Int).1 = d := rfl
     have q4 : ((d, z) : Nat × Int).2 = z := rfl
     iterate 2 refine J.seq ?_
     refine J.region ?_
     refine L.va rfl (X.move (by conv => lhs; whnf)) ?_
     refine L.va rfl (X.fieldAddr rfl Tryz.underlying26 rfl sz_22 (by decide)) ?_
     refine L.va rfl (X.load rfl sc_22 (by first | exact Ld.blk hk2 rfl | exact Ld.rd hd2 (by omega))) ?_
     refine L.va rfl (X.len rfl Tryz.underlying22) ?_
     refine L.va rfl (X.lss rfl rfl) ?_
     refine L.nil ?_
     refine J.dec rfl (fun hlt3 => ?_) (fun hlt3 => ?_)
     ·have hdl : i + 1 + d < s.nd := by dsimp only at hlt3; omega
      have hbd3 : 1 ≤ szD s.ds (i + 1 + d) ∧ szD s.ds (i + 1 + d) ≤ 4096 := szD_bd g1 hdl
      have hp0 := blw_pos (m := m) g1 (i + 1) d (by omega)
      have hp1 := blw_pos (m := m) g1 (i + 1) (d + 1) (by omega)
      have hp2 := blw_le (m := m) g1 (i + 1) (d + 1) (by omega)
      have hnx : blw s.ds m (i + 1) (d + 1) = if m.testBit (i + 1 + d) then blw s.ds m (i + 1) d * szD s.ds (i + 1 + d) else blw s.ds m (i + 1) d := rfl
      rw [← hz] at hnx
      refine J.skip ?_
      refine J.seq ?_
      refine J.block ?_
      refine J.seq ?_
      refine J.region ?_
      iterate 2 refine L.va rfl (X.move (by conv => lhs; whnf)) ?_
      refine L.call rfl en_42 rfl (rin_any m (i + 1 + d) _ hm (by omega)) ?_
      rintro e _ ⟨rfl, rfl⟩
      refine ⟨_, rfl, ?_⟩
      cases ht3 : m.testBit (i + 1 + d)
      ·rw [ht3] at hnx
       refine L.nil ?_
       refine J.iteF rfl ?_
       refine J.skip ?_
       refine J.region ?_
       refine L.va rfl (X.move (by conv => lhs; whnf)) ?_
       refine L.va rfl (X.add rfl rfl (by omega)) ?_
       refine L.va rfl (X.assign (by conv => lhs; whnf)) ?_
       refine L.nil ?_
       refine ⟨(d + 1, z), At2 (by first | rfl | exact at_int rfl (by omega) | exact at_slice rfl (by omega) | exact at_int rfl (by simp)) (by first | rfl | exact at_int rfl (by omega) | exact at_slice rfl (by omega) | exact at_int rfl (by simp)), (by (iterate 11 refine Agr.lk rfl ?_); exact Agr.lk rfl (Agr.hav rfl Agr.rfl')), ?_⟩
       exact ⟨⟨rfl, by dsimp only; omega, hnx.symm⟩, by dsimp only; omega⟩
      ·rw [ht3, if_pos rfl] at hnx
       rw [hnx] at hp1 hp2
       refine L.nil ?_
       refine J.iteT rfl ?_
       have hld := Ld.dimN hd2 hdl
       have hsz : (s.ds.getD (i + 1 + d) d0).2 = szD s.ds (i + 1 + d) := rfl
       rw [hsz] at hld
       generalize szD s.ds (i + 1 + d) = dv at *
       have m1 : 1 ≤ ((d, z) : Nat × Int).2 * dv ∧ ((d, z) : Nat × Int).2 * dv ≤ 1099511627776 := ⟨hp1, hp2⟩
       refine J.region ?_
       refine L.va rfl (X.move (by conv => lhs; whnf)) ?_
       refine L.va rfl (X.fieldAddr rfl Tryz.underlying26 rfl sz_22 (by decide)) ?_
       refine L.va rfl (X.load rfl sc_22 (by first | exact Ld.blk hk2 rfl | exact Ld.rd hd2 (by omega))) ?_
       refine L.va rfl (X.move (by conv => lhs; whnf)) ?_
       refine L.va rfl ((by first | exact X.indexAddrn rfl rfl Tryz.underlying22 sz_54 (by first | exact Option.some_ne_none _ | exact hd2.some_ (by omega)) (by omega) | exact X.indexAddr rfl rfl Tryz.underlying22 sz_54 (by first | exact Option.some_ne_none _ | exact hd2.some_ (by omega)) (by omega))) ?_
       refine L.va rfl (X.fieldP rfl Tryz.underlying54 rfl sz_3 (by decide) (by first | exact Option.some_ne_none _ | exact hd2.some_ (by omega))) ?_
       refine L.va rfl (X.load rfl sc_3 hld) ?_
       refine L.va rfl ((by first | exact X.convU rfl is_3 Tryz.underlying48 (by omega) | exact X.convw rfl is_3 Tryz.underlying48)) ?_
       refine L.va rfl (X.mulU rfl rfl (by omega)) ?_
       refine L.va rfl (X.assign (by conv => lhs; whnf)) ?_
       refine L.nil ?_
       refine J.region ?_
       refine L.va rfl (X.move (by conv => lhs; whnf)) ?_
       refine L.va rfl (X.add rfl rfl (by omega)) ?_
       refine L.va rfl (X.assign (by conv => lhs; whnf)) ?_
       refine L.nil ?_
       refine ⟨(d + 1, z * dv), At2 (by first | rfl | exact at_int rfl (by omega) | exact at_slice rfl (by omega) | exact at_int rfl (by simp)) (by first | rfl | exact at_int rfl (by omega) | exact at_slice rfl (by omega) | exact at_int rfl (by simp)), (by (iterate 21 refine Agr.lk rfl ?_); exact Agr.lk rfl (Agr.hav rfl Agr.rfl')), ?_⟩
       exact ⟨⟨rfl, by dsimp only; omega, hnx.symm⟩, by dsimp only; omega⟩
     ·have hdn : d = s.nd - (i + 1) := by dsimp only at hlt3; omega
      have hp0 := blw_pos (m := m) g1 (i + 1) d (by omega)
      have hcd : cdK s.ds m s.nd k i = k / z % szD s.ds i := by rw [cdK, if_pos ht, hz, ← hdn]
      rw [← hz] at hp0
      have hdi := div_le' hk.1 (show 0 < z by omega)
      have hr0 : 0 ≤ k / z % szD s.ds i ∧ k / z % szD s.ds i < szD s.ds i := ⟨Int.emod_nonneg _ (by omega), Int.emod_lt_of_pos _ (by omega)⟩
      have hAn : s.Ad ≠ none := hd2.some_ (by omega)
      have hdi' : 0 ≤ k / ((d, z) : Nat × Int).2 ∧ k / ((d, z) : Nat × Int).2 ≤ k := hdi
      have hr0' : 0 ≤ k / ((d, z) : Nat × Int).2 % szD s.ds i ∧ k / ((d, z) : Nat × Int).2 % szD s.ds i < szD s.ds i := hr0
      have hwr' : k / ((d, z) : Nat × Int).2 % szD s.ds i = cdK s.ds m s.nd k i := hcd.symm
      have hnb' : some b1 ≠ Value.ownBlock (.slice A i c) := fun e => hnb e.symm
      refine J.exit ?_
      refine J.draw (ℓ := 1000000) (S := (fun w' => Below w.heap.size w3 w' ∧ Blk w' b1 26 #[.slice s.Ad s.nd s.cd, .slice s.A1 s.n1 s.c1, .slice s.A2 s.n2 s.c2, .slice s.Av s.nv s.cv])) mixed (fun w4 hSE hS_h => ?_)
      have hS : ((fun w' => Below w.heap.size w3 w' ∧ Blk w' b1 26 #[.slice s.Ad s.nd s.cd, .slice s.A1 s.n1 s.c1, .slice s.A2 s.n2 s.c2, .slice s.Av s.nv s.cv])) w4 := ⟨hSE.mono hz2, hk2.ext hSE⟩
      refine D.va 0 rfl (by kernel_rfl) (fun _ _ _ h => h) rfl (fun w' hw => X.move (by conv => lhs; whnf)) hS ?_
      refine D.va 1 rfl (by kernel_rfl) (fun _ _ _ h => h) rfl (fun w' hw => X.move (by conv => lhs; whnf)) hS ?_
      refine D.va 2 rfl (by kernel_rfl) (fun _ _ _ h => h) rfl (fun w' hw => X.move (by conv => lhs; whnf)) hS ?_
      refine D.va 3 rfl (by kernel_rfl) (fun _ _ _ h => h) rfl (fun w' hw => X.quoU rfl rfl (by omega)) hS ?_
      refine D.va 4 rfl (by kernel_rfl) (fun _ _ _ h => h) rfl (fun w' hw => X.fieldAddr rfl Tryz.underlying26 rfl sz_22 (by decide)) hS ?_
      refine D.va 5 rfl (by kernel_rfl) (fun _ _ _ h => h) rfl (fun w' hw => X.load rfl sc_22 (Ld.blk hw.2 rfl)) hS ?_
      refine D.va 6 rfl (by kernel_rfl) (fun _ _ _ h => h) rfl (fun w' hw => X.move (by conv => lhs; whnf)) hS ?_
      refine D.va 7 rfl (by kernel_rfl) (fun _ _ _ h => h) rfl (fun w' hw => (by first | exact X.indexAddrn rfl rfl Tryz.underlying22 sz_54 (by first | exact Option.some_ne_none _ | exact hAn) (by omega) | exact X.indexAddr rfl rfl Tryz.underlying22 sz_54 (by first | exact Option.some_ne_none _ | exact hAn) (by omega))) hS ?_
      refine D.va 8 rfl (by kernel_rfl) (fun _ _ _ h => h) rfl (fun w' hw => X.fieldP rfl Tryz.underlying54 rfl sz_3 (by decide) (by first | exact Option.some_ne_none _ | exact hAn)) hS ?_
      refine D.va 9 rfl (by kernel_rfl) (fun _ _ _ h => h) rfl (fun w' hw => X.load rfl sc_3 (show Ld w' (pA s.Ad (i * 2 + 1)) (.int .i64 (szD s.ds i)) from Ld.dimN (hd2.low hw.1 (Nat.le_refl _)) hil)) hS ?_
      refine D.va 10 rfl (by kernel_rfl) (fun _ _ _ h => h) rfl (fun w' hw => (by first | exact X.convU rfl is_3 Tryz.underlying48 (by omega) | exact X.convw rfl is_3 Tryz.underlying48)) hS ?_
      refine D.va 11 rfl (by kernel_rfl) (fun _ _ _ h => h) rfl (fun w' hw => X.rem rfl rfl (by omega)) hS ?_
      refine D.va 12 rfl (by kernel_rfl) (fun _ _ _ h => h) rfl (fun w' hw => (by first | exact X.convI rfl is_48 Tryz.underlying3 (by omega) | exact X.convw rfl is_48 Tryz.underlying3)) hS ?_
      rw [hwr']
      refine D.one 13 (by kernel_rfl) rfl ?_
      refine L.bslice (vs := [_]) rfl (Evs.cons (by conv => lhs; whnf) Evs.nil) rfl rfl rfl rfl Tryz.underlying44 sz_3 zr_3 (by decide) ?_
      intro b5 w5 hb5 hs5 hk5 he5
      have hS1 := And.intro (Below.trans hS.1 (he5.mono (Nat.le_trans hz2 (Below.size hS.1)))) (hS.2.ext he5)
      refine L.nil ?_
      refine ⟨fun _ => hS1, ?_⟩
      have hz4 := Below.size hS1.1
      refine D.one 14 (by kernel_rfl) rfl ?_
      refine L.appendQ (q := i + 1) (ys := ((coK s.ds m s.nd k).take i ++ [cdK s.ds m s.nd k i])) rfl rfl rfl Tryz.underlying44 el_3 ((ho2.ext hSE).ext he5) ((blk_reads (q := 1) (l := nums .i64 [cdK s.ds m s.nd k i]) hk5 (by omega : b5 < w5.heap.size) rfl)) (by omega) (by simp) (by unfold maxLen; omega) (by omega) ?_
      intro A6 c6 w6 ho6 hg6 hb6 hor6
      have hS2 := And.intro (Below.trans hS1.1 hb6) (hS1.2.grown hg6 hnb')
      refine L.nil ?_
      refine ⟨fun _ => hS2, ?_⟩
      rw [← htk] at ho6
      have he6 : Ext w w6 := (he2.trans (hSE.trans he5)).low hb6 (Nat.le_refl _)
      refine D.va 15 rfl (by kernel_rfl) (fun _ _ _ h => h) rfl (fun w' hw => X.assign (by conv => lhs; whnf)) hS2 ?_
      refine D.done (by kernel_rfl) ?_
      refine J.region ?_
      refine L.va rfl (X.move (by conv => lhs; whnf)) ?_
      refine L.va rfl (X.add rfl rfl (by omega)) ?_
      refine L.va rfl (X.assign (by conv => lhs; whnf)) ?_
      refine L.nil ?_
      refine ⟨(i + 1, A6, c6), At2 (by first | rfl | exact at_int rfl (by omega) | exact at_slice rfl (by omega) | exact at_int rfl (by simp)) (by first | rfl | exact at_int rfl (by omega) | exact at_slice rfl (by omega) | exact at_int rfl (by simp)), (by (iterate 24 refine Agr.lk rfl ?_); refine Agr.lk rfl ?_; refine Agr.hav rfl ?_; (iterate 13 refine Agr.lk rfl ?_); exact Agr.lk rfl (Agr.hav rfl Agr.rfl')), ?_⟩
      exact ⟨⟨by dsimp only; omega, ho6, hS2.2, he6⟩, by dsimp only; omega⟩
  ·obtain rfl : i = s.nd := by dsimp only at hlt; omega
   rw [List.take_of_length_le (by rw [coK_length]; exact Nat.le_refl _)] at ho2
   refine J.exit ?_
   refine J.seq ?_
   refine J.region ?_
   refine L.va rfl (X.move (by conv => lhs; whnf)) ?_
   refine L.va rfl (X.assign (by conv => lhs; whnf)) ?_
   refine L.nil ?_
   refine J.ret ?_
   refine fin1 ?_
   exact ⟨A, c, rfl, ho2, he2⟩
end Sch
end Go.Proofs.YtpomklkfedpkfaaGreat
namespace Go.Proofs.YtpomklkfedpkfaaGreat
set_option maxRecDepth 100000
open Go.RowKit H
open Dfp
open Nrm (pk)
open Mk (sb)
set_option linter.unusedVariables false
theorem rright15 {s : Sch} {m : Nat} {t : Ces} {w : World} {N : Nat} (H : s.Here w) (hm : m < 4294967296) (hN : N ≤ w.heap.size) (ht : t.At N w) (hn : t.n ≤ 1000) (hL : ∀ x ∈ t.l, x.Lt) : Calls Tryz.prog 22 #[s.val, .int .u32 (m : Int), t.val] w fun e w' => e = .returned (.bool (rightK s m t.con)) ∧ Ext w w' := by
 obtain ⟨A, n, c, l⟩ := t
 obtain rfl : l.length = n := ht.l
 have hn : l.length ≤ 1000 := hn
 have hr : Reads w N 4 A l.length (l.flatMap Ce.vs) := ht.r
 show Calls Tryz.prog 22 #[s.val, .int .u32 (m : Int), .slice A l.length c] w fun e w' => e = .returned (.bool (rightK s m (l.map Ce.con))) ∧ Ext w w'
 have hle := H.hle
 have no : ∀ w' : World, rightK s m (l.map Ce.con) = false → Ext w w' → Ending.returned (.bool false) = .returned (.bool (rightK s m (l.map Ce.con))) ∧ Ext w w' := fun w' h he => ⟨by rw [h], he⟩
 have kbf : s.kb m = false → rightK s m (l.map Ce.con) = false := fun h => by unfold rightK; rw [h]; rfl
 refine enter Tryz.func22 rfl (by kernel_rfl) ?_
 refine J.seq ?_
 refine J.region ?_
 refine L.boxA (l := [_, _, _, _]) rfl rfl ?_
 intro b1 w1 hb1 hs1 hk1 he1
 have H1 := H.ext he1
 refine L.va rfl (X.assign (by conv => lhs; whnf)) ?_
 refine L.nil ?_
 iterate 2 refine J.seq ?_
 refine J.region ?_
 refine L.va rfl ((by first | exact X.loadAgg rfl (range_l hk1) Tryz.underlying26 rfl (by kernel_rfl) | exact X.loadAgg rfl (range_blk hk1) Tryz.underlying26 rfl (by kernel_rfl))) ?_
 refine L.call rfl en_38 rfl (H1.rcheck) ?_
 rintro e w2 ⟨rfl, he2⟩
 refine ⟨_, rfl, ?_⟩
 have he2 : Ext w1 w2 := he2
 have he02 := he1.trans he2
 have H2 := H1.ext he2
 have hk1 := hk1.ext he2
 refine L.va rfl (X.neq rfl rfl) ?_
 refine L.va rfl (X.move (by conv => lhs; whnf)) ?_
 rcases (show ¬ s.code = 0 ∨ (s.code = 0 ∧ ¬ (m : Int) ≤ s.F) ∨ (s.code = 0 ∧ (m : Int) ≤ s.F) by omega) with hc | ⟨hc, hF⟩ | ⟨hc, hF⟩
 ·refine L.caseNdecT (k := 11) rfl (by exact hc) ?_
  iterate 5 refine L.no rfl ?_
  refine L.va rfl (X.pickT rfl (by conv => lhs; whnf)) ?_
  refine L.va rfl (X.move (by conv => lhs; whnf)) ?_
  iterate 3 refine L.no rfl ?_
  refine L.va rfl (X.pickT rfl (by conv => lhs; whnf)) ?_
  refine L.nil ?_
  refine J.iteT rfl ?_
  refine J.seq ?_
  refine J.region ?_
  refine L.va rfl (X.assign (by conv => lhs; whnf)) ?_
  refine L.nil ?_
  refine J.ret ?_
  refine thn_ret <| ?_
  refine fin1 ?_
  exact no _ (kbf (decide_eq_false (fun h => hc h.1))) he02
 ·refine L.caseNdecF (k := 11) rfl (by exact hc) ?_
  refine L.va rfl (X.move (by conv => lhs; whnf)) ?_
  refine L.va rfl ((by first | exact X.loadAgg rfl (range_l hk1) Tryz.underlying26 rfl (by kernel_rfl) | exact X.loadAgg rfl (range_blk hk1) Tryz.underlying26 rfl (by kernel_rfl))) ?_
  refine L.call rfl en_39 rfl (H2.rfull hc) ?_
  rintro e w3 ⟨rfl, he3⟩
  refine ⟨_, rfl, ?_⟩
  have he3 : Ext w2 w3 := he3
  have H3 := H2.ext he3
  have hk1 := hk1.ext he3
  refine L.call rfl en_23 rfl ((Sch.Here.rsub hc hm)) ?_
  rintro e _ ⟨rfl, rfl⟩
  refine ⟨_, rfl, ?_⟩
  refine L.va rfl (X.not rfl) ?_
  refine L.va rfl (X.pickF rfl (by conv => lhs; whnf)) ?_
  refine L.va rfl (X.move (by conv => lhs; whnf)) ?_
  refine L.caseBT (k := 18) rfl (by (rw [decide_eq_false hF]; rfl)) ?_
  iterate 3 refine L.no rfl ?_
  refine L.va rfl (X.pickT rfl (by conv => lhs; whnf)) ?_
  refine L.nil ?_
  refine J.iteT rfl ?_
  refine J.seq ?_
  refine J.region ?_
  refine L.va rfl (X.assign (by conv => lhs; whnf)) ?_
  refine L.nil ?_
  refine J.ret ?_
  refine thn_ret <| ?_
  refine fin1 ?_
  exact no _ (kbf (decide_eq_false (fun h => hF h.2))) (he02.trans he3)
 ·have hkb : s.kb m = true := decide_eq_true ⟨hc, hF⟩
  refine L.caseNdecF (k := 11) rfl (by exact hc) ?_
  refine L.va rfl (X.move (by conv => lhs; whnf)) ?_
  refine L.va rfl ((by first | exact X.loadAgg rfl (range_l hk1) Tryz.underlying26 rfl (by kernel_rfl) | exact X.loadAgg rfl (range_blk hk1) Tryz.underlying26 rfl (by kernel_rfl))) ?_
  refine L.call rfl en_39 rfl (H2.rfull hc) ?_
  rintro e w3 ⟨rfl, he3⟩
  refine ⟨_, rfl, ?_⟩
  have he3 : Ext w2 w3 := he3
  have he03 := he02.trans he3
  have H3 := H2.ext he3
  have hk1 := hk1.ext he3
  have z3 := he03.le
  have c4 := rrising15 (w := w3) (N := N) A c l (hr.ext he03) (by omega) (by omega)
  refine L.call rfl en_23 rfl ((Sch.Here.rsub hc hm)) ?_
  rintro e _ ⟨rfl, rfl⟩
  refine ⟨_, rfl, ?_⟩
  refine L.va rfl (X.not rfl) ?_
  refine L.va rfl (X.pickF rfl (by conv => lhs; whnf)) ?_
  refine L.va rfl (X.move (by conv => lhs; whnf)) ?_
  refine L.caseBF (k := 18) rfl (by (rw [decide_eq_true hF]; rfl)) ?_
  refine L.va rfl (X.move (by conv => lhs; whnf)) ?_
  refine L.call rfl en_40 rfl (c4) ?_
  rintro e w4 ⟨rfl, he4⟩
  refine ⟨_, rfl, ?_⟩
  have he4 : Ext w3 w4 := he4
  have he04 := he03.trans he4
  have H4 := H3.ext he4
  have hk4 := hk1.ext he4
  refine L.va rfl (X.not rfl) ?_
  refine L.va rfl (X.pickF rfl (by conv => lhs; whnf)) ?_
  refine L.nil ?_
  cases hri : rise l
  ·refine J.iteT rfl ?_
   refine J.seq ?_
   refine J.region ?_
   refine L.va rfl (X.assign (by conv => lhs; whnf)) ?_
   refine L.nil ?_
   refine J.ret ?_
   refine thn_ret <| ?_
   refine fin1 ?_
   refine no _ ?_ he04
   unfold rightK
   rw [← rise_con, hri]
   simp
  ·refine J.iteF rfl ?_
   refine J.skip ?_
   iterate 2 refine J.seq ?_
   refine J.region ?_
   refine L.va rfl (X.assign (by conv => lhs; whnf)) ?_
   refine L.nil ?_
   refine J.block ?_
   refine J.loop (X := Nat) [6, 7, 23, 24, 25, 26, 27, 28, 29, 30, 31, 32, 33, 34, 35, 36] (fun i => [(7, .int .i64 (i : Int))]) (fun i w' => i ≤ l.length ∧ (∀ j, j < i → rightC s m (l.getD j ce0).con = true) ∧ Ext w4 w') (fun i => l.length - i) (0) (At1 (by first | rfl | exact at_int rfl (by omega) | exact at_slice rfl (by omega) | exact at_int rfl (by simp))) ?_ ?_
   ·exact ⟨Nat.zero_le _, fun j hj => absurd hj (by omega), Ext.refl _⟩
   ·rintro i g w5 ⟨hi, hP, he45⟩
    have he5 := he04.trans he45
    have hk5 := hk4.ext he45
    have z5 := he5.le
    iterate 2 refine J.seq ?_
    refine J.region ?_
    iterate 2 refine L.va rfl (X.move (by conv => lhs; whnf)) ?_
    refine L.va rfl (X.len rfl Tryz.underlying29) ?_
    refine L.va rfl (X.lss rfl rfl) ?_
    refine L.nil ?_
    refine J.dec rfl (fun hlt => ?_) (fun hlt => ?_)
    ·have hin : i < l.length := by omega
     have hr5 := hr.ext he5
     have hA := hr5.some_ (by omega)
     have gy := gtX hin
     have my := memD (l := l) (i := i) (d := ce0) hin
     obtain ⟨y, hy⟩ : ∃ y, y = l.getD i ce0 := ⟨_, rfl⟩
     rw [← hy] at gy my
     refine J.skip ?_
     refine J.seq ?_
     refine J.block ?_
     refine J.seq ?_
     refine J.draw (ℓ := 1000000) (S := Ext w5) mixed (fun w6 hS hS_h => ?_)
     refine D.va 0 rfl (by kernel_rfl) (fun _ _ _ h => h) rfl (fun w' hw => X.loadAgg rfl (range_blk (hk5.ext hw)) Tryz.underlying26 rfl (by kernel_rfl)) hS ?_
     refine D.va 1 rfl (by kernel_rfl) (fun _ _ _ h => h) rfl (fun w' hw => X.move (by conv => lhs; whnf)) hS ?_
     refine D.va 2 rfl (by kernel_rfl) (fun _ _ _ h => h) rfl (fun w' hw => X.move (by conv => lhs; whnf)) hS ?_
     refine D.va 3 rfl (by kernel_rfl) (fun _ _ _ h => h) rfl (fun w' hw => X.move (by conv => lhs; whnf)) hS ?_
     refine D.va 4 rfl (by kernel_rfl) (fun _ _ _ h => h) rfl (fun w' hw => (by first | exact X.indexAddrn rfl rfl Tryz.underlying29 sz_52 (by first | exact Option.some_ne_none _ | exact hA) (by omega) | exact X.indexAddr rfl rfl Tryz.underlying29 sz_52 (by first | exact Option.some_ne_none _ | exact hA) (by omega))) hS ?_
     refine D.va 5 rfl (by kernel_rfl) (fun _ _ _ h => h) rfl (fun w' hw => X.loadRow (cs := y.vs) rfl (hr5.ext hw) (fun r u hu => flat_row ce_len gy r u hu) (Nat.zero_lt_succ _) Tryz.underlying52 rfl (by kernel_rfl)) hS ?_
     have he06 := he5.trans hS
     have c7 := rright14 (m := m) (x := y) (N := N) (w := w6) ((H4.ext he45).ext hS) hm (by have := he06.le; omega) ((ht.h y my).ext he06) (hL y my)
     refine D.one 6 (by kernel_rfl) rfl ?_
     refine L.call rfl en_41 rfl (c7) ?_
     rintro e w7 ⟨rfl, he7⟩
     refine ⟨_, rfl, ?_⟩
     have hS1 := hS.trans he7
     refine L.nil ?_
     refine ⟨fun _ => hS1, ?_⟩
     have he07 := he5.trans hS1
     refine D.va 7 rfl (by kernel_rfl) (fun _ _ _ h => h) rfl (fun w' hw => X.not rfl) hS1 ?_
     refine D.done (by kernel_rfl) ?_
     cases hrc : rightC s m y.con
     ·refine J.iteT rfl ?_
      refine J.seq ?_
      refine J.region ?_
      refine L.va rfl (X.assign (by conv => lhs; whnf)) ?_
      refine L.nil ?_
      refine J.ret ?_
      refine inB_ret <|  thn_ret <|  thn_ret <|  inB_ret <|  thn_ret <| ?_
      refine fin1 ?_
      refine no _ ?_ he07
      have : (l.map Ce.con).all (rightC s m) = false := by
       rw [List.all_map]
       exact all_no (d := ce0) hin (by rw [← hy]; exact hrc)
      unfold rightK
      rw [this]
      simp
     ·refine J.iteF rfl ?_
      refine J.skip ?_
      refine J.region ?_
      refine L.va rfl (X.move (by conv => lhs; whnf)) ?_
      refine L.va rfl (X.add rfl rfl (by omega)) ?_
      refine L.va rfl (X.assign (by conv => lhs; whnf)) ?_
      refine L.nil ?_
      refine ⟨i + 1, At1 (by first | rfl | exact at_int rfl (by omega) | exact at_slice rfl (by omega) | exact at_int rfl (by simp)), (by (iterate 15 refine Agr.lk rfl ?_); exact Agr.lk rfl (Agr.hav rfl Agr.rfl')), ?_⟩
      refine ⟨⟨by omega, fun j hj => ?_, he45.trans hS1⟩, by omega⟩
      rcases Nat.lt_or_ge j i with h | h
      ·exact hP j h
      ·obtain rfl : j = i := by omega
       rw [← hy]
       exact hrc
    ·refine J.exit ?_
     refine J.seq ?_
     refine J.region ?_
     refine L.va rfl (X.assign (by conv => lhs; whnf)) ?_
     refine L.nil ?_
     refine J.ret ?_
     refine fin1 ?_
     have : (l.map Ce.con).all (rightC s m) = true := by
      rw [List.all_map]
      exact all_yes (d := ce0) fun j hj => hP j (by omega)
     refine ⟨?_, he5⟩
     unfold rightK
     rw [this, ← rise_con, hri, hkb]
     rfl
theorem andNot_sb {a m : Nat} (ha : a < 4294967296) (hm : m < 4294967296) : bits .andNot .u32 (a : Int) (m : Int) = 0 ↔ sb a m = true := by
  rw [u32_andNot_nat a m ha hm]
  rw [← Mk.andNot_zero ha hm]
  omega
theorem right_co {s : Sch} {m : Nat} {l : List Ce} (h : rightK s m (l.map Ce.con) = true) {y : Ce} (hy : y ∈ l) : s.code = 0 ∧ s.coL m (y.k : Int) = coK s.ds m s.nd (y.k : Int) := by
  unfold rightK at h
  simp only [Bool.and_eq_true] at h
  obtain ⟨hkb, _, hall⟩ := h
  have hc := of_decide_eq_true hkb
  have h1 := List.all_eq_true.1 hall y.con (List.mem_map_of_mem hy)
  unfold rightC at h1
  simp only [Bool.and_eq_true, decide_eq_true_iff] at h1
  have hk : (y.k : Int) < s.kv m := h1.1.2.1
  have hkv : s.kv m = kyP s.ds m s.nd := if_pos hc
  have ha : s.askE m = 0 := by
    unfold Sch.askE
    rw [if_neg (fun k => k hc.1), if_pos hc.2]
  exact ⟨hc.1, (Sch.coE_0 ha (by omega)).2⟩
def CellsQ (s : Sch) (m : Nat) (f : Fis) (l : List Con) (w : World) (e : Ending) (w' : World) : Prop :=
  ∃ t : Ces, e = .returned (.tuple #[t.val, .int .i64 (cellsE s m f l)]) ∧ t.At w'.heap.size w' ∧ (cellsE s m f l ≠ 0 → t.con = []) ∧ (cellsE s m f l = 0 → t.con = l.filter (passC s m f)) ∧ Ext w w'
theorem CellsQ.none_ {s : Sch} {m : Nat} {f : Fis} {l : List Con} {w w' : World} {e : Ending} {z : Int} (hz : cellsE s m f l = z) (h0 : z ≠ 0) (he : e = .returned (.tuple #[.slice none 0 0, .int .i64 z])) (hx : Ext w w') : CellsQ s m f l w e w' :=
  ⟨⟨none, 0, 0, []⟩, by rw [he, hz], ⟨Reads.of_own (own_nil w' 0 0 4), (fun x hx => by cases hx), rfl, Nat.zero_le _⟩, fun _ => rfl, fun h => absurd (hz.symm.trans h) h0, hx⟩
theorem rfcells {s : Sch} {m : Nat} {f : Fis} {t : Ces} {w : World} (H : s.Here w) (hm : m < 4294967296) (hf : f.At w.heap.size w) (ht : t.At w.heap.size w) (hn : t.n ≤ 1000) (hL : ∀ x ∈ t.l, x.Lt) : Calls Tryz.prog 9 #[s.val, .int .u32 (m : Int), f.val, t.val] w (CellsQ s m f t.con w) := by
 obtain ⟨A, n, c, l⟩ := t
 obtain rfl : l.length = n := ht.l
 have hn : l.length ≤ 1000 := hn
 have hr : Reads w w.heap.size 4 A l.length (l.flatMap Ce.vs) := ht.r
 show Calls Tryz.prog 9 #[s.val, .int .u32 (m : Int), f.val, .slice A l.length c] w (CellsQ s m f (l.map Ce.con) w)
 refine enter Tryz.func9 rfl (by kernel_rfl) ?_
 refine J.seq ?_
 refine J.region ?_
 refine L.boxA (l := [_, _, _, _]) rfl rfl ?_
 intro b1 w1 hb1 hs1 hk1 he1
 have z1 := he1.le
 have c2 := rfcheck (f := f) (H.ext he1) ((hf.ext he1).more z1)
 iterate 2 refine L.va rfl (X.assign (by conv => lhs; whnf)) ?_
 refine L.nil ?_
 iterate 2 refine J.seq ?_
 refine J.region ?_
 refine L.va rfl ((by first | exact X.loadAgg rfl (range_l hk1) Tryz.underlying26 rfl (by kernel_rfl) | exact X.loadAgg rfl (range_blk hk1) Tryz.underlying26 rfl (by kernel_rfl))) ?_
 refine L.va rfl (X.move (by conv => lhs; whnf)) ?_
 refine L.call rfl en_21 rfl (c2) ?_
 rintro e w2 ⟨rfl, he2⟩
 refine ⟨_, rfl, ?_⟩
 have he2 : Ext w1 w2 := he2
 have he02 := he1.trans he2
 have z2 := he02.le
 have hk1 := hk1.ext he2
 refine L.va rfl (X.assign (by conv => lhs; whnf)) ?_
 refine L.nil ?_
 refine J.seq ?_
 refine J.region ?_
 refine L.va rfl (X.move (by conv => lhs; whnf)) ?_
 refine L.va rfl (X.neq rfl rfl) ?_
 refine L.nil ?_
 refine J.ndec rfl (fun h1 => ?_) (fun h1 => ?_)
 ·refine J.seq ?_
  refine J.region ?_
  refine L.va rfl (X.move (by conv => lhs; whnf)) ?_
  iterate 2 refine L.va rfl (X.assign (by conv => lhs; whnf)) ?_
  refine L.nil ?_
  refine J.ret ?_
  refine thn_ret <| ?_
  refine fin2 ?_
  exact CellsQ.none_ (if_pos h1) h1 rfl he02
 ·have c3 := rright15 (s := s) (m := m) (t := Ces.mk A l.length c l) (N := w.heap.size) (H.ext he02) hm z2 (ht.ext he02) hn hL
  refine J.skip ?_
  iterate 2 refine J.seq ?_
  refine J.region ?_
  refine L.va rfl ((by first | exact X.loadAgg rfl (range_l hk1) Tryz.underlying26 rfl (by kernel_rfl) | exact X.loadAgg rfl (range_blk hk1) Tryz.underlying26 rfl (by kernel_rfl))) ?_
  iterate 2 refine L.va rfl (X.move (by conv => lhs; whnf)) ?_
  refine L.call rfl en_22 rfl (c3) ?_
  rintro e w3 ⟨rfl, he3⟩
  refine ⟨_, rfl, ?_⟩
  have he3 : Ext w2 w3 := he3
  have he03 := he02.trans he3
  have z3 := he03.le
  have hk1 := hk1.ext he3
  refine L.va rfl (X.not rfl) ?_
  refine L.nil ?_
  cases hrk : rightK s m (l.map Ce.con)
  ·refine J.iteT rfl ?_
   refine J.seq ?_
   refine J.region ?_
   iterate 2 refine L.va rfl (X.assign (by conv => lhs; whnf)) ?_
   refine L.nil ?_
   refine J.ret ?_
   refine thn_ret <| ?_
   refine fin2 ?_
   exact CellsQ.none_ (by unfold cellsE; rw [if_neg (fun k => k h1), if_pos hrk]) (by decide) rfl he03
  ·refine J.iteF rfl ?_
   have c4 := rfneed_ f w3 ((hf.ext he03).more z3)
   have c5 := rsub_any (fneed f.l) m w3 (fneed_lt _) hm
   have hsb := andNot_sb (fneed_lt f.l) hm
   refine J.skip ?_
   iterate 2 refine J.seq ?_
   refine J.region ?_
   refine L.va rfl (X.move (by conv => lhs; whnf)) ?_
   refine L.call rfl en_24 rfl (c4) ?_
   rintro e _ ⟨rfl, rfl⟩
   refine ⟨_, rfl, ?_⟩
   refine L.va rfl (X.move (by conv => lhs; whnf)) ?_
   refine L.call rfl en_23 rfl (c5) ?_
   rintro e _ ⟨rfl, rfl⟩
   refine ⟨_, rfl, ?_⟩
   refine L.va rfl (X.not rfl) ?_
   refine L.nil ?_
   cases h2 : sb (fneed f.l) m
   ·refine J.iteT rfl ?_
    refine J.seq ?_
    refine J.region ?_
    iterate 2 refine L.va rfl (X.assign (by conv => lhs; whnf)) ?_
    refine L.nil ?_
    refine J.ret ?_
    refine thn_ret <| ?_
    refine fin2 ?_
    exact CellsQ.none_ (by unfold cellsE; rw [if_neg (fun k => k h1), if_neg (by simp [hrk]), if_pos (fun k => by rw [hsb.1 k] at h2; cases h2)]) (by decide) rfl he03
   ·refine J.iteF rfl ?_
    have hE : cellsE s m f (l.map Ce.con) = 0 := by unfold cellsE; rw [if_neg (fun k => k h1), if_neg (by simp [hrk]), if_neg (fun h => h (hsb.2 h2))]
    refine J.skip ?_
    refine J.seq ?_
    refine J.region ?_
    refine L.va rfl (X.assign (by conv => lhs; whnf)) ?_
    refine L.nil ?_
    iterate 2 refine J.seq ?_
    refine J.region ?_
    refine L.va rfl (X.assign (by conv => lhs; whnf)) ?_
    refine L.nil ?_
    refine J.block ?_
    refine J.loop (X := Nat × Option Addr × Nat × List Ce) [11, 12, 29, 30, 31, 32, 33, 34, 35, 36, 37, 38, 39, 40, 41, 42, 43, 44, 45, 46, 47, 48, 49, 50, 51] (fun (i, B, d, o) => [(12, .int .i64 (i : Int)), (11, .slice B o.length d)]) (fun (i, B, d, o) w' => i ≤ l.length ∧ o.length ≤ i ∧ o = (l.take i).filter (fun x => passC s m f x.con) ∧ w'.ownsRow w3.heap.size 52 4 (.slice B o.length d) o.length (o.flatMap Ce.vs) ∧ Ext w3 w') (fun (i, _) => l.length - i) ((0, none, 0, [])) (At2 (by first | rfl | exact at_int rfl (by omega) | exact at_slice rfl (by omega) | exact at_int rfl (by simp)) (by first | rfl | exact at_int rfl (by omega) | exact at_slice rfl (by omega) | exact at_int rfl (by simp))) ?_ ?_
    ·exact ⟨Nat.zero_le _, Nat.le_refl _, rfl, own_nil _ _ _ _, Ext.refl _⟩
    ·rintro ⟨i, B, d, o⟩ g w5 ⟨hi, hoi, ho, ho5, he35⟩
     have he5 := he03.trans he35
     have hk5 := hk1.ext he35
     have z5 := he5.le
     iterate 2 refine J.seq ?_
     refine J.region ?_
     iterate 2 refine L.va rfl (X.move (by conv => lhs; whnf)) ?_
     refine L.va rfl (X.len rfl Tryz.underlying29) ?_
     refine L.va rfl (X.lss rfl rfl) ?_
     refine L.nil ?_
     refine J.dec rfl (fun hlt => ?_) (fun hlt => ?_)
     ·have hin : i < l.length := by omega
      have hr5 := hr.ext he5
      have hA := hr5.some_ (by omega)
      have gy := gtX hin
      have my := memD (l := l) (i := i) (d := ce0) hin
      have et := take_one hin
      obtain ⟨y, hy⟩ : ∃ y, y = l.getD i ce0 := ⟨_, rfl⟩
      rw [← hy] at gy my et
      have yk : y.k < 18446744073709551616 := (ht.h y my).k
      obtain ⟨hc, hco⟩ := right_co hrk my
      have hcl := coK_length s.ds m s.nd (y.k : Int)
      have hnd := H.hle.1
      refine J.skip ?_
      refine J.seq ?_
      refine J.block ?_
      refine J.seq ?_
      refine J.draw (ℓ := 1000000) (S := Ext w5) mixed (fun w6 hS hS_h => ?_)
      refine D.va 0 rfl (by kernel_rfl) (fun _ _ _ h => h) rfl (fun w' hw => X.move (by conv => lhs; whnf)) hS ?_
      refine D.va 1 rfl (by kernel_rfl) (fun _ _ _ h => h) rfl (fun w' hw => X.loadAgg rfl (range_blk (hk5.ext hw)) Tryz.underlying26 rfl (by kernel_rfl)) hS ?_
      refine D.va 2 rfl (by kernel_rfl) (fun _ _ _ h => h) rfl (fun w' hw => X.move (by conv => lhs; whnf)) hS ?_
      refine D.va 3 rfl (by kernel_rfl) (fun _ _ _ h => h) rfl (fun w' hw => X.move (by conv => lhs; whnf)) hS ?_
      refine D.va 4 rfl (by kernel_rfl) (fun _ _ _ h => h) rfl (fun w' hw => X.move (by conv => lhs; whnf)) hS ?_
      refine D.va 5 rfl (by kernel_rfl) (fun _ _ _ h => h) rfl (fun w' hw => (by first | exact X.indexAddrn rfl rfl Tryz.underlying29 sz_52 (by first | exact Option.some_ne_none _ | exact hA) (by omega) | exact X.indexAddr rfl rfl Tryz.underlying29 sz_52 (by first | exact Option.some_ne_none _ | exact hA) (by omega))) hS ?_
      refine D.va 6 rfl (by kernel_rfl) (fun _ _ _ h => h) rfl (fun w' hw => X.fieldP rfl Tryz.underlying52 rfl sz_48 (by decide) (by first | exact Option.some_ne_none _ | exact hA)) hS ?_
      refine D.va 7 rfl (by kernel_rfl) (fun _ _ _ h => h) rfl (fun w' hw => X.load rfl sc_48 (Ld.flat2 ce_len (hr5.ext hw) gy (r := 0) rfl)) hS ?_
      have he06 := he5.trans hS
      refine D.one 8 (by kernel_rfl) rfl ?_
      refine L.call rfl en_26 rfl (((H.ext he06).rcodes hc hm (y.k : Int) (by omega))) ?_
      rintro e w7 ⟨A7, c7, rfl, ho7, he7⟩
      refine ⟨_, rfl, ?_⟩
      have hS1 := hS.trans he7
      refine L.nil ?_
      refine ⟨fun _ => hS1, ?_⟩
      have he07 := he5.trans hS1
      have z7 := he07.le
      have c8 := rpass_ (f := f) (c := c7) (w := w7) ((hf.ext he07).more z7) (Reads.of_own ho7) (by unfold maxLen; omega)
      refine D.one 9 (by kernel_rfl) rfl ?_
      refine L.call rfl en_25 rfl (c8) ?_
      rintro e w8 ⟨rfl, he8⟩
      refine ⟨_, rfl, ?_⟩
      have hS2 := hS1.trans he8
      refine L.nil ?_
      refine ⟨fun _ => hS2, ?_⟩
      have he08 := he5.trans hS2
      refine D.done (by kernel_rfl) ?_
      have ho8 := ho5.ext hS2
      cases hp : pk (f.l.map Fi.key) (coK s.ds m s.nd (y.k : Int))
      ·refine J.iteF rfl ?_
       refine J.skip ?_
       refine J.region ?_
       refine L.va rfl (X.move (by conv => lhs; whnf)) ?_
       refine L.va rfl (X.add rfl rfl (by omega)) ?_
       refine L.va rfl (X.assign (by conv => lhs; whnf)) ?_
       refine L.nil ?_
       refine ⟨(i + 1, B, d, o), At2 (by first | rfl | exact at_int rfl (by omega) | exact at_slice rfl (by omega) | exact at_int rfl (by simp)) (by first | rfl | exact at_int rfl (by omega) | exact at_slice rfl (by omega) | exact at_int rfl (by simp)), (by (iterate 17 refine Agr.lk rfl ?_); exact Agr.lk rfl (Agr.hav rfl Agr.rfl')), ?_⟩
       refine ⟨⟨by omega, by omega, ?_, ho8, he35.trans hS2⟩, by show l.length - (i + 1) < l.length - i; omega⟩
       rw [et, List.filter_append, ← ho]
       have : passC s m f y.con = false := by
        show pk (f.l.map Fi.key) (s.coL m (y.k : Int)) = false
        rw [hco]
        exact hp
       simp [this]
      ·have hr8 := hr.ext he08
       refine J.iteT rfl ?_
       refine J.region ?_
       iterate 3 refine L.va rfl (X.move (by conv => lhs; whnf)) ?_
       refine L.va rfl ((by first | exact X.indexAddrn rfl rfl Tryz.underlying29 sz_52 (by first | exact Option.some_ne_none _ | exact hA) (by omega) | exact X.indexAddr rfl rfl Tryz.underlying29 sz_52 (by first | exact Option.some_ne_none _ | exact hA) (by omega))) ?_
       refine L.va rfl (X.loadRow (cs := y.vs) rfl hr8 (fun r u hu => flat_row ce_len gy r u hu) (Nat.zero_lt_succ _) Tryz.underlying52 rfl (by kernel_rfl)) ?_
       refine L.bslice1 (l := [_, _, _, _]) rfl rfl rfl Tryz.underlying29 sz_52 zr_52 rfl ?_
       intro b10 w10 hb10 hs10 hk10 he10
       have ho10 := ho8.ext he10
       have he310 := (he35.trans hS2).trans he10
       have z310 := he310.le
       refine L.appendV (q := o.length + 1) (ys := ((o ++ [y]).flatMap Ce.vs)) rfl rfl rfl Tryz.underlying29 el_52 (ho10) ((blk_readsN (sz := 4) (q := 1) (l := y.vs) hk10 hk10.lt rfl)) (by first | rfl | exact strs_ones _ | assumption) (by omega) (by simp) (by unfold maxLen; omega) (by omega) ?_
       intro A11 c11 w11 ho11 hg11 hb11 hor11
       have he311 := he310.grw hg11 (fun g hg => (ho10.lt g hg).1)
       have eo : (o ++ [y]).length = o.length + 1 := by rw [List.length_append]; rfl
       refine L.va rfl (X.assign (by conv => lhs; whnf)) ?_
       refine L.nil ?_
       refine J.region ?_
       refine L.va rfl (X.move (by conv => lhs; whnf)) ?_
       refine L.va rfl (X.add rfl rfl (by omega)) ?_
       refine L.va rfl (X.assign (by conv => lhs; whnf)) ?_
       refine L.nil ?_
       refine ⟨(i + 1, A11, c11, o ++ [y]), At2 (rfl) (at_slice rfl eo.symm), (by (iterate 25 refine Agr.lk rfl ?_); exact Agr.lk rfl (Agr.hav rfl Agr.rfl')), ?_⟩
       refine ⟨⟨by omega, by rw [eo]; omega, ?_, by rw [eo]; exact ho11, he311⟩, by show l.length - (i + 1) < l.length - i; omega⟩
       rw [et, List.filter_append, ← ho]
       have : passC s m f y.con = true := by
        show pk (f.l.map Fi.key) (s.coL m (y.k : Int)) = true
        rw [hco]
        exact hp
       simp [this]
     ·obtain rfl : i = l.length := by omega
      rw [List.take_length] at ho
      have mo : ∀ y ∈ o, y ∈ l := fun y hy => by rw [ho] at hy; exact (List.mem_filter.1 hy).1
      refine J.exit ?_
      refine J.seq ?_
      refine J.region ?_
      refine L.va rfl (X.move (by conv => lhs; whnf)) ?_
      iterate 2 refine L.va rfl (X.assign (by conv => lhs; whnf)) ?_
      refine L.nil ?_
      refine J.ret ?_
      refine fin2 ?_
      refine ⟨⟨B, o.length, d, o⟩, ?_, ⟨Reads.of_own ho5, fun y hy => (((ht.h y (mo y hy)).ext he5).more z5), rfl, by show o.length ≤ maxLen; unfold maxLen; omega⟩, fun h => absurd hE h, fun _ => ?_, he5⟩
      ·rw [hE]
       rfl
      ·show o.map Ce.con = (l.map Ce.con).filter (passC s m f)
       rw [ho, List.filter_map]
       rfl
end Go.Proofs.YtpomklkfedpkfaaGreat
namespace Go.Proofs.YtpomklkfedpkfaaGreat
set_option maxRecDepth 100000
open Go.RowKit H
open Nrm (Up sel mem_sel eq_sel up_sel kp sm nrm nf take_next)
set_option linter.unusedVariables false
theorem keys_no {a b : List Fi} {i : Nat} (ha : i < a.length) (hb : i < b.length) (h : (a.getD i fi0).key ≠ (b.getD i fi0).key) : decide (a.map Fi.key = b.map Fi.key) = false := by
  refine decide_eq_false fun e => h ?_
  have := congrArg (fun l : List (Int × List Int) => l[i]?) e
  simp only [List.getElem?_map, gtF ha, gtF hb, Option.map_some, Option.some.injEq] at this
  exact this
theorem keys_all {a b : List Fi} (hl : a.length = b.length) (h : ∀ i, i < a.length → (a.getD i fi0).key = (b.getD i fi0).key) : decide (a.map Fi.key = b.map Fi.key) = true := by
  refine decide_eq_true (List.ext_getElem (by simp [hl]) fun i h1 h2 => ?_)
  rw [List.length_map] at h1 h2
  have := h i h1
  rw [List.getD, List.getD, List.getElem?_eq_getElem h1, List.getElem?_eq_getElem h2] at this
  simpa using this
theorem rsame28 {a b : Fis} {w : World} (ha : a.At w.heap.size w) (hb : b.At w.heap.size w) : Calls Tryz.prog 14 #[a.val, b.val] w fun e w' => e = .returned (.bool (decide (a.l.map Fi.key = b.l.map Fi.key))) ∧ Ext w w' := by
 have la := ha.l
 have lb := hb.l
 have ma := ha.m
 have mb := hb.m
 unfold maxLen at ma mb
 refine enter Tryz.func14 rfl (by kernel_rfl) ?_
 refine J.seq ?_
 refine J.region ?_
 refine L.va rfl (X.assign (by conv => lhs; whnf)) ?_
 refine L.nil ?_
 iterate 2 refine J.seq ?_
 refine J.region ?_
 refine L.va rfl (X.move (by conv => lhs; whnf)) ?_
 refine L.va rfl (X.len rfl Tryz.underlying28) ?_
 refine L.va rfl (X.move (by conv => lhs; whnf)) ?_
 refine L.va rfl (X.len rfl Tryz.underlying28) ?_
 refine L.va rfl (X.neq rfl rfl) ?_
 refine L.nil ?_
 refine J.ndec rfl (fun h1 => ?_) (fun h1 => ?_)
 ·have e : decide (a.l.map Fi.key = b.l.map Fi.key) = false := decide_eq_false fun e => by
   have := congrArg List.length e
   rw [List.length_map, List.length_map] at this
   omega
  rw [e]
  refine J.seq ?_
  refine J.region ?_
  refine L.va rfl (X.assign (by conv => lhs; whnf)) ?_
  refine L.nil ?_
  refine J.ret ?_
  refine thn_ret <| ?_
  refine fin1 ?_
  exact ⟨rfl, Ext.refl _⟩
 ·refine J.skip ?_
  iterate 2 refine J.seq ?_
  refine J.region ?_
  refine L.va rfl (X.assign (by conv => lhs; whnf)) ?_
  refine L.nil ?_
  refine J.block ?_
  refine J.loop (X := Nat) [4, 5, 6, 12, 13, 14, 15, 16, 17, 18, 19, 20, 21, 22, 23, 24, 25, 26, 27, 28, 29, 30, 31, 32, 33, 34, 35, 36, 37, 38, 39, 40, 41, 42, 43, 44, 45, 46, 47, 48, 49, 50, 51, 52, 53, 54, 55, 56, 57, 58, 59, 60, 61, 62, 63, 64, 65, 66, 67, 68, 69, 70] (fun i => [(5, .int .i64 (i : Int))]) (fun i w' => i ≤ a.n ∧ (∀ j, j < i → (a.l.getD j fi0).key = (b.l.getD j fi0).key) ∧ Ext w w') (fun i => a.n - i) (0) (At1 (by first | rfl | exact at_int rfl (by omega) | exact at_slice rfl (by omega) | exact at_int rfl (by simp))) ?_ ?_
  ·exact ⟨Nat.zero_le _, fun j hj => absurd hj (by omega), Ext.refl _⟩
  ·rintro i g w3 ⟨hi, hP, he3⟩
   have z3 := he3.le
   have ha3 := ha.ext he3
   have hb3 := hb.ext he3
   iterate 2 refine J.seq ?_
   refine J.region ?_
   iterate 2 refine L.va rfl (X.move (by conv => lhs; whnf)) ?_
   refine L.va rfl (X.len rfl Tryz.underlying28) ?_
   refine L.va rfl (X.lss rfl rfl) ?_
   refine L.nil ?_
   refine J.dec rfl (fun hlt => ?_) (fun hlt => ?_)
   ·have hin : i < a.n := by omega
    have hA := ha3.r.some_ (by omega)
    have hB := hb3.r.some_ (by omega)
    have hbad := keys_no (a := a.l) (b := b.l) (i := i) (by omega) (by omega)
    obtain ⟨x, hx⟩ : ∃ x, x = a.l.getD i fi0 := ⟨_, rfl⟩
    obtain ⟨y, hy⟩ : ∃ y, y = b.l.getD i fi0 := ⟨_, rfl⟩
    have hX := ha3.one hin
    have hY := hb3.one (i := i) (by omega)
    have gx := gtF (l := a.l) (i := i) (by omega)
    have gy := gtF (l := b.l) (i := i) (by omega)
    rw [← hx] at hX gx hbad
    rw [← hy] at hY gy hbad
    have mx := hX.m
    have my := hY.m
    have lx := hX.len
    have ly := hY.len
    unfold maxLen at mx my
    refine J.skip ?_
    refine J.seq ?_
    refine J.block ?_
    iterate 2 refine J.seq ?_
    refine J.quiet mixed (by kernel_rfl) ?_
    iterate 2 refine Qt.va rfl (fun w' hw => X.move (by conv => lhs; whnf)) ?_
    refine Qt.va rfl (fun w' hw => (by first | exact X.indexAddrn rfl rfl Tryz.underlying28 sz_46 (by first | exact Option.some_ne_none _ | exact hA | exact hB) (by omega) | exact X.indexAddr rfl rfl Tryz.underlying28 sz_46 (by first | exact Option.some_ne_none _ | exact hA | exact hB) (by omega))) ?_
    refine Qt.va rfl (fun w' hw => X.fieldP rfl Tryz.underlying46 rfl sz_3 (by decide) (by first | exact Option.some_ne_none _ | exact hA | exact hB)) ?_
    refine Qt.va rfl (fun w' hw => X.load rfl sc_3 (by first | exact hA | exact hB | exact Ld.flat2 fi_len (ha3.r.ext hw) gx (r := 0) rfl | exact Ld.flat2 fi_len (ha3.r.ext hw) gx (r := 1) rfl | exact Ld.flat2 fi_len (hb3.r.ext hw) gy (r := 0) rfl | exact Ld.flat2 fi_len (hb3.r.ext hw) gy (r := 1) rfl)) ?_
    iterate 2 refine Qt.va rfl (fun w' hw => X.move (by conv => lhs; whnf)) ?_
    refine Qt.va rfl (fun w' hw => (by first | exact X.indexAddrn rfl rfl Tryz.underlying28 sz_46 (by first | exact Option.some_ne_none _ | exact hA | exact hB) (by omega) | exact X.indexAddr rfl rfl Tryz.underlying28 sz_46 (by first | exact Option.some_ne_none _ | exact hA | exact hB) (by omega))) ?_
    refine Qt.va rfl (fun w' hw => X.fieldP rfl Tryz.underlying46 rfl sz_3 (by decide) (by first | exact Option.some_ne_none _ | exact hA | exact hB)) ?_
    refine Qt.va rfl (fun w' hw => X.load rfl sc_3 (by first | exact hA | exact hB | exact Ld.flat2 fi_len (ha3.r.ext hw) gx (r := 0) rfl | exact Ld.flat2 fi_len (ha3.r.ext hw) gx (r := 1) rfl | exact Ld.flat2 fi_len (hb3.r.ext hw) gy (r := 0) rfl | exact Ld.flat2 fi_len (hb3.r.ext hw) gy (r := 1) rfl)) ?_
    refine Qt.va rfl (fun w' hw => X.neq rfl rfl) ?_
    refine Qt.va rfl (fun w' hw => X.move (by conv => lhs; whnf)) ?_
    refine Qt.caseNdec (k := 29) rfl (fun h2 => ?_) (fun h2 => ?_)
    ·refine Qt.no rfl ?_
     iterate 12 refine Qt.no rfl ?_
     refine Qt.va rfl (fun w' hw => X.pickT rfl (by conv => lhs; whnf)) ?_
     refine Qt.nil (fun w4 hq => ?_)
     refine J.iteT rfl ?_
     rw [hbad (fun e => by
      have e1 : x.d = y.d := congrArg Prod.fst e
      have e2 : x.l = y.l := congrArg Prod.snd e
      rw [e2] at lx
      omega)]
     refine J.seq ?_
     refine J.region ?_
     refine L.va rfl (X.assign (by conv => lhs; whnf)) ?_
     refine L.nil ?_
     refine J.ret ?_
     refine thn_ret <|  inB_ret <|  thn_ret <|  thn_ret <|  inB_ret <|  thn_ret <| ?_
     refine fin1 ?_
     exact ⟨rfl, he3.trans hq⟩
    iterate 2 refine Qt.va rfl (fun w' hw => X.move (by conv => lhs; whnf)) ?_
    refine Qt.va rfl (fun w' hw => (by first | exact X.indexAddrn rfl rfl Tryz.underlying28 sz_46 (by first | exact Option.some_ne_none _ | exact hA | exact hB) (by omega) | exact X.indexAddr rfl rfl Tryz.underlying28 sz_46 (by first | exact Option.some_ne_none _ | exact hA | exact hB) (by omega))) ?_
    refine Qt.va rfl (fun w' hw => X.fieldP rfl Tryz.underlying46 rfl sz_44 (by decide) (by first | exact Option.some_ne_none _ | exact hA | exact hB)) ?_
    refine Qt.va rfl (fun w' hw => X.load rfl sc_44 (by first | exact hA | exact hB | exact Ld.flat2 fi_len (ha3.r.ext hw) gx (r := 0) rfl | exact Ld.flat2 fi_len (ha3.r.ext hw) gx (r := 1) rfl | exact Ld.flat2 fi_len (hb3.r.ext hw) gy (r := 0) rfl | exact Ld.flat2 fi_len (hb3.r.ext hw) gy (r := 1) rfl)) ?_
    refine Qt.va rfl (fun w' hw => X.len rfl Tryz.underlying44) ?_
    iterate 2 refine Qt.va rfl (fun w' hw => X.move (by conv => lhs; whnf)) ?_
    refine Qt.va rfl (fun w' hw => (by first | exact X.indexAddrn rfl rfl Tryz.underlying28 sz_46 (by first | exact Option.some_ne_none _ | exact hA | exact hB) (by omega) | exact X.indexAddr rfl rfl Tryz.underlying28 sz_46 (by first | exact Option.some_ne_none _ | exact hA | exact hB) (by omega))) ?_
    refine Qt.va rfl (fun w' hw => X.fieldP rfl Tryz.underlying46 rfl sz_44 (by decide) (by first | exact Option.some_ne_none _ | exact hA | exact hB)) ?_
    refine Qt.va rfl (fun w' hw => X.load rfl sc_44 (by first | exact hA | exact hB | exact Ld.flat2 fi_len (ha3.r.ext hw) gx (r := 0) rfl | exact Ld.flat2 fi_len (ha3.r.ext hw) gx (r := 1) rfl | exact Ld.flat2 fi_len (hb3.r.ext hw) gy (r := 0) rfl | exact Ld.flat2 fi_len (hb3.r.ext hw) gy (r := 1) rfl)) ?_
    refine Qt.va rfl (fun w' hw => X.len rfl Tryz.underlying44) ?_
    refine Qt.va rfl (fun w' hw => X.neq rfl rfl) ?_
    refine Qt.va rfl (fun w' hw => X.pickF rfl (by conv => lhs; whnf)) ?_
    refine Qt.nil (fun w4 hq => ?_)
    refine J.ndec rfl (fun h3 => ?_) (fun h3 => ?_)
    ·rw [hbad (fun e => by
      have e1 : x.d = y.d := congrArg Prod.fst e
      have e2 : x.l = y.l := congrArg Prod.snd e
      rw [e2] at lx
      omega)]
     refine J.seq ?_
     refine J.region ?_
     refine L.va rfl (X.assign (by conv => lhs; whnf)) ?_
     refine L.nil ?_
     refine J.ret ?_
     refine thn_ret <|  inB_ret <|  thn_ret <|  thn_ret <|  inB_ret <|  thn_ret <| ?_
     refine fin1 ?_
     exact ⟨rfl, he3.trans hq⟩
    have he4 := he3.trans hq
    have z4 := he4.le
    refine J.skip ?_
    refine J.seq ?_
    refine J.region ?_
    refine L.va rfl (X.assign (by conv => lhs; whnf)) ?_
    refine L.nil ?_
    refine J.block ?_
    refine J.loop (X := Nat) [4, 6, 44, 45, 46, 47, 48, 49, 50, 51, 52, 53, 54, 55, 56, 57, 58, 59, 60, 61, 62, 63, 64, 65, 66, 67, 68, 69, 70] (fun k => [(6, .int .i64 (k : Int))]) (fun k w' => k ≤ x.n ∧ (∀ j, j < k → x.l.getD j 0 = y.l.getD j 0) ∧ Ext w4 w') (fun k => x.n - k) (0) (At1 (by first | rfl | exact at_int rfl (by omega) | exact at_slice rfl (by omega) | exact at_int rfl (by simp))) ?_ ?_
    ·exact ⟨Nat.zero_le _, fun j hj => absurd hj (by omega), Ext.refl _⟩
    ·rintro k g w5 ⟨hk, hQ, he5⟩
     have ha5 := (ha3.ext hq).ext he5
     have hb5 := (hb3.ext hq).ext he5
     have r5 := (hX.ext hq).ext he5 |>.r
     have s5 := (hY.ext hq).ext he5 |>.r
     iterate 2 refine J.seq ?_
     refine J.region ?_
     iterate 3 refine L.va rfl (X.move (by conv => lhs; whnf)) ?_
     refine L.va rfl ((by first | exact X.indexAddrn rfl rfl Tryz.underlying28 sz_46 (by first | exact Option.some_ne_none _ | exact r5.some_ (by omega) | exact s5.some_ (by omega) | exact hA | exact hB) (by omega) | exact X.indexAddr rfl rfl Tryz.underlying28 sz_46 (by first | exact Option.some_ne_none _ | exact r5.some_ (by omega) | exact s5.some_ (by omega) | exact hA | exact hB) (by omega))) ?_
     refine L.va rfl (X.fieldP rfl Tryz.underlying46 rfl sz_44 (by decide) (by first | exact Option.some_ne_none _ | exact r5.some_ (by omega) | exact s5.some_ (by omega) | exact hA | exact hB)) ?_
     refine L.va rfl (X.load rfl sc_44 (by first | exact Ld.num r5 (by omega) | exact Ld.num s5 (by omega) | exact hA | exact hB | exact Ld.flat2 fi_len ha5.r gx (r := 0) rfl | exact Ld.flat2 fi_len ha5.r gx (r := 1) rfl | exact Ld.flat2 fi_len hb5.r gy (r := 0) rfl | exact Ld.flat2 fi_len hb5.r gy (r := 1) rfl)) ?_
     refine L.va rfl (X.len rfl Tryz.underlying44) ?_
     refine L.va rfl (X.lss rfl rfl) ?_
     refine L.nil ?_
     refine J.dec rfl (fun hlt2 => ?_) (fun hlt2 => ?_)
     ·have hA1 := r5.some_ (by omega)
      have hB1 := s5.some_ (by omega)
      refine J.skip ?_
      refine J.seq ?_
      refine J.block ?_
      refine J.seq ?_
      refine J.quiet mixed (by kernel_rfl) ?_
      iterate 2 refine Qt.va rfl (fun w' hw => X.move (by conv => lhs; whnf)) ?_
      refine Qt.va rfl (fun w' hw => (by first | exact X.indexAddrn rfl rfl Tryz.underlying28 sz_46 (by first | exact Option.some_ne_none _ | exact r5.some_ (by omega) | exact s5.some_ (by omega) | exact hA | exact hB | exact hA1 | exact hB1) (by omega) | exact X.indexAddr rfl rfl Tryz.underlying28 sz_46 (by first | exact Option.some_ne_none _ | exact r5.some_ (by omega) | exact s5.some_ (by omega) | exact hA | exact hB | exact hA1 | exact hB1) (by omega))) ?_
      refine Qt.va rfl (fun w' hw => X.fieldP rfl Tryz.underlying46 rfl sz_44 (by decide) (by first | exact Option.some_ne_none _ | exact r5.some_ (by omega) | exact s5.some_ (by omega) | exact hA | exact hB | exact hA1 | exact hB1)) ?_
      refine Qt.va rfl (fun w' hw => X.load rfl sc_44 (by first | exact Ld.num (r5.ext hw) (by omega) | exact Ld.num (s5.ext hw) (by omega) | exact hA | exact hB | exact hA1 | exact hB1 | exact Ld.flat2 fi_len (ha5.r.ext hw) gx (r := 1) rfl | exact Ld.flat2 fi_len (hb5.r.ext hw) gy (r := 1) rfl)) ?_
      refine Qt.va rfl (fun w' hw => X.move (by conv => lhs; whnf)) ?_
      refine Qt.va rfl (fun w' hw => (by first | exact X.index1n rfl rfl Tryz.underlying44 sz_3 (by first | exact Option.some_ne_none _ | exact r5.some_ (by omega) | exact s5.some_ (by omega) | exact hA | exact hB | exact hA1 | exact hB1) (by omega) | exact X.index1 rfl rfl Tryz.underlying44 sz_3 (by first | exact Option.some_ne_none _ | exact r5.some_ (by omega) | exact s5.some_ (by omega) | exact hA | exact hB | exact hA1 | exact hB1) (by omega))) ?_
      refine Qt.va rfl (fun w' hw => X.load rfl sc_3 (by first | exact Ld.num (r5.ext hw) (by omega) | exact Ld.num (s5.ext hw) (by omega) | exact hA | exact hB | exact hA1 | exact hB1 | exact Ld.flat2 fi_len (ha5.r.ext hw) gx (r := 1) rfl | exact Ld.flat2 fi_len (hb5.r.ext hw) gy (r := 1) rfl)) ?_
      iterate 2 refine Qt.va rfl (fun w' hw => X.move (by conv => lhs; whnf)) ?_
      refine Qt.va rfl (fun w' hw => (by first | exact X.indexAddrn rfl rfl Tryz.underlying28 sz_46 (by first | exact Option.some_ne_none _ | exact r5.some_ (by omega) | exact s5.some_ (by omega) | exact hA | exact hB | exact hA1 | exact hB1) (by omega) | exact X.indexAddr rfl rfl Tryz.underlying28 sz_46 (by first | exact Option.some_ne_none _ | exact r5.some_ (by omega) | exact s5.some_ (by omega) | exact hA | exact hB | exact hA1 | exact hB1) (by omega))) ?_
      refine Qt.va rfl (fun w' hw => X.fieldP rfl Tryz.underlying46 rfl sz_44 (by decide) (by first | exact Option.some_ne_none _ | exact r5.some_ (by omega) | exact s5.some_ (by omega) | exact hA | exact hB | exact hA1 | exact hB1)) ?_
      refine Qt.va rfl (fun w' hw => X.load rfl sc_44 (by first | exact Ld.num (r5.ext hw) (by omega) | exact Ld.num (s5.ext hw) (by omega) | exact hA | exact hB | exact hA1 | exact hB1 | exact Ld.flat2 fi_len (ha5.r.ext hw) gx (r := 1) rfl | exact Ld.flat2 fi_len (hb5.r.ext hw) gy (r := 1) rfl)) ?_
      refine Qt.va rfl (fun w' hw => X.move (by conv => lhs; whnf)) ?_
      refine Qt.va rfl (fun w' hw => (by first | exact X.index1n rfl rfl Tryz.underlying44 sz_3 (by first | exact Option.some_ne_none _ | exact r5.some_ (by omega) | exact s5.some_ (by omega) | exact hA | exact hB | exact hA1 | exact hB1) (by omega) | exact X.index1 rfl rfl Tryz.underlying44 sz_3 (by first | exact Option.some_ne_none _ | exact r5.some_ (by omega) | exact s5.some_ (by omega) | exact hA | exact hB | exact hA1 | exact hB1) (by omega))) ?_
      refine Qt.va rfl (fun w' hw => X.load rfl sc_3 (by first | exact Ld.num (r5.ext hw) (by omega) | exact Ld.num (s5.ext hw) (by omega) | exact hA | exact hB | exact hA1 | exact hB1 | exact Ld.flat2 fi_len (ha5.r.ext hw) gx (r := 1) rfl | exact Ld.flat2 fi_len (hb5.r.ext hw) gy (r := 1) rfl)) ?_
      refine Qt.va rfl (fun w' hw => X.neq rfl rfl) ?_
      refine Qt.nil (fun w6 hq6 => ?_)
      replace r5 := r5.ext hq6
      replace s5 := s5.ext hq6
      refine J.ndec rfl (fun hne => ?_) (fun hne => ?_)
      ·rw [hbad (fun e => hne (by have e2 : x.l = y.l := congrArg Prod.snd e; rw [e2]))]
       refine J.seq ?_
       refine J.region ?_
       refine L.va rfl (X.assign (by conv => lhs; whnf)) ?_
       refine L.nil ?_
       refine J.ret ?_
       refine inB_ret <|  thn_ret <|  thn_ret <|  inB_ret <|  inB_ret <|  thn_ret <|  thn_ret <|  inB_ret <|  thn_ret <| ?_
       refine fin1 ?_
       exact ⟨rfl, (he4.trans he5).trans hq6⟩
      ·skip
       refine J.skip ?_
       refine J.region ?_
       refine L.va rfl (X.move (by conv => lhs; whnf)) ?_
       refine L.va rfl (X.add rfl rfl (by omega)) ?_
       refine L.va rfl (X.assign (by conv => lhs; whnf)) ?_
       refine L.nil ?_
       refine ⟨k + 1, At1 (by first | rfl | exact at_int rfl (by omega) | exact at_slice rfl (by omega) | exact at_int rfl (by simp)), (by (iterate 28 refine Agr.lk rfl ?_); exact Agr.lk rfl (Agr.hav rfl Agr.rfl')), ?_⟩
       refine ⟨⟨by omega, fun j hj => ?_, he5.trans hq6⟩, by omega⟩
       rcases Nat.lt_or_ge j k with h | h
       ·exact hQ j h
       ·obtain rfl : j = k := by omega
        exact hne
     ·skip
      refine J.exit ?_
      refine J.region ?_
      refine L.va rfl (X.move (by conv => lhs; whnf)) ?_
      refine L.va rfl (X.add rfl rfl (by omega)) ?_
      refine L.va rfl (X.assign (by conv => lhs; whnf)) ?_
      refine L.nil ?_
      refine ⟨i + 1, At1 (by first | rfl | exact at_int rfl (by omega) | exact at_slice rfl (by omega) | exact at_int rfl (by simp)), (by (iterate 11 refine Agr.lk rfl ?_); refine Agr.lk rfl ?_; refine Agr.hav rfl ?_; (iterate 32 refine Agr.lk rfl ?_); exact Agr.lk rfl (Agr.hav rfl Agr.rfl')), ?_⟩
      refine ⟨⟨by omega, fun j hj => ?_, he4.trans he5⟩, by omega⟩
      rcases Nat.lt_or_ge j i with h | h
      ·exact hP j h
      ·obtain rfl : j = i := by omega
       rw [← hx, ← hy]
       have e1 : x.d = y.d := by omega
       have e2 : x.l = y.l := List.ext_getElem (by omega) fun q h1 h2 => by
        have := hQ q (by omega)
        rw [List.getD, List.getD, List.getElem?_eq_getElem h1, List.getElem?_eq_getElem h2] at this
        exact this
       show (x.d, x.l) = (y.d, y.l)
       rw [e1, e2]
   ·rw [keys_all (by omega) (fun j hj => hP j (by omega))]
    refine J.exit ?_
    refine J.seq ?_
    refine J.region ?_
    refine L.va rfl (X.assign (by conv => lhs; whnf)) ?_
    refine L.nil ?_
    refine J.ret ?_
    refine fin1 ?_
    exact ⟨rfl, he3⟩
end Go.Proofs.YtpomklkfedpkfaaGreat
namespace Go.Proofs.YtpomklkfedpkfaaGreat
set_option maxRecDepth 100000
open Go.RowKit H
set_option linter.unusedVariables false
theorem fis_of {w : World} {B n c : Nat} {A : Option Addr} {xs : List ((Nm .i64) × (List (Nm .i64)))} (h : LiesSlice w B A n xs) (hm : n ≤ maxLen) : ∃ l : List Fi, (Fis.mk A n c l).At B w := by
  obtain ⟨l, h1, h2, h3⟩ := h.rows (X := Fi) (f := Fi.vs) (g := fun r => r.At B w) (fun _ => rfl) (fun us a hl => by
    obtain ⟨u1, u2, rfl, k1, ⟨A, n, c, rfl, hn, hc, _, hl⟩⟩ := hl
    exact ⟨⟨a.1.z, A, n, c, zsOf a.2⟩, by rw [show u1 = [.int .i64 a.1.z] from k1]; rfl, hl.reads, Nat.le_trans hn hc⟩)
  exact ⟨l, h2, h3, h1, hm⟩
end Go.Proofs.YtpomklkfedpkfaaGreat
namespace Go.Proofs.YtpomklkfedpkfaaGreat
set_option maxRecDepth 100000
open Go.RowKit H
open Nrm (nrm)
set_option linter.unusedVariables false
abbrev sC (b1 : Nat) : Sch := ⟨some ⟨b1, 0, none⟩, 1, 1, none, 0, 0, none, 0, 0, none, 0, 0, [(aA, 4)], [], [], []⟩
theorem sC_code (b1 : Nat) : (sC b1).code = 0 := by
  show chk 1 0 0 0 [(aA, 4)] [] [] [] = 0
  decide +kernel
theorem sC_here (b1 : Nat) {w : World} (h1 : Blk w b1 54 (dimsV [(aA, 4)]).toArray) : (sC b1).Here w :=
  ⟨blk_readsN h1 h1.lt rfl, Reads.none_, Reads.none_, Reads.none_, fun i => ⟨by simp, by simp⟩, (show 1 ≤ 100 ∧ 0 ≤ 100 ∧ 0 ≤ 100 ∧ 0 ≤ 100 by decide)⟩
theorem sC_szs (b1 : Nat) : szs (sC b1) (sC b1).nd = [4] := rfl
theorem fcode_ok {s : Sch} {f : Fis} (hc : s.code = 0) (hn : f.n ≤ 20) (h : ∀ x, x ∈ f.l → fE s x = 0) : fcode s f = 0 := by
  unfold fcode
  rw [if_neg (fun k => k hc), if_neg (by omega)]
  exact fst_0 (d := fi0) fun j hj => h _ (memF hj)
abbrev fC (b2 b3 b4 : Nat) : Fis := ⟨some ⟨b4, 0, none⟩, 2, 2, [⟨0, some ⟨b2, 0, none⟩, 2, 2, [1, 2]⟩, ⟨0, some ⟨b3, 0, none⟩, 2, 2, [3, 2]⟩]⟩
abbrev fC4 (b2 b3 : Nat) : Fis := ⟨some ⟨b3, 0, none⟩, 1, 1, [⟨0, some ⟨b2, 0, none⟩, 4, 4, [0, 1, 3, 2]⟩]⟩
abbrev fC1 (b2 b3 : Nat) : Fis := ⟨some ⟨b3, 0, none⟩, 1, 1, [⟨0, some ⟨b2, 0, none⟩, 1, 1, [2]⟩]⟩
theorem fEC (b1 : Nat) {A : Option Addr} {n c : Nat} {l : List Int} (hn : n ≤ 4) (h : ∀ i, i < n → 0 ≤ l.getD i 0 ∧ l.getD i 0 < 4) : fE (sC b1) ⟨0, A, n, c, l⟩ = 0 :=
  fE_0 (show ¬ ((0 : Int) < 0 ∨ (1 : Int) ≤ 0) by decide) (show ¬ 4096 < n by omega) (fun i hi => h i hi)
theorem fC_code (b1 b2 b3 b4 : Nat) : fcode (sC b1) (fC b2 b3 b4) = 0 :=
  fcode_ok (sC_code b1) (show 2 ≤ 20 by decide) (by
    intro x hx
    rcases List.mem_cons.1 hx with rfl | hx
    · exact fEC b1 (by decide) (by decide)
    · rcases List.mem_cons.1 hx with rfl | hx
      · exact fEC b1 (by decide) (by decide)
      · cases hx)
theorem fC4_code (b1 b2 b3 : Nat) : fcode (sC b1) (fC4 b2 b3) = 0 :=
  fcode_ok (sC_code b1) (show 1 ≤ 20 by decide) (by
    intro x hx
    rcases List.mem_cons.1 hx with rfl | hx
    · exact fEC b1 (by decide) (by decide)
    · cases hx)
theorem fC_nrm : nrm [(0, [1, 2]), (0, [3, 2])] 0 [4] = [(0, [2])] := by decide +kernel
theorem fC4_nrm : nrm [(0, [0, 1, 3, 2])] 0 [4] = [] := by decide +kernel
theorem awake28 (w : World) : Calls Tryz.prog 7 #[] w fun e w' => e = .returned (.bool true) ∧ Ext w w' := by
 refine enter Tryz.func7 rfl (by kernel_rfl) ?_
 refine J.seq ?_
 refine J.region ?_
 refine L.va rfl (X.assign (by conv => lhs; whnf)) ?_
 refine L.nil ?_
 refine J.seq ?_
 refine J.region ?_
 refine L.va rfl (X.build (l := [_, _]) (Evs.cons (by conv => lhs; whnf) (Evs.cons (by conv => lhs; whnf) Evs.nil)) (bld_run Tryz.underlying54 (bp_54 Tryz.underlying54) zr_54 rfl)) ?_
 refine L.bslice1 (l := [_, _]) rfl rfl rfl Tryz.underlying22 sz_54 zr_54 rfl ?_
 intro b1 w1 hb1 hs1 hk1 he1
 refine L.va rfl (X.build (l := [_, _, _, _]) (Evs.cons (by conv => lhs; whnf) Evs.nil) (bld_run Tryz.underlying26 (bp_26 Tryz.underlying26) zr_26 rfl)) ?_
 refine L.alloc rfl zr_26 ?_
 intro b2 w2 hb2 hs2 hk2 he2
 refine L.storeAgg (vs := [_, _, _, _]) rfl rfl rfl rfl sz_26 (hk2) rfl ?_
 intro w3 hk3 hg3 hs3
 have he13 : Ext w1 w3 := he2.grw hg3 (by intro g hg; injection hg with hg; omega)
 have he03 := he1.trans he13
 have hk13 := hk1.ext he13
 have H3 : (sC b1).Here w3 := sC_here b1 hk13
 refine L.nil ?_
 refine J.seq ?_
 refine J.region ?_
 refine L.va rfl ((by first | exact X.loadAgg rfl (range_l hk3) Tryz.underlying26 rfl (by kernel_rfl) | exact X.loadAgg rfl (range_blk hk3) Tryz.underlying26 rfl (by kernel_rfl))) ?_
 refine L.bslice (vs := [_, _]) rfl (Evs.cons (by conv => lhs; whnf) (Evs.cons (by conv => lhs; whnf) Evs.nil)) rfl rfl rfl rfl Tryz.underlying44 sz_3 zr_3 (by decide) ?_
 intro b4 w4 hb4 hs4 hk4 he4
 refine L.va rfl (X.build (l := [_, _]) (Evs.cons (by conv => lhs; whnf) Evs.nil) (bld_run Tryz.underlying46 (bp_46 Tryz.underlying46) zr_46 rfl)) ?_
 refine L.bslice (vs := [_, _]) rfl (Evs.cons (by conv => lhs; whnf) (Evs.cons (by conv => lhs; whnf) Evs.nil)) rfl rfl rfl rfl Tryz.underlying44 sz_3 zr_3 (by decide) ?_
 intro b5 w5 hb5 hs5 hk5 he5
 refine L.va rfl (X.build (l := [_, _]) (Evs.cons (by conv => lhs; whnf) Evs.nil) (bld_run Tryz.underlying46 (bp_46 Tryz.underlying46) zr_46 rfl)) ?_
 refine L.bsliceR (ls := [[_, _], [_, _]]) rfl (Evs.cons (by conv => lhs; whnf) (Evs.cons (by conv => lhs; whnf) Evs.nil)) rfl rfl rfl rfl Tryz.underlying28 sz_46 zr_46 (by decide) ?_
 intro b6 w6 hb6 hs6 hk6 he6
 have he46 := he5.trans he6
 have he36 := he4.trans he46
 have hk46 := hk4.ext he46
 have hk56 := hk5.ext he6
 have q6 : (fC b4 b5 b6).At w6.heap.size w6 := ⟨blk_readsN hk6 hk6.lt rfl, (fun x hx => by
  rcases List.mem_cons.1 hx with rfl | hx
  ·exact ⟨blk_reads hk46 hk46.lt rfl, (show 2 ≤ maxLen by decide)⟩
  ·rcases List.mem_cons.1 hx with rfl | hx
   ·exact ⟨blk_reads hk56 hk56.lt rfl, (show 2 ≤ maxLen by decide)⟩
   ·cases hx), rfl, (show 2 ≤ maxLen by decide)⟩
 replace hk3 := hk3.ext he36
 have c1 := fnorm_ok (H3.ext he36) q6 (fC_code b1 b4 b5 b6)
 refine L.call rfl en_13 rfl (c1) ?_
 rintro e w7 ⟨r, rfl, hr, hrk, he7⟩
 refine ⟨_, rfl, ?_⟩
 rw [sC_szs] at hrk
 have hrk : r.l.map Fi.key = [(0, [2])] := hrk.trans fC_nrm
 have he37 := he36.trans he7
 have hr7 := hr.at
 replace hk3 := hk3.ext he7
 refine L.va rfl (X.move (by conv => lhs; whnf)) ?_
 iterate 2 refine L.va rfl (X.extract rfl rfl) ?_
 iterate 2 refine L.va rfl (X.assign (by conv => lhs; whnf)) ?_
 refine L.nil ?_
 refine J.seq ?_
 refine J.region ?_
 refine L.va rfl ((by first | exact X.loadAgg rfl (range_l hk3) Tryz.underlying26 rfl (by kernel_rfl) | exact X.loadAgg rfl (range_blk hk3) Tryz.underlying26 rfl (by kernel_rfl))) ?_
 refine L.bslice (vs := [_, _, _, _]) rfl (Evs.cons (by conv => lhs; whnf) (Evs.cons (by conv => lhs; whnf) (Evs.cons (by conv => lhs; whnf) (Evs.cons (by conv => lhs; whnf) Evs.nil)))) rfl rfl rfl rfl Tryz.underlying44 sz_3 zr_3 (by decide) ?_
 intro b8 w8 hb8 hs8 hk8 he8
 refine L.va rfl (X.build (l := [_, _]) (Evs.cons (by conv => lhs; whnf) Evs.nil) (bld_run Tryz.underlying46 (bp_46 Tryz.underlying46) zr_46 rfl)) ?_
 refine L.bslice1 (l := [_, _]) rfl rfl rfl Tryz.underlying28 sz_46 zr_46 rfl ?_
 intro b9 w9 hb9 hs9 hk9 he9
 have he39 := (he37.trans he8).trans he9
 have hk89 := hk8.ext he9
 have q9 : (fC4 b8 b9).At w9.heap.size w9 := ⟨blk_readsN hk9 hk9.lt rfl, (fun x hx => by
  rcases List.mem_cons.1 hx with rfl | hx
  ·exact ⟨blk_reads hk89 hk89.lt rfl, (show 4 ≤ maxLen by decide)⟩
  ·cases hx), rfl, (show 1 ≤ maxLen by decide)⟩
 have c2 := fnorm_ok (H3.ext he39) q9 (fC4_code b1 b8 b9)
 have he79 := he8.trans he9
 replace hk3 := hk3.ext he79
 refine L.call rfl en_13 rfl (c2) ?_
 rintro e wa ⟨r2, rfl, hr2, hrk2, hea⟩
 refine ⟨_, rfl, ?_⟩
 rw [sC_szs] at hrk2
 have hrk2 : r2.l.map Fi.key = [] := hrk2.trans fC4_nrm
 obtain ⟨A2, n2, d2, l2⟩ := r2
 have hn2 : n2 = 0 := by
  have := hr2.l
  rw [show l2 = [] from List.map_eq_nil_iff.1 hrk2] at this
  exact this.symm
 have he3a := he39.trans hea
 have hra := hr7.ext ((he8.trans he9).trans hea)
 subst hn2
 refine L.va rfl (X.move (by conv => lhs; whnf)) ?_
 iterate 2 refine L.va rfl (X.extract rfl rfl) ?_
 iterate 2 refine L.va rfl (X.assign (by conv => lhs; whnf)) ?_
 refine L.nil ?_
 refine J.seq ?_
 refine J.region ?_
 refine L.va rfl (X.move (by conv => lhs; whnf)) ?_
 refine L.va rfl (X.eql rfl rfl) ?_
 refine L.va rfl (X.move (by conv => lhs; whnf)) ?_
 refine L.caseDecT (k := 29) rfl (by rfl) ?_
 refine L.va rfl (X.move (by conv => lhs; whnf)) ?_
 refine L.bslice (vs := [_]) rfl (Evs.cons (by conv => lhs; whnf) Evs.nil) rfl rfl rfl rfl Tryz.underlying44 sz_3 zr_3 (by decide) ?_
 intro bb wb hbb hsb hkb heb
 refine L.va rfl (X.build (l := [_, _]) (Evs.cons (by conv => lhs; whnf) Evs.nil) (bld_run Tryz.underlying46 (bp_46 Tryz.underlying46) zr_46 rfl)) ?_
 refine L.bslice1 (l := [_, _]) rfl rfl rfl Tryz.underlying28 sz_46 zr_46 rfl ?_
 intro bc wc hbc hsc hkc hec
 have hkbc := hkb.ext hec
 have heac := heb.trans hec
 have qc : (fC1 bb bc).At wc.heap.size wc := ⟨blk_readsN hkc hkc.lt rfl, (fun x hx => by
  rcases List.mem_cons.1 hx with rfl | hx
  ·exact ⟨blk_reads hkbc hkbc.lt rfl, (show 1 ≤ maxLen by decide)⟩
  ·cases hx), rfl, (show 1 ≤ maxLen by decide)⟩
 have c3 := rsame28 ((hra.ext heac).more (((he8.trans he9).trans hea).trans heac).le) qc
 rw [hrk] at c3
 refine L.call rfl en_14 rfl (c3) ?_
 rintro e wd ⟨rfl, hed⟩
 refine ⟨_, rfl, ?_⟩
 refine L.va rfl (X.pickT rfl (by conv => lhs; whnf)) ?_
 refine L.va rfl (X.move (by conv => lhs; whnf)) ?_
 refine L.caseBT (k := 36) rfl (by rfl) ?_
 refine L.va rfl (X.move (by conv => lhs; whnf)) ?_
 refine L.va rfl (X.eql rfl rfl) ?_
 refine L.va rfl (X.pickT rfl (by conv => lhs; whnf)) ?_
 refine L.va rfl (X.move (by conv => lhs; whnf)) ?_
 refine L.caseDecT (k := 40) rfl (by rfl) ?_
 refine L.va rfl (X.move (by conv => lhs; whnf)) ?_
 refine L.va rfl (X.len rfl Tryz.underlying28) ?_
 refine L.va rfl (X.eql rfl rfl) ?_
 refine L.va rfl (X.pickT rfl (by conv => lhs; whnf)) ?_
 refine L.va rfl (X.assign (by conv => lhs; whnf)) ?_
 refine L.nil ?_
 refine J.ret ?_
 refine fin1 ?_
 exact ⟨rfl, (((he03.trans he3a).trans heac).trans hed)⟩
end Go.Proofs.YtpomklkfedpkfaaGreat
namespace Go.Proofs.YtpomklkfedpkfaaGreat
set_option maxRecDepth 100000
open Go.RowKit H
set_option linter.unusedVariables false
theorem light28 (f : Fis) (w : World) (hf : f.At w.heap.size w) : Calls Tryz.prog 5 #[f.val] w fun e w' => (∃ b, e = .returned (.bool b)) ∧ w = w' := by
 have hl := hf.l
 have hm := hf.m
 unfold maxLen at hm
 refine enter Tryz.func5 rfl (by kernel_rfl) ?_
 refine J.seq ?_
 refine J.region ?_
 refine L.va rfl (X.assign (by conv => lhs; whnf)) ?_
 refine L.nil ?_
 iterate 2 refine J.seq ?_
 refine J.region ?_
 refine L.va rfl (X.move (by conv => lhs; whnf)) ?_
 refine L.va rfl (X.len rfl Tryz.underlying28) ?_
 refine L.va rfl (X.gtr rfl rfl) ?_
 refine L.nil ?_
 refine J.dec rfl (fun h1 => ?_) (fun h1 => ?_)
 ·refine J.seq ?_
  refine J.region ?_
  refine L.va rfl (X.assign (by conv => lhs; whnf)) ?_
  refine L.nil ?_
  refine J.ret ?_
  refine thn_ret <| ?_
  refine fin1 ?_
  exact ⟨⟨_, rfl⟩, rfl⟩
 ·refine J.skip ?_
  iterate 2 refine J.seq ?_
  refine J.region ?_
  refine L.va rfl (X.assign (by conv => lhs; whnf)) ?_
  refine L.nil ?_
  refine J.block ?_
  refine J.loop (X := Nat) [2, 3, 7, 8, 9, 10, 11, 12, 13, 14, 15, 16, 17, 18, 19, 20, 21, 22, 23, 24, 25, 26, 27, 28, 29, 30, 31, 32, 33, 34, 35, 36, 37] (fun i => [(3, .int .i64 (i : Int))]) (fun i w' => w' = w ∧ i ≤ f.n) (fun i => f.n - i) (0) (At1 (by first | rfl | exact at_int rfl (by omega) | exact at_slice rfl (by omega) | exact at_int rfl (by simp))) ?_ ?_
  ·exact ⟨rfl, Nat.zero_le _⟩
  ·rintro i g w1 ⟨rfl, hi⟩
   iterate 2 refine J.seq ?_
   refine J.region ?_
   iterate 2 refine L.va rfl (X.move (by conv => lhs; whnf)) ?_
   refine L.va rfl (X.len rfl Tryz.underlying28) ?_
   refine L.va rfl (X.lss rfl rfl) ?_
   refine L.nil ?_
   refine J.dec rfl (fun hlt => ?_) (fun hlt => ?_)
   ·have hA := hf.r.some_ (by omega)
    obtain ⟨x, hx⟩ : ∃ x, x = f.l.getD i fi0 := ⟨_, rfl⟩
    have hgt := gtF (l := f.l) (i := i) (by omega)
    rw [← hx] at hgt
    refine J.skip ?_
    refine J.seq ?_
    refine J.block ?_
    refine J.seq ?_
    refine J.region ?_
    iterate 2 refine L.va rfl (X.move (by conv => lhs; whnf)) ?_
    refine L.va rfl ((by first | exact X.indexAddrn rfl rfl Tryz.underlying28 sz_46 (by first | exact Option.some_ne_none _ | exact hA) (by omega) | exact X.indexAddr rfl rfl Tryz.underlying28 sz_46 (by first | exact Option.some_ne_none _ | exact hA) (by omega))) ?_
    refine L.va rfl (X.fieldP rfl Tryz.underlying46 rfl sz_44 (by decide) (by first | exact Option.some_ne_none _ | exact hA)) ?_
    refine L.va rfl (X.load rfl sc_44 (by first | exact hA | exact Ld.flat2 fi_len hf.r hgt (r := 1) rfl)) ?_
    refine L.va rfl (X.len rfl Tryz.underlying44) ?_
    refine L.va rfl (X.gtr rfl rfl) ?_
    refine L.va rfl (X.move (by conv => lhs; whnf)) ?_
    refine L.caseDec (k := 20) rfl (fun h2 => ?_) (fun h2 => ?_)
    ·refine L.va rfl (X.move (by conv => lhs; whnf)) ?_
     refine L.va rfl (X.move (by conv => lhs; whnf)) ?_
     refine L.va rfl ((by first | exact X.indexAddrn rfl rfl Tryz.underlying28 sz_46 (by first | exact Option.some_ne_none _ | exact hA) (by omega) | exact X.indexAddr rfl rfl Tryz.underlying28 sz_46 (by first | exact Option.some_ne_none _ | exact hA) (by omega))) ?_
     refine L.va rfl (X.fieldP rfl Tryz.underlying46 rfl sz_44 (by decide) (by first | exact Option.some_ne_none _ | exact hA)) ?_
     refine L.va rfl (X.load rfl sc_44 (by first | exact hA | exact Ld.flat2 fi_len hf.r hgt (r := 1) rfl)) ?_
     refine L.va rfl (X.len rfl Tryz.underlying44) ?_
     refine L.va rfl (X.leq rfl rfl) ?_
     refine L.va rfl (X.pickT rfl (by conv => lhs; whnf)) ?_
     refine L.va rfl (X.move (by conv => lhs; whnf)) ?_
     refine L.caseDec (k := 29) rfl (fun h3 => ?_) (fun h3 => ?_)
     ·refine L.no rfl ?_
      iterate 6 refine L.no rfl ?_
      refine L.va rfl (X.pickT rfl (by conv => lhs; whnf)) ?_
      refine L.nil ?_
      refine J.iteT rfl ?_
      refine J.seq ?_
      refine J.region ?_
      refine L.va rfl (X.assign (by conv => lhs; whnf)) ?_
      refine L.nil ?_
      refine J.ret ?_
      refine inB_ret <|  thn_ret <|  thn_ret <|  inB_ret <|  thn_ret <| ?_
      refine fin1 ?_
      exact ⟨⟨_, rfl⟩, rfl⟩
     ·refine L.va rfl (X.move (by conv => lhs; whnf)) ?_
      refine L.va rfl (X.move (by conv => lhs; whnf)) ?_
      refine L.va rfl ((by first | exact X.indexAddrn rfl rfl Tryz.underlying28 sz_46 (by first | exact Option.some_ne_none _ | exact hA) (by omega) | exact X.indexAddr rfl rfl Tryz.underlying28 sz_46 (by first | exact Option.some_ne_none _ | exact hA) (by omega))) ?_
      refine L.va rfl (X.fieldP rfl Tryz.underlying46 rfl sz_44 (by decide) (by first | exact Option.some_ne_none _ | exact hA)) ?_
      refine L.va rfl (X.load rfl sc_44 (by first | exact hA | exact Ld.flat2 fi_len hf.r hgt (r := 1) rfl)) ?_
      refine L.va rfl (X.len rfl Tryz.underlying44) ?_
      refine L.va rfl (X.gtr rfl rfl) ?_
      refine L.va rfl (X.pickF rfl (by conv => lhs; whnf)) ?_
      refine L.nil ?_
      refine J.dec rfl (fun h4 => ?_) (fun h4 => ?_)
      ·refine J.seq ?_
       refine J.region ?_
       refine L.va rfl (X.assign (by conv => lhs; whnf)) ?_
       refine L.nil ?_
       refine J.ret ?_
       refine inB_ret <|  thn_ret <|  thn_ret <|  inB_ret <|  thn_ret <| ?_
       refine fin1 ?_
       exact ⟨⟨_, rfl⟩, rfl⟩
      ·refine J.skip ?_
       refine J.region ?_
       refine L.va rfl (X.move (by conv => lhs; whnf)) ?_
       refine L.va rfl (X.add rfl rfl (by omega)) ?_
       refine L.va rfl (X.assign (by conv => lhs; whnf)) ?_
       refine L.nil ?_
       refine ⟨i + 1, At1 (by first | rfl | exact at_int rfl (by omega) | exact at_slice rfl (by omega) | exact at_int rfl (by simp)), (by (iterate 34 refine Agr.lk rfl ?_); exact Agr.lk rfl (Agr.hav rfl Agr.rfl')), ?_⟩
       exact ⟨⟨rfl, by omega⟩, by omega⟩
    ·refine L.no rfl ?_
     iterate 6 refine L.no rfl ?_
     refine L.va rfl (X.pickF rfl (by conv => lhs; whnf)) ?_
     iterate 3 refine L.va rfl (X.move (by conv => lhs; whnf)) ?_
     refine L.va rfl ((by first | exact X.indexAddrn rfl rfl Tryz.underlying28 sz_46 (by first | exact Option.some_ne_none _ | exact hA) (by omega) | exact X.indexAddr rfl rfl Tryz.underlying28 sz_46 (by first | exact Option.some_ne_none _ | exact hA) (by omega))) ?_
     refine L.va rfl (X.fieldP rfl Tryz.underlying46 rfl sz_44 (by decide) (by first | exact Option.some_ne_none _ | exact hA)) ?_
     refine L.va rfl (X.load rfl sc_44 (by first | exact hA | exact Ld.flat2 fi_len hf.r hgt (r := 1) rfl)) ?_
     refine L.va rfl (X.len rfl Tryz.underlying44) ?_
     refine L.va rfl (X.gtr rfl rfl) ?_
     refine L.va rfl (X.pickF rfl (by conv => lhs; whnf)) ?_
     refine L.nil ?_
     refine J.dec rfl (fun h4 => ?_) (fun h4 => ?_)
     ·refine J.seq ?_
      refine J.region ?_
      refine L.va rfl (X.assign (by conv => lhs; whnf)) ?_
      refine L.nil ?_
      refine J.ret ?_
      refine inB_ret <|  thn_ret <|  thn_ret <|  inB_ret <|  thn_ret <| ?_
      refine fin1 ?_
      exact ⟨⟨_, rfl⟩, rfl⟩
     ·refine J.skip ?_
      refine J.region ?_
      refine L.va rfl (X.move (by conv => lhs; whnf)) ?_
      refine L.va rfl (X.add rfl rfl (by omega)) ?_
      refine L.va rfl (X.assign (by conv => lhs; whnf)) ?_
      refine L.nil ?_
      refine ⟨i + 1, At1 (by first | rfl | exact at_int rfl (by omega) | exact at_slice rfl (by omega) | exact at_int rfl (by simp)), (by (iterate 33 refine Agr.lk rfl ?_); exact Agr.lk rfl (Agr.hav rfl Agr.rfl')), ?_⟩
      exact ⟨⟨rfl, by omega⟩, by omega⟩
   ·refine J.exit ?_
    refine J.seq ?_
    refine J.region ?_
    refine L.va rfl (X.assign (by conv => lhs; whnf)) ?_
    refine L.nil ?_
    refine J.ret ?_
    refine fin1 ?_
    exact ⟨⟨_, rfl⟩, rfl⟩
end Go.Proofs.YtpomklkfedpkfaaGreat
namespace Go.Proofs.YtpomklkfedpkfaaGreat
set_option maxRecDepth 100000
open Go.RowKit H
set_option linter.unusedVariables false
theorem zsOf_u32b (xs : List (Nm .u32)) : InB 4294967296 (zsOf xs) := by
  intro z hz
  unfold zsOf at hz
  obtain ⟨a, _, rfl⟩ := List.mem_map.1 hz
  exact a.u32
theorem zsOf_u8b (xs : List (Nm .u8)) : InB 256 (zsOf xs) := zsOf_u8 xs
theorem flB (x : Fl) : x.b < 18446744073709551616 := of_decide_eq_true x.ok
abbrev WhT := (Nm .i64) × (Nm .i64) × (List (Nm .u32)) × (Nm .i64) × (Nm .i64)
abbrev ReT := (List (Nm .u8)) × (Fl) × (Fl)
abbrev CeT := (Nm .u64) × (Nm .i64) × (List WhT) × (List ReT)
theorem whs_of {w : World} {B n : Nat} {A : Option Addr} {xs : List WhT} (h : LiesSlice w B A n xs) : ∃ l : List Wh, l.length = n ∧ Reads w B 5 A n (l.flatMap Wh.vs) ∧ ∀ x ∈ l, x.At B w := by
  obtain ⟨l, h1, h2, h3⟩ := h.rows (X := Wh) (f := Wh.vs) (g := fun v => v.At B w) (fun _ => rfl) (fun us a hl => by
    obtain ⟨u1, u2, rfl, k1, ⟨v1, v2, rfl, k2, ⟨x1, x2, rfl, ⟨A, n, c, rfl, hn, hc, _, hl⟩, ⟨y1, y2, rfl, k3, k4⟩⟩⟩⟩ := hl
    refine ⟨⟨a.1.z, a.2.1.z, A, n, c, zsOf a.2.2.1, a.2.2.2.1.z, a.2.2.2.2.z⟩, ?_, hl.reads, Nat.le_trans hn hc, ⟨a.1.i64, a.2.1.i64, zsOf_u32b _, a.2.2.2.1.i64, a.2.2.2.2.i64⟩, hn⟩
    rw [show u1 = [.int .i64 a.1.z] from k1, show v1 = [.int .i64 a.2.1.z] from k2, show y1 = [.int .i64 a.2.2.2.1.z] from k3, show y2 = [.int .i64 a.2.2.2.2.z] from k4]
    rfl)
  exact ⟨l, h1, h2, h3⟩
theorem res_of {w : World} {B n : Nat} {A : Option Addr} {xs : List ReT} (h : LiesSlice w B A n xs) : ∃ l : List Re, l.length = n ∧ Reads w B 3 A n (l.flatMap Re.vs) ∧ ∀ x ∈ l, x.At B w := by
  obtain ⟨l, h1, h2, h3⟩ := h.rows (X := Re) (f := Re.vs) (g := fun v => v.At B w) (fun _ => rfl) (fun us a hl => by
    obtain ⟨u1, u2, rfl, ⟨A, n, c, rfl, hn, hc, _, hl⟩, ⟨v1, v2, rfl, k2, k3⟩⟩ := hl
    refine ⟨⟨A, n, c, zsOf a.1, a.2.1.b, a.2.2.b⟩, ?_, hl.reads, Nat.le_trans hn hc, zsOf_u8b _, flB _, flB _⟩
    rw [show v1 = [.float .f64 a.2.1.b] from k2, show v2 = [.float .f64 a.2.2.b] from k3]
    rfl)
  exact ⟨l, h1, h2, h3⟩
theorem ce_of {w : World} {B : Nat} {us : List Value} {x : CeT} (h : Lay.lies w B us x) : ∃ r : Ce, us = r.vs ∧ r.At B w := by
  obtain ⟨u1, u2, rfl, k1, ⟨v1, v2, rfl, k2, ⟨x1, x2, rfl, ⟨A, n, c, rfl, hn, hc, _, hl⟩, ⟨A', n', c', rfl, hn', hc', _, hl'⟩⟩⟩⟩ := h
  obtain ⟨li, h1, h2, h3⟩ := whs_of hl
  obtain ⟨lr, h4, h5, h6⟩ := res_of hl'
  obtain ⟨m, hm⟩ := Int.eq_ofNat_of_zero_le x.1.u64.1
  refine ⟨⟨m, x.2.1.z, A, n, c, li, A', n', c', lr⟩, ?_, (by show m < 18446744073709551616; have := x.1.u64.2; omega), x.2.1.i64, h2, h3, h1, Nat.le_trans hn hc, h5, h6, h4, Nat.le_trans hn' hc'⟩
  rw [show u1 = [.int .u64 x.1.z] from k1, show v1 = [.int .i64 x.2.1.z] from k2, hm]
  rfl
theorem ces_of {w : World} {B n c : Nat} {A : Option Addr} {xs : List CeT} (h : LiesSlice w B A n xs) (hm : n ≤ maxLen) : ∃ l : List Ce, (Ces.mk A n c l).At B w := by
  obtain ⟨l, h1, h2, h3⟩ := h.rows (X := Ce) (f := Ce.vs) (g := fun r => r.At B w) (fun _ => rfl) (fun us a hl => ce_of hl)
  exact ⟨l, h2, h3, h1, hm⟩
end Go.Proofs.YtpomklkfedpkfaaGreat
namespace Go.Proofs.YtpomklkfedpkfaaGreat
set_option maxRecDepth 100000
open Go.RowKit H
set_option linter.unusedVariables false
abbrev AskT := (List ((Nm .i64) × (List (Nm .i64)))) × (List CeT)
theorem ask_of {w : World} {vs : List Value} {x : AskT} (h : Lay.lies w w.heap.size vs x) : ∃ (f : Fis) (t : Ces), vs = [f.val, t.val] ∧ f.At w.heap.size w ∧ t.At w.heap.size w := by
  obtain ⟨u1, u2, rfl, ⟨A, n, c, rfl, hn, hc, _, hl⟩, ⟨A', n', c', rfl, hn', hc', _, hl'⟩⟩ := h
  obtain ⟨l1, h1⟩ := fis_of (c := c) hl (Nat.le_trans hn hc)
  obtain ⟨l2, h2⟩ := ces_of (c := c') hl' (Nat.le_trans hn' hc')
  exact ⟨⟨A, n, c, l1⟩, ⟨A', n', c', l2⟩, rfl, h1, h2⟩
end Go.Proofs.YtpomklkfedpkfaaGreat
namespace Go.Proofs.YtpomklkfedpkfaaGreat
set_option maxRecDepth 100000
open Go.RowKit H
open Dfp
set_option linter.unusedVariables false
theorem law_FilterCells (w : World) (vs0 : List Value) (a0 : (List ((Str) × (Nm .i64))) × (List (Str)) × (List (Str)) × (List (Nm .u32))) (hl0 : Lay.lies w w.heap.size vs0 a0) (x1 : Nm .u32) (vs2 : List Value) (a2 : AskT) (hl2 : Lay.lies w w.heap.size vs2 a2) :
  Calls Tryz.prog 3 #[.agg vs0.toArray, .int .u32 x1.z, .agg vs2.toArray] w fun e w' => e = .returned (.bool true) ∧ Below w.heap.size w w' := by
 obtain ⟨s, rfl, hH⟩ := sch_of hl0
 obtain ⟨fa, ta, rfl, hfa, hta⟩ := ask_of hl2
 obtain ⟨m, hm1⟩ := Int.eq_ofNat_of_zero_le x1.u32.1
 have hm : m < 4294967296 := by have := x1.u32.2; omega
 rw [hm1]
 refine enter Tryz.func3 rfl (by kernel_rfl) ?_
 refine J.seq ?_
 refine J.region ?_
 refine L.boxA (l := [_, _, _, _]) rfl rfl ?_
 intro b1 w1 hb1 hs1 hk1 he1
 refine L.boxA (l := [_, _]) rfl rfl ?_
 intro b2 w2 hb2 hs2 hk2 he2
 replace hk1 := hk1.ext he2
 have hk2 : Blk w2 b2 31 [fa.val, ta.val].toArray := hk2
 have he02 := he1.trans he2
 refine L.va rfl (X.assign (by conv => lhs; whnf)) ?_
 refine L.nil ?_
 iterate 2 refine J.seq ?_
 refine J.region ?_
 refine L.va rfl ((by first | exact X.loadAgg rfl (range_l hk1) Tryz.underlying26 rfl (by kernel_rfl) | exact X.loadAgg rfl (range_blk hk1) Tryz.underlying26 rfl (by kernel_rfl) | exact X.loadAgg rfl (range_l hk2) Tryz.underlying26 rfl (by kernel_rfl) | exact X.loadAgg rfl (range_blk hk2) Tryz.underlying26 rfl (by kernel_rfl))) ?_
 refine L.call rfl en_4 rfl ((hH.ext he02).light) ?_
 rintro e w3 ⟨l1, rfl, hl1', he3⟩
 refine ⟨_, rfl, ?_⟩
 have he3 : Ext w2 w3 := he3
 have he03 := he02.trans he3
 replace hk1 := hk1.ext he3
 replace hk2 := hk2.ext he3
 refine L.va rfl (X.not rfl) ?_
 refine L.va rfl (X.move (by conv => lhs; whnf)) ?_
 cases l1
 ·refine L.caseBT (k := 14) rfl (by rfl) ?_
  iterate 4 refine L.no rfl ?_
  refine L.va rfl (X.pickT rfl (by conv => lhs; whnf)) ?_
  refine L.va rfl (X.move (by conv => lhs; whnf)) ?_
  iterate 4 refine L.no rfl ?_
  refine L.va rfl (X.pickT rfl (by conv => lhs; whnf)) ?_
  refine L.nil ?_
  refine J.iteT rfl ?_
  refine J.seq ?_
  refine J.region ?_
  refine L.call rfl en_7 rfl (awake28 _) ?_
  rintro e w4 ⟨rfl, he4⟩
  refine ⟨_, rfl, ?_⟩
  refine L.va rfl (X.assign (by conv => lhs; whnf)) ?_
  refine L.nil ?_
  refine J.ret ?_
  refine thn_ret <| ?_
  refine fin1 ?_
  exact ⟨rfl, he03.trans he4⟩
 ·have H3 := (hH.ext he03).here (hl1' rfl)
  refine L.caseBF (k := 14) rfl (by rfl) ?_
  refine L.va rfl (X.fieldAddr rfl Tryz.underlying31 rfl sz_28 (by decide)) ?_
  refine L.va rfl (X.load rfl sc_28 (by first | exact Ld.blk hk1 rfl | exact Ld.blk hk2 rfl)) ?_
  refine L.call rfl en_5 rfl (light28 fa w3 ((hfa.ext he03).more he03.le)) ?_
  rintro e _ ⟨⟨l2, rfl⟩, rfl⟩
  refine ⟨_, rfl, ?_⟩
  refine L.va rfl (X.not rfl) ?_
  refine L.va rfl (X.pickF rfl (by conv => lhs; whnf)) ?_
  refine L.va rfl (X.move (by conv => lhs; whnf)) ?_
  cases l2
  ·refine L.caseBT (k := 20) rfl (by rfl) ?_
   iterate 4 refine L.no rfl ?_
   refine L.va rfl (X.pickT rfl (by conv => lhs; whnf)) ?_
   refine L.nil ?_
   refine J.iteT rfl ?_
   refine J.seq ?_
   refine J.region ?_
   refine L.call rfl en_7 rfl (awake28 _) ?_
   rintro e w4 ⟨rfl, he4⟩
   refine ⟨_, rfl, ?_⟩
   refine L.va rfl (X.assign (by conv => lhs; whnf)) ?_
   refine L.nil ?_
   refine J.ret ?_
   refine thn_ret <| ?_
   refine fin1 ?_
   exact ⟨rfl, he03.trans he4⟩
  ·have K4 := rlight15 (s := ta) (hta.ext he03) he03.le
   refine L.caseBF (k := 20) rfl (by rfl) ?_
   refine L.va rfl (X.fieldAddr rfl Tryz.underlying31 rfl sz_29 (by decide)) ?_
   refine L.va rfl (X.load rfl sc_29 (by first | exact Ld.blk hk1 rfl | exact Ld.blk hk2 rfl)) ?_
   refine L.call rfl en_6 rfl (K4) ?_
   rintro e w4 ⟨he4, l3, rfl, hl3⟩
   refine ⟨_, rfl, ?_⟩
   have he4 : Ext w3 w4 := he4
   have he04 := he03.trans he4
   have H4 := H3.ext he4
   replace hk1 := hk1.ext he4
   replace hk2 := hk2.ext he4
   refine L.va rfl (X.not rfl) ?_
   refine L.va rfl (X.pickF rfl (by conv => lhs; whnf)) ?_
   refine L.nil ?_
   cases l3
   ·refine J.iteT rfl ?_
    refine J.seq ?_
    refine J.region ?_
    refine L.call rfl en_7 rfl (awake28 _) ?_
    rintro e w5 ⟨rfl, he5⟩
    refine ⟨_, rfl, ?_⟩
    refine L.va rfl (X.assign (by conv => lhs; whnf)) ?_
    refine L.nil ?_
    refine J.ret ?_
    refine thn_ret <| ?_
    refine fin1 ?_
    exact ⟨rfl, he04.trans he5⟩
   ·obtain ⟨tn, tL⟩ := hl3 rfl
    have K5 := fcells (s := s) (m := m) (f := fa) (t := ta) (w := w4) H4 hm ((hfa.ext he04).more he04.le) ((hta.ext he04).more he04.le) (by omega) tL
    refine J.iteF rfl ?_
    refine J.skip ?_
    refine J.seq ?_
    refine J.region ?_
    refine L.va rfl ((by first | exact X.loadAgg rfl (range_l hk1) Tryz.underlying26 rfl (by kernel_rfl) | exact X.loadAgg rfl (range_blk hk1) Tryz.underlying26 rfl (by kernel_rfl) | exact X.loadAgg rfl (range_l hk2) Tryz.underlying26 rfl (by kernel_rfl) | exact X.loadAgg rfl (range_blk hk2) Tryz.underlying26 rfl (by kernel_rfl))) ?_
    refine L.va rfl (X.move (by conv => lhs; whnf)) ?_
    refine L.va rfl (X.fieldAddr rfl Tryz.underlying31 rfl sz_28 (by decide)) ?_
    refine L.va rfl (X.load rfl sc_28 (by first | exact Ld.blk hk1 rfl | exact Ld.blk hk2 rfl)) ?_
    refine L.va rfl (X.fieldAddr rfl Tryz.underlying31 rfl sz_29 (by decide)) ?_
    refine L.va rfl (X.load rfl sc_29 (by first | exact Ld.blk hk1 rfl | exact Ld.blk hk2 rfl)) ?_
    refine L.call rfl en_8 rfl (K5) ?_
    rintro e w5 ⟨x, rfl, xat, xc, xn, xL, xB, xE, he5⟩
    refine ⟨_, rfl, ?_⟩
    have he5 : Ext w4 w5 := he5
    have he05 := he04.trans he5
    have H5 := H4.ext he5
    replace hk1 := hk1.ext he5
    replace hk2 := hk2.ext he5
    have K6 := rfcells (s := s) (m := m) (f := fa) (t := ta) (w := w5) H5 hm ((hfa.ext he05).more he05.le) ((hta.ext he05).more he05.le) (by omega) tL
    refine L.va rfl (X.move (by conv => lhs; whnf)) ?_
    iterate 2 refine L.va rfl (X.extract rfl rfl) ?_
    iterate 2 refine L.va rfl (X.assign (by conv => lhs; whnf)) ?_
    refine L.nil ?_
    refine J.seq ?_
    refine J.region ?_
    refine L.va rfl ((by first | exact X.loadAgg rfl (range_l hk1) Tryz.underlying26 rfl (by kernel_rfl) | exact X.loadAgg rfl (range_blk hk1) Tryz.underlying26 rfl (by kernel_rfl) | exact X.loadAgg rfl (range_l hk2) Tryz.underlying26 rfl (by kernel_rfl) | exact X.loadAgg rfl (range_blk hk2) Tryz.underlying26 rfl (by kernel_rfl))) ?_
    refine L.va rfl (X.move (by conv => lhs; whnf)) ?_
    refine L.va rfl (X.fieldAddr rfl Tryz.underlying31 rfl sz_28 (by decide)) ?_
    refine L.va rfl (X.load rfl sc_28 (by first | exact Ld.blk hk1 rfl | exact Ld.blk hk2 rfl)) ?_
    refine L.va rfl (X.fieldAddr rfl Tryz.underlying31 rfl sz_29 (by decide)) ?_
    refine L.va rfl (X.load rfl sc_29 (by first | exact Ld.blk hk1 rfl | exact Ld.blk hk2 rfl)) ?_
    refine L.call rfl en_9 rfl (K6) ?_
    rintro e w6 ⟨y, rfl, yat, yB, yE, he6⟩
    refine ⟨_, rfl, ?_⟩
    have he6 : Ext w5 w6 := he6
    have he06 := he05.trans he6
    have exy : x.con = y.con := by
     by_cases h : cellsE s m fa ta.con = 0
     ·rw [xE h, yE h]
     ·rw [xB h, yB h]
    have K7 := rsame15 (a := x) (b := y) (w := w6) ((xat.ext he6).more he6.le) yat (Nat.le_refl _) (by omega) (fun q hq => by have := (xL q hq).i; have := (xL q hq).r; omega)
    rw [show sameL x.con y.con = true by rw [exy]; exact sameL_refl _] at K7
    replace hk1 := hk1.ext he6
    replace hk2 := hk2.ext he6
    refine L.va rfl (X.move (by conv => lhs; whnf)) ?_
    iterate 2 refine L.va rfl (X.extract rfl rfl) ?_
    iterate 2 refine L.va rfl (X.assign (by conv => lhs; whnf)) ?_
    refine L.nil ?_
    refine J.seq ?_
    refine J.region ?_
    iterate 2 refine L.va rfl (X.move (by conv => lhs; whnf)) ?_
    refine L.va rfl (X.eql rfl rfl) ?_
    refine L.va rfl (X.move (by conv => lhs; whnf)) ?_
    refine L.caseDecT (k := 50) rfl (by rfl) ?_
    iterate 2 refine L.va rfl (X.move (by conv => lhs; whnf)) ?_
    refine L.call rfl en_10 rfl (K7) ?_
    rintro e w7 ⟨rfl, he7⟩
    refine ⟨_, rfl, ?_⟩
    have he07 := he06.trans he7
    refine L.va rfl (X.pickT rfl (by conv => lhs; whnf)) ?_
    refine L.va rfl (X.move (by conv => lhs; whnf)) ?_
    refine L.caseBT (k := 55) rfl (by rfl) ?_
    refine L.call rfl en_7 rfl (awake28 w7) ?_
    rintro e w8 ⟨rfl, he8⟩
    refine ⟨_, rfl, ?_⟩
    refine L.va rfl (X.pickT rfl (by conv => lhs; whnf)) ?_
    refine L.va rfl (X.assign (by conv => lhs; whnf)) ?_
    refine L.nil ?_
    refine J.ret ?_
    refine fin1 ?_
    exact ⟨rfl, he07.trans he8⟩
end Go.Proofs.YtpomklkfedpkfaaGreat
