import Derived.Test.YtlipeplfjkgamaaZQueryGets4
/-
  What the law leans on, part 5: WNrmD, WNrmF, WNrmG, WQryN, WQryO, WQryT, WDiffC, WQryF, WQryQ, WQryR, WQryG, WQryU, WRdP, WQryC, WQryV.
-/
namespace Go.Proofs.Ytlipeplfjkgamaa
set_option maxRecDepth 100000
open Go.RowKit H
open Nrm (Up sel mem_sel eq_sel up_sel kp sm nrm nf take_next)
set_option linter.unusedVariables false
def szN (s : Sch) (i : Nat) : Nat := (s.ds.getD i d0).2.toNat
def szs (s : Sch) (n : Nat) : List Nat := (List.range n).map (szN s)
theorem szs_next (s : Sch) (n : Nat) : szs s (n + 1) = szs s n ++ [szN s n] := by unfold szs; rw [List.range_succ, List.map_append]; rfl
theorem szs_len (s : Sch) (n : Nat) : (szs s n).length = n := by simp [szs]
abbrev Fi.key (f : Fi) : Int × List Int := (f.d, f.l)
theorem key_at {l : List Fi} {i : Nat} (h : i < l.length) : (l.map Fi.key).take (i + 1) = (l.map Fi.key).take i ++ [(l.getD i fi0).key] := by
  rw [take_next _ (0, []) (by rw [List.length_map]; exact h)]
  congr 2
  rw [List.getD, List.getElem?_map, gtF h]
  rfl
structure FOk (s : Sch) (f : Fis) : Prop where
  c : s.code = 0
  n : f.n ≤ 20
  d : ∀ i, i < f.n → 0 ≤ (f.l.getD i fi0).d ∧ (f.l.getD i fi0).d < s.nd
  m : ∀ i, i < f.n → (f.l.getD i fi0).n ≤ 4096
  k : ∀ i j, i < f.n → j < (f.l.getD i fi0).n → cOk s (f.l.getD i fi0).d ((f.l.getD i fi0).l.getD j 0)
theorem fE_ok {s : Sch} {x : Fi} (h : fE s x = 0) : (0 ≤ x.d ∧ x.d < s.nd) ∧ x.n ≤ 4096 ∧ ∀ j, j < x.n → cOk s x.d (x.l.getD j 0) := by
  unfold fE at h
  by_cases h1 : x.d < 0 ∨ (s.nd : Int) ≤ x.d
  · rw [if_pos h1] at h; exact absurd h (by decide)
  · rw [if_neg h1] at h
    by_cases h2 : 4096 < x.n
    · rw [if_pos h2] at h; exact absurd h (by decide)
    · rw [if_neg h2] at h
      by_cases h3 : ∃ i, i < x.n ∧ ¬ cOk s x.d (x.l.getD i 0)
      · rw [if_pos h3] at h; exact absurd h (by decide)
      · refine ⟨by omega, by omega, fun j hj => Decidable.byContradiction fun hn => h3 ⟨j, hj, hn⟩⟩
theorem fok {s : Sch} {f : Fis} (hl : f.l.length = f.n) (h : fcode s f = 0) : FOk s f := by
  unfold fcode at h
  by_cases h1 : s.code = 0
  · rw [if_neg (fun k => k h1)] at h
    by_cases h2 : 20 < f.n
    · rw [if_pos h2] at h; exact absurd h (by decide)
    · rw [if_neg h2] at h
      have := fst_ok (d := fi0) h
      exact ⟨h1, by omega, fun i hi => (fE_ok (this i (by omega))).1, fun i hi => (fE_ok (this i (by omega))).2.1, fun i j hi hj => (fE_ok (this i (by omega))).2.2 j hj⟩
  · rw [if_pos h1] at h; exact absurd h (by decide)
def FiOwn (x : Fi) (N : Nat) (w : World) : Prop := w.ownsRow N 3 1 (.slice x.A x.n x.c) x.n (nums .i64 x.l)
theorem FiOwn.at {x : Fi} {N : Nat} {w : World} (h : FiOwn x N w) : x.At w.heap.size w := ⟨Reads.of_own h, own_max h⟩
structure FisOwn (f : Fis) (N : Nat) (w : World) : Prop where
  o : w.ownsRow N 150 2 (.slice f.A f.n f.c) f.n (f.l.flatMap Fi.vs)
  h : ∀ x, x ∈ f.l → FiOwn x N w
  l : f.l.length = f.n
theorem FisOwn.at {f : Fis} {N : Nat} {w : World} (h : FisOwn f N w) : f.At w.heap.size w := ⟨Reads.of_own h.o, fun x hx => (h.h x hx).at, h.l, own_max h.o⟩
theorem FisOwn.ext {f : Fis} {N : Nat} {w w' : World} (h : FisOwn f N w) (he : Ext w w') : FisOwn f N w' := ⟨h.o.ext he, fun x hx => World.ownsRow.ext (h.h x hx) he, h.l⟩
theorem fnorm_ok {s : Sch} {f : Fis} {w : World} (H : s.Here w) (hf : f.At w.heap.size w) (hc : fcode s f = 0) : Calls Try.prog 87 #[s.val, f.val] w fun e w' => ∃ r : Fis, e = .returned (.tuple #[r.val, .int .i64 0]) ∧ FisOwn r w.heap.size w' ∧ r.l.map Fi.key = nrm (f.l.map Fi.key) 0 (szs s s.nd) ∧ Ext w w' := by
  have K := fok hf.l hc
  have hl := hf.l
  have hsl := H.len
  have G := Sch.good K.c
  have hnd := G.1
  have hfn := K.n
  obtain ⟨ky, eky⟩ : ∃ ky, ky = f.l.map Fi.key := ⟨_, rfl⟩
  refine enter Try.func87 rfl (by kernel_rfl) ?_
  refine J.seq ?_
  refine J.region ?_
  refine L.boxA (l := [_, _, _, _]) rfl rfl ?_
  intro b1 w1 hb1 hs1 hk1 he1
  refine L.va rfl (X.assign (by conv => lhs; whnf)) ?_
  refine L.va rfl (X.assign (by conv => lhs; whnf)) ?_
  refine L.nil ?_
  refine J.seq ?_
  refine J.seq ?_
  refine J.region ?_
  refine L.va rfl ((by first | exact X.loadAgg rfl (range_l hk1) Try.underlying49 rfl (by kernel_rfl) | exact X.loadAgg rfl (range_blk hk1) Try.underlying49 rfl (by kernel_rfl))) ?_
  refine L.va rfl (X.move (by conv => lhs; whnf)) ?_
  refine L.call rfl en_91 rfl (fcheck (H.ext he1) ((hf.ext he1).more he1.le)) ?_
  rintro e w2 ⟨rfl, he2⟩
  refine ⟨_, rfl, ?_⟩
  rw [hc]
  have he02 := he1.trans he2
  replace hk1 := hk1.ext he2
  refine L.va rfl (X.assign (by conv => lhs; whnf)) ?_
  refine L.nil ?_
  refine J.seq ?_
  refine J.region ?_
  refine L.va rfl (X.move (by conv => lhs; whnf)) ?_
  refine L.va rfl (X.neq rfl rfl) ?_
  refine L.nil ?_
  refine J.iteF rfl ?_
  refine J.skip ?_
  refine J.seq ?_
  refine J.region ?_
  refine L.va rfl (X.assign (by conv => lhs; whnf)) ?_
  refine L.nil ?_
  refine J.seq ?_
  refine J.seq ?_
  refine J.region ?_
  refine L.va rfl (X.fieldAddr rfl Try.underlying49 rfl sz_45 (by decide)) ?_
  refine L.va rfl (X.load rfl sc_45 (by first | exact Ld.blk hk1 rfl)) ?_
  refine L.va rfl (X.len rfl Try.underlying45) ?_
  refine L.va rfl (X.move (by conv => lhs; whnf)) ?_
  refine L.nil ?_
  refine J.block ?_
  refine J.loop (X := Nat × Fis) [7, 8, 9, 10, 11, 13, 23, 24, 25, 26, 27, 28, 29, 30, 31, 32, 33, 34, 35, 36, 37, 38, 39, 40, 41, 42, 43, 44, 45, 46, 47, 48, 49, 50, 51, 52, 53, 54, 55, 56, 57, 58, 59, 60, 61, 62] (fun (i, r) => [(23, .int .i64 (i : Int)), (7, r.val)]) (fun (i, r) w' => i ≤ s.nd ∧ FisOwn r w.heap.size w' ∧ r.l.map Fi.key = nrm ky 0 (szs s i) ∧ Ext w w') (fun (i, _) => s.nd - i) ((0, ⟨none, 0, 0, []⟩)) (At2 (by first | rfl | exact at_int rfl (by omega) | exact at_slice rfl (by omega) | exact at_int rfl (by simp)) (by first | rfl | exact at_int rfl (by omega) | exact at_slice rfl (by omega) | exact at_int rfl (by simp))) ?_ ?_
  · exact ⟨Nat.zero_le _, ⟨own_nil _ _ _ _, (fun x hx => by cases hx), rfl⟩, rfl, he02⟩
  · rintro ⟨i, r⟩ g w3 ⟨hi, hr, hrk, he3⟩
    have hd3 := (H.ext he3).hd
    have z3 := he3.le
    refine J.seq ?_
    refine J.region ?_
    refine L.va rfl (X.lss rfl rfl) ?_
    refine L.nil ?_
    refine J.seq ?_
    refine J.dec rfl (fun hlt => ?_) (fun hlt => ?_)
    · have hil : i < s.nd := by omega
      have hA := hd3.some_ (by omega)
      have hrow := dims_row (l := s.ds) (i := i) (by omega)
      have hbd := szB_at (mono_b (szB_s s.ds) (by omega : i + 1 ≤ s.nd) G.2)
      have hn : ((szN s i : Nat) : Int) = (s.ds.getD i d0).2 := by unfold szN; omega
      refine J.skip ?_
      refine J.seq ?_
      refine J.block ?_
      refine J.seq ?_
      refine J.region ?_
      refine L.va rfl (X.move (by conv => lhs; whnf)) ?_
      refine L.va rfl ((by first | exact X.indexAddrn rfl rfl Try.underlying45 sz_128 (by first | exact Option.some_ne_none _ | exact hA) (by omega) | exact X.indexAddr rfl rfl Try.underlying45 sz_128 (by first | exact Option.some_ne_none _ | exact hA) (by omega))) ?_
      refine L.va rfl (X.loadRow (cs := [.string (s.ds.getD i d0).1, .int .i64 (s.ds.getD i d0).2]) rfl hd3 hrow (Nat.zero_lt_succ _) Try.underlying128 rfl (by kernel_rfl)) ?_
      refine L.alloc rfl zr_128 ?_
      intro b4 w4 hb4 hs4 hk4 he4
      refine L.va rfl (X.assign (by conv => lhs; whnf)) ?_
      refine L.storeAgg (vs := [_, _]) rfl rfl rfl rfl sz_128 (hk4) rfl ?_
      intro w5 hk5 hg5 hs5
      have hk5 : Blk w5 b4 128 #[.string (s.ds.getD i d0).1, .int .i64 (s.ds.getD i d0).2] := hk5
      have he35 : Ext w3 w5 := he4.grw hg5 (by intro g hg; injection hg with hg; omega)
      have he5 := he3.trans he35
      have hr5 := hr.ext he35
      have z5 := he5.le
      rw [← hn] at hk5
      refine L.nil ?_
      refine J.seq ?_
      refine J.region ?_
      refine L.va rfl (X.assign (by conv => lhs; whnf)) ?_
      refine L.nil ?_
      refine J.seq ?_
      refine J.region ?_
      refine L.va rfl (X.assign (by conv => lhs; whnf)) ?_
      refine L.nil ?_
      refine J.seq ?_
      refine J.seq ?_
      refine J.region ?_
      refine L.va rfl (X.move (by conv => lhs; whnf)) ?_
      refine L.va rfl (X.len rfl Try.underlying51) ?_
      refine L.va rfl (X.move (by conv => lhs; whnf)) ?_
      refine L.nil ?_
      refine J.block ?_
      refine J.loop (X := Nat × Bool × Cs) [10, 11, 13, 30, 31, 32, 33, 34, 35, 36, 37, 38, 39, 40, 41, 42, 43, 44, 45, 46, 47] (fun (j, b, cs) => [(30, .int .i64 (j : Int)), (10, .bool b), (11, cs.val)]) (fun (j, b, cs) w' => j ≤ f.n ∧ b = sm (ky.take j) i ∧ (b = true → cs.l = sel (szN s i) (kp (ky.take j) i)) ∧ w'.ownsRow w.heap.size 3 1 cs.val cs.n (nums .i64 cs.l) ∧ Ext w5 w') (fun (j, _) => f.n - j) ((0, false, ⟨none, 0, 0, []⟩)) (At3 (by first | rfl | exact at_int rfl (by omega) | exact at_slice rfl (by omega) | exact at_int rfl (by simp)) (by first | rfl | exact at_int rfl (by omega) | exact at_slice rfl (by omega) | exact at_int rfl (by simp)) (by first | rfl | exact at_int rfl (by omega) | exact at_slice rfl (by omega) | exact at_int rfl (by simp))) ?_ ?_
      · exact ⟨Nat.zero_le _, rfl, (fun h => by cases h), own_nilN _ _ _ _, Ext.refl _⟩
      · rintro ⟨j, b, cs⟩ g w6 ⟨hj, hb, hcs, hoc, he6⟩
        have hk6 := hk5.ext he6
        have he06 := he5.trans he6
        have z6 := he06.le
        have hf6 := hf.ext he06
        refine J.seq ?_
        refine J.region ?_
        refine L.va rfl (X.lss rfl rfl) ?_
        refine L.nil ?_
        refine J.seq ?_
        refine J.dec rfl (fun hlt2 => ?_) (fun hlt2 => ?_)
        · have hjn : j < f.n := by omega
          have hA2 := hf6.r.some_ (by omega)
          obtain ⟨x, hx⟩ : ∃ x, x = f.l.getD j fi0 := ⟨_, rfl⟩
          have hX := hf6.one hjn
          have hgt := gtF (l := f.l) (i := j) (by omega)
          have hxm := K.m j hjn
          have hxk := K.k j
          have hnk := key_at (l := f.l) (i := j) (by omega)
          rw [← hx] at hX hgt hxm hxk hnk
          rw [← eky] at hnk
          have hxl := hX.len
          refine J.skip ?_
          refine J.seq ?_
          refine J.block ?_
          refine J.seq ?_
          refine J.region ?_
          refine L.va rfl ((by first | exact X.indexAddrn rfl rfl Try.underlying51 sz_150 (by first | exact Option.some_ne_none _ | exact hA2) (by omega) | exact X.indexAddr rfl rfl Try.underlying51 sz_150 (by first | exact Option.some_ne_none _ | exact hA2) (by omega))) ?_
          refine L.va rfl (X.loadRow (cs := x.vs) rfl hf6.r (fun r u hu => flat_row fi_len hgt r u hu) (Nat.zero_lt_succ _) Try.underlying150 rfl (by kernel_rfl)) ?_
          refine L.alloc rfl zr_150 ?_
          intro b7 w7 hb7 hs7 hk7 he7
          refine L.storeAgg (vs := [_, _]) rfl rfl rfl rfl sz_150 (hk7) rfl ?_
          intro w8 hk8 hg8 hs8
          have he68 : Ext w6 w8 := he7.grw hg8 (by intro g hg; injection hg with hg; omega)
          have hk8 : Blk w8 b7 150 x.vs.toArray := hk8
          have hX8 := hX.ext he68
          have hoc8 := hoc.ext he68
          have he58 := he6.trans he68
          have he08 := he06.trans he68
          refine L.nil ?_
          refine J.seq ?_
          refine J.seq ?_
          refine J.region ?_
          refine L.va rfl (X.fieldAddr rfl Try.underlying150 rfl sz_3 (by decide)) ?_
          refine L.va rfl (X.load rfl sc_3 (by first | exact Ld.blk hk1 rfl | exact Ld.blk hk8 rfl | exact hA2)) ?_
          refine L.va rfl (X.move (by conv => lhs; whnf)) ?_
          refine L.va rfl (X.neq rfl rfl) ?_
          refine L.nil ?_
          refine J.ndec rfl (fun hne => ?_) (fun hne => ?_)
          · skip
            refine J.exit ?_
            refine J.region ?_
            refine L.va rfl (X.add rfl rfl (by omega)) ?_
            refine L.va rfl (X.move (by conv => lhs; whnf)) ?_
            refine L.nil ?_
            refine ⟨(j + 1, b, cs), At3 (by first | rfl | exact at_int rfl (by omega) | exact at_slice rfl (by omega) | exact at_int rfl (by simp)) (by first | rfl | exact at_int rfl (by omega) | exact at_slice rfl (by omega) | exact at_int rfl (by simp)) (by first | rfl | exact at_int rfl (by omega) | exact at_slice rfl (by omega) | exact at_int rfl (by simp)), (by (iterate 10 refine Agr.lk rfl ?_); exact Agr.lk rfl (Agr.hav rfl Agr.rfl')), ?_⟩
            have e1 : decide (x.d = (i : Int)) = false := by simpa using hne
            refine ⟨⟨by omega, ?_, fun h => ?_, hoc8, he58⟩, by show f.n - (j + 1) < f.n - j; omega⟩
            · rw [hnk, Nrm.sm_next, e1, Bool.or_false]; exact hb
            · rw [hcs h, hnk]
              refine Nrm.sel_congr fun c _ _ => ?_
              rw [Nrm.kp_next, e1]
              simp
          · have hxd : x.d = (i : Int) := by simpa using hne
            have e1 : decide (x.d = (i : Int)) = true := by simpa using hxd
            have hsm : sm (ky.take (j + 1)) i = true := by rw [hnk, Nrm.sm_next, e1, Bool.or_true]
            have hrng : ∀ c, c ∈ x.l → 0 ≤ c ∧ c < (szN s i : Int) := by
              intro c hcx
              obtain ⟨q, hq, rfl⟩ := List.getElem_of_mem hcx
              have := hxk q hjn (by omega)
              rw [List.getD, List.getElem?_eq_getElem hq, hxd] at this
              rw [hn]
              exact this
            have c1 := fun (w' : World) (h : x.At w'.heap.size w') => plainI x.A x.n x.c x.l w' h.r (by omega)
            refine J.skip ?_
            refine J.seq ?_
            refine J.region ?_
            refine L.va rfl (X.move (by conv => lhs; whnf)) ?_
            refine L.nil ?_
            cases b
            · refine J.iteF rfl ?_
              refine J.region ?_
              refine L.va rfl (X.fieldAddr rfl Try.underlying150 rfl sz_23 (by decide)) ?_
              refine L.va rfl (X.load rfl sc_23 (by first | exact Ld.blk hk1 rfl | exact Ld.blk hk8 rfl | exact hA2)) ?_
              refine L.call rfl en_175 rfl ((c1 w8 (hX8.more he08.le))) ?_
              rintro e w9 ⟨cs2, rfl, ho9, he9, hu9, hm9⟩
              refine ⟨_, rfl, ?_⟩
              refine L.va rfl (X.assign (by conv => lhs; whnf)) ?_
              refine L.va rfl (X.assign (by conv => lhs; whnf)) ?_
              refine L.nil ?_
              refine J.region ?_
              refine L.va rfl (X.add rfl rfl (by omega)) ?_
              refine L.va rfl (X.move (by conv => lhs; whnf)) ?_
              refine L.nil ?_
              refine ⟨(j + 1, true, cs2), At3 (by first | rfl | exact at_int rfl (by omega) | exact at_slice rfl (by omega) | exact at_int rfl (by simp)) (by first | rfl | exact at_int rfl (by omega) | exact at_slice rfl (by omega) | exact at_int rfl (by simp)) (by first | rfl | exact at_int rfl (by omega) | exact at_slice rfl (by omega) | exact at_int rfl (by simp)), (by (iterate 16 refine Agr.lk rfl ?_); exact Agr.lk rfl (Agr.hav rfl Agr.rfl')), ?_⟩
              refine ⟨⟨by omega, hsm.symm, fun _ => ?_, own_lower ho9 he08.le, he58.trans he9⟩, by show f.n - (j + 1) < f.n - j; omega⟩
              refine eq_sel hu9 fun c => ?_
              rw [hm9, hnk, Nrm.kp_next, Nrm.kp_none hb.symm, e1]
              constructor
              · intro h; exact ⟨hrng c h, by simpa using h⟩
              · rintro ⟨_, h⟩; simpa using h
            · refine J.iteT rfl ?_
              refine J.region ?_
              refine L.va rfl (X.move (by conv => lhs; whnf)) ?_
              refine L.va rfl (X.fieldAddr rfl Try.underlying150 rfl sz_23 (by decide)) ?_
              refine L.va rfl (X.load rfl sc_23 (by first | exact Ld.blk hk1 rfl | exact Ld.blk hk8 rfl | exact hA2)) ?_
              refine L.call rfl en_175 rfl ((c1 w8 (hX8.more he08.le))) ?_
              rintro e w9 ⟨cs2, rfl, ho9, he9, hu9, hm9⟩
              refine ⟨_, rfl, ?_⟩
              have hoc9 := hoc8.ext he9
              have hcs' := hcs rfl
              have hcn : cs.n ≤ 5000 := by
                have h1 := (Cs.At.own hoc9).len
                have h2 := Nrm.sel_le (szN s i) (kp (ky.take j) i)
                rw [← hcs'] at h2
                have h1 : cs.l.length = cs.n := h1
                omega
              refine L.call rfl en_174 rfl (commonI cs cs2 w9 (.own hoc9) (.own ho9) (by rw [hcs']; exact up_sel _ _) hu9 hcn) ?_
              rintro e wa ⟨cs3, rfl, hoa, hea, hua, hma⟩
              refine ⟨_, rfl, ?_⟩
              refine L.va rfl (X.assign (by conv => lhs; whnf)) ?_
              refine L.nil ?_
              refine J.region ?_
              refine L.va rfl (X.add rfl rfl (by omega)) ?_
              refine L.va rfl (X.move (by conv => lhs; whnf)) ?_
              refine L.nil ?_
              have he0a := he08.trans he9
              refine ⟨(j + 1, true, cs3), At3 (by first | rfl | exact at_int rfl (by omega) | exact at_slice rfl (by omega) | exact at_int rfl (by simp)) (by first | rfl | exact at_int rfl (by omega) | exact at_slice rfl (by omega) | exact at_int rfl (by simp)) (by first | rfl | exact at_int rfl (by omega) | exact at_slice rfl (by omega) | exact at_int rfl (by simp)), (by (iterate 17 refine Agr.lk rfl ?_); exact Agr.lk rfl (Agr.hav rfl Agr.rfl')), ?_⟩
              refine ⟨⟨by omega, hsm.symm, fun _ => ?_, own_lower hoa he0a.le, (he58.trans he9).trans hea⟩, by show f.n - (j + 1) < f.n - j; omega⟩
              refine eq_sel hua fun c => ?_
              rw [hma, hcs', mem_sel, hm9, hnk, Nrm.kp_next, e1, Bool.and_eq_true]
              constructor
              · rintro ⟨⟨h1, h2⟩, h3⟩; exact ⟨h1, h2, by simpa using h3⟩
              · rintro ⟨h1, h2, h3⟩; exact ⟨⟨h1, h2⟩, by simpa using h3⟩
        · obtain rfl : j = f.n := by omega
          have hky : ky.take f.n = ky := List.take_of_length_le (by rw [eky, List.length_map]; omega)
          rw [hky] at hb hcs
          have hr6 := hr5.ext he6
          have hrl := hr6.l
          have hrn : r.n ≤ i := by
            have h1 := congrArg List.length hrk
            rw [List.length_map] at h1
            have h2 := Nrm.nrm_len ky (szs s i) 0
            rw [szs_len] at h2
            omega
          have hnx : nrm ky 0 (szs s (i + 1)) = nrm ky 0 (szs s i) ++ nf ky i (szN s i) := by
            rw [szs_next, Nrm.nrm_snoc, szs_len, Nat.zero_add]
          refine J.exit ?_
          refine J.seq ?_
          refine J.region ?_
          refine L.va rfl (X.move (by conv => lhs; whnf)) ?_
          refine L.va rfl (X.move (by conv => lhs; whnf)) ?_
          cases b
          · refine L.caseBF (k := 49) rfl (by rfl) ?_
            refine L.no rfl ?_
            refine L.no rfl ?_
            refine L.no rfl ?_
            refine L.no rfl ?_
            refine L.no rfl ?_
            refine L.va rfl (X.pickF rfl (by conv => lhs; whnf)) ?_
            refine L.nil ?_
            refine J.iteF rfl ?_
            refine J.skip ?_
            refine J.region ?_
            refine L.va rfl (X.add rfl rfl (by omega)) ?_
            refine L.va rfl (X.move (by conv => lhs; whnf)) ?_
            refine L.nil ?_
            refine ⟨(i + 1, r), At2 (by first | rfl | exact at_int rfl (by omega) | exact at_slice rfl (by omega) | exact at_int rfl (by simp)) (by first | rfl | exact at_int rfl (by omega) | exact at_slice rfl (by omega) | exact at_int rfl (by simp)), (by (iterate 12 refine Agr.lk rfl ?_); refine Agr.lk rfl ?_; refine Agr.hav rfl ?_; (iterate 11 refine Agr.lk rfl ?_); exact Agr.lk rfl (Agr.hav rfl Agr.rfl')), ?_⟩
            refine ⟨⟨by omega, hr6, ?_, he06⟩, by show s.nd - (i + 1) < s.nd - i; omega⟩
            rw [hnx, Nrm.nf_none hb.symm, List.append_nil]
            exact hrk
          · have hcs' := hcs rfl
            have hcl : cs.l.length = cs.n := (Cs.At.own hoc).len
            refine L.caseBT (k := 49) rfl (by rfl) ?_
            refine L.va rfl (X.move (by conv => lhs; whnf)) ?_
            refine L.va rfl (X.len rfl Try.underlying23) ?_
            refine L.va rfl (X.fieldAddr rfl Try.underlying128 rfl sz_3 (by decide)) ?_
            refine L.va rfl (X.load rfl sc_3 (by first | exact Ld.blk hk1 rfl | exact Ld.blk hk6 rfl | exact hA)) ?_
            refine L.va rfl (X.lss rfl rfl) ?_
            refine L.va rfl (X.pickT rfl (by conv => lhs; whnf)) ?_
            refine L.nil ?_
            refine J.dec rfl (fun hlt3 => ?_) (fun hlt3 => ?_)
            · refine J.region ?_
              refine L.va rfl (X.move (by conv => lhs; whnf)) ?_
              refine L.va rfl (X.move (by conv => lhs; whnf)) ?_
              refine L.va rfl (X.move (by conv => lhs; whnf)) ?_
              refine L.va rfl (X.build (l := [_, _]) (Evs.cons (by conv => lhs; whnf) (Evs.cons (by conv => lhs; whnf) Evs.nil)) (bld_run Try.underlying150 (bp_150 Try.underlying150) zr_150 rfl)) ?_
              refine L.bslice1 (l := [_, _]) rfl rfl rfl Try.underlying51 sz_150 zr_150 rfl ?_
              intro b8 w8 hb8 hs8 hk8 he8
              have hoX := hr6.o.ext he8
              refine L.appendV (q := r.n + 1) (ys := ((r.l ++ [Fi.mk i cs.A cs.n cs.c cs.l]).flatMap Fi.vs)) rfl rfl rfl Try.underlying51 el_150 (hoX) ((blk_readsN (sz := 2) (q := 1) (l := (Fi.mk i cs.A cs.n cs.c cs.l).vs) hk8 hk8.lt rfl)) (by first | rfl | exact strs_ones _ | assumption) (by omega) (by simp) (by unfold maxLen; omega) (by omega) ?_
              intro A9 c9 w9 ho9 hg9 hb9 hor9
              refine L.va rfl (X.assign (by conv => lhs; whnf)) ?_
              refine L.nil ?_
              refine J.region ?_
              refine L.va rfl (X.add rfl rfl (by omega)) ?_
              refine L.va rfl (X.move (by conv => lhs; whnf)) ?_
              refine L.nil ?_
              refine ⟨(i + 1, ⟨A9, r.n + 1, c9, r.l ++ [Fi.mk i cs.A cs.n cs.c cs.l]⟩), At2 (by first | rfl | exact at_int rfl (by omega) | exact at_slice rfl (by omega) | exact at_int rfl (by simp)) (by first | rfl | exact at_int rfl (by omega) | exact at_slice rfl (by omega) | exact at_int rfl (by simp)), (by (iterate 19 refine Agr.lk rfl ?_); refine Agr.lk rfl ?_; refine Agr.hav rfl ?_; (iterate 11 refine Agr.lk rfl ?_); exact Agr.lk rfl (Agr.hav rfl Agr.rfl')), ?_⟩
              have he08 := he06.trans he8
              refine ⟨⟨by omega, ⟨ho9, fun y hy => ?_, by show (r.l ++ [_]).length = r.n + 1; rw [List.length_append, hrl]; rfl⟩, ?_, he08.low hb9 (Nat.le_refl _)⟩, by show s.nd - (i + 1) < s.nd - i; omega⟩
              · rcases List.mem_append.1 hy with hy | hy
                · exact World.ownsRow.kept (World.ownsRow.ext (hr6.h y hy) he8) hg9 (own_or (World.ownsRow.ext (hr6.h y hy) he8) hoX (by decide))
                · rw [List.mem_singleton] at hy
                  subst hy
                  exact (hoc.ext he8).kept hg9 (own_or (hoc.ext he8) hoX (by decide))
              · show (r.l ++ [Fi.mk i cs.A cs.n cs.c cs.l]).map Fi.key = _
                rw [List.map_append, hrk, hnx]
                congr 1
                unfold nf
                rw [← hcs', if_pos (by omega)]
                rfl
            · skip
              refine J.skip ?_
              refine J.region ?_
              refine L.va rfl (X.add rfl rfl (by omega)) ?_
              refine L.va rfl (X.move (by conv => lhs; whnf)) ?_
              refine L.nil ?_
              refine ⟨(i + 1, r), At2 (by first | rfl | exact at_int rfl (by omega) | exact at_slice rfl (by omega) | exact at_int rfl (by simp)) (by first | rfl | exact at_int rfl (by omega) | exact at_slice rfl (by omega) | exact at_int rfl (by simp)), (by (iterate 12 refine Agr.lk rfl ?_); refine Agr.lk rfl ?_; refine Agr.hav rfl ?_; (iterate 11 refine Agr.lk rfl ?_); exact Agr.lk rfl (Agr.hav rfl Agr.rfl')), ?_⟩
              refine ⟨⟨by omega, hr6, ?_, he06⟩, by show s.nd - (i + 1) < s.nd - i; omega⟩
              rw [hnx]
              unfold nf
              rw [← hcs', if_neg (by omega), List.append_nil]
              exact hrk
    · obtain rfl : i = s.nd := by omega
      refine J.exit ?_
      refine J.seq ?_
      refine J.region ?_
      refine L.va rfl (X.move (by conv => lhs; whnf)) ?_
      refine L.va rfl (X.assign (by conv => lhs; whnf)) ?_
      refine L.va rfl (X.assign (by conv => lhs; whnf)) ?_
      refine L.nil ?_
      refine J.ret ?_
      refine fin2 ?_
      rw [eky] at hrk
      exact ⟨r, rfl, hr, hrk, he3⟩
end Go.Proofs.Ytlipeplfjkgamaa
namespace Go.Proofs.Ytlipeplfjkgamaa
set_option maxRecDepth 100000
open Go.RowKit H
open Nrm (Up sel mem_sel eq_sel up_sel kp sm nrm nf take_next)
set_option linter.unusedVariables false
theorem keys_no {a b : List Fi} {i : Nat} (ha : i < a.length) (hb : i < b.length) (h : (a.getD i fi0).key ≠ (b.getD i fi0).key) : decide (a.map Fi.key = b.map Fi.key) = false := by
  refine decide_eq_false fun e => h ?_
  have := congrArg (fun l : List (Int × List Int) => l[i]?) e
  simp only [List.getElem?_map, gtF ha, gtF hb, Option.map_some, Option.some.injEq] at this
  exact this
theorem keys_all {a b : List Fi} (hl : a.length = b.length) (h : ∀ i, i < a.length → (a.getD i fi0).key = (b.getD i fi0).key) : decide (a.map Fi.key = b.map Fi.key) = true := by
  refine decide_eq_true (List.ext_getElem (by simp [hl]) fun i h1 h2 => ?_)
  rw [List.length_map] at h1 h2
  have := h i h1
  rw [List.getD, List.getD, List.getElem?_eq_getElem h1, List.getElem?_eq_getElem h2] at this
  simpa using this
theorem rsame28 {a b : Fis} {w : World} (ha : a.At w.heap.size w) (hb : b.At w.heap.size w) : Calls Try.prog 101 #[a.val, b.val] w fun e w' => e = .returned (.bool (decide (a.l.map Fi.key = b.l.map Fi.key))) ∧ Ext w w' := by
  have la := ha.l
  have lb := hb.l
  have ma := ha.m
  have mb := hb.m
  unfold maxLen at ma mb
  refine enter Try.func101 rfl (by kernel_rfl) ?_
  refine J.seq ?_
  refine J.region ?_
  refine L.va rfl (X.assign (by conv => lhs; whnf)) ?_
  refine L.nil ?_
  refine J.seq ?_
  refine J.seq ?_
  refine J.region ?_
  refine L.va rfl (X.move (by conv => lhs; whnf)) ?_
  refine L.va rfl (X.len rfl Try.underlying51) ?_
  refine L.va rfl (X.move (by conv => lhs; whnf)) ?_
  refine L.va rfl (X.len rfl Try.underlying51) ?_
  refine L.va rfl (X.neq rfl rfl) ?_
  refine L.nil ?_
  refine J.ndec rfl (fun h1 => ?_) (fun h1 => ?_)
  · have e : decide (a.l.map Fi.key = b.l.map Fi.key) = false := decide_eq_false fun e => by
      have := congrArg List.length e
      rw [List.length_map, List.length_map] at this
      omega
    rw [e]
    refine J.seq ?_
    refine J.region ?_
    refine L.va rfl (X.assign (by conv => lhs; whnf)) ?_
    refine L.nil ?_
    refine J.ret ?_
    refine thn_ret <| ?_
    refine fin1 ?_
    exact ⟨rfl, Ext.refl _⟩
  · refine J.skip ?_
    refine J.seq ?_
    refine J.seq ?_
    refine J.region ?_
    refine L.va rfl (X.assign (by conv => lhs; whnf)) ?_
    refine L.nil ?_
    refine J.block ?_
    refine J.loop (X := Nat) [4, 5, 6, 12, 13, 14, 15, 16, 17, 18, 19, 20, 21, 22, 23, 24, 25, 26, 27, 28, 29, 30, 31, 32, 33, 34, 35, 36, 37, 38, 39, 40, 41, 42, 43, 44, 45, 46, 47, 48, 49, 50, 51, 52, 53, 54, 55, 56, 57, 58, 59, 60, 61, 62, 63, 64, 65, 66, 67, 68, 69, 70] (fun i => [(5, .int .i64 (i : Int))]) (fun i w' => i ≤ a.n ∧ (∀ j, j < i → (a.l.getD j fi0).key = (b.l.getD j fi0).key) ∧ Ext w w') (fun i => a.n - i) (0) (At1 (by first | rfl | exact at_int rfl (by omega) | exact at_slice rfl (by omega) | exact at_int rfl (by simp))) ?_ ?_
    · exact ⟨Nat.zero_le _, fun j hj => absurd hj (by omega), Ext.refl _⟩
    · rintro i g w3 ⟨hi, hP, he3⟩
      have z3 := he3.le
      have ha3 := ha.ext he3
      have hb3 := hb.ext he3
      refine J.seq ?_
      refine J.seq ?_
      refine J.region ?_
      refine L.va rfl (X.move (by conv => lhs; whnf)) ?_
      refine L.va rfl (X.move (by conv => lhs; whnf)) ?_
      refine L.va rfl (X.len rfl Try.underlying51) ?_
      refine L.va rfl (X.lss rfl rfl) ?_
      refine L.nil ?_
      refine J.dec rfl (fun hlt => ?_) (fun hlt => ?_)
      · have hin : i < a.n := by omega
        have hA := ha3.r.some_ (by omega)
        have hB := hb3.r.some_ (by omega)
        have hbad := keys_no (a := a.l) (b := b.l) (i := i) (by omega) (by omega)
        obtain ⟨x, hx⟩ : ∃ x, x = a.l.getD i fi0 := ⟨_, rfl⟩
        obtain ⟨y, hy⟩ : ∃ y, y = b.l.getD i fi0 := ⟨_, rfl⟩
        have hX := ha3.one hin
        have hY := hb3.one (i := i) (by omega)
        have gx := gtF (l := a.l) (i := i) (by omega)
        have gy := gtF (l := b.l) (i := i) (by omega)
        rw [← hx] at hX gx hbad
        rw [← hy] at hY gy hbad
        have mx := hX.m
        have my := hY.m
        have lx := hX.len
        have ly := hY.len
        unfold maxLen at mx my
        refine J.skip ?_
        refine J.seq ?_
        refine J.block ?_
        refine J.seq ?_
        refine J.seq ?_
        refine J.quiet mixed (by kernel_rfl) ?_
        refine Qt.va rfl (fun w' hw => X.move (by conv => lhs; whnf)) ?_
        refine Qt.va rfl (fun w' hw => X.move (by conv => lhs; whnf)) ?_
        refine Qt.va rfl (fun w' hw => (by first | exact X.indexAddrn rfl rfl Try.underlying51 sz_150 (by first | exact Option.some_ne_none _ | exact hA | exact hB) (by omega) | exact X.indexAddr rfl rfl Try.underlying51 sz_150 (by first | exact Option.some_ne_none _ | exact hA | exact hB) (by omega))) ?_
        refine Qt.va rfl (fun w' hw => X.fieldP rfl Try.underlying150 rfl sz_3 (by decide) (by first | exact Option.some_ne_none _ | exact hA | exact hB)) ?_
        refine Qt.va rfl (fun w' hw => X.load rfl sc_3 (by first | exact hA | exact hB | exact Ld.flat2 fi_len (ha3.r.ext hw) gx (r := 0) rfl | exact Ld.flat2 fi_len (ha3.r.ext hw) gx (r := 1) rfl | exact Ld.flat2 fi_len (hb3.r.ext hw) gy (r := 0) rfl | exact Ld.flat2 fi_len (hb3.r.ext hw) gy (r := 1) rfl)) ?_
        refine Qt.va rfl (fun w' hw => X.move (by conv => lhs; whnf)) ?_
        refine Qt.va rfl (fun w' hw => X.move (by conv => lhs; whnf)) ?_
        refine Qt.va rfl (fun w' hw => (by first | exact X.indexAddrn rfl rfl Try.underlying51 sz_150 (by first | exact Option.some_ne_none _ | exact hA | exact hB) (by omega) | exact X.indexAddr rfl rfl Try.underlying51 sz_150 (by first | exact Option.some_ne_none _ | exact hA | exact hB) (by omega))) ?_
        refine Qt.va rfl (fun w' hw => X.fieldP rfl Try.underlying150 rfl sz_3 (by decide) (by first | exact Option.some_ne_none _ | exact hA | exact hB)) ?_
        refine Qt.va rfl (fun w' hw => X.load rfl sc_3 (by first | exact hA | exact hB | exact Ld.flat2 fi_len (ha3.r.ext hw) gx (r := 0) rfl | exact Ld.flat2 fi_len (ha3.r.ext hw) gx (r := 1) rfl | exact Ld.flat2 fi_len (hb3.r.ext hw) gy (r := 0) rfl | exact Ld.flat2 fi_len (hb3.r.ext hw) gy (r := 1) rfl)) ?_
        refine Qt.va rfl (fun w' hw => X.neq rfl rfl) ?_
        refine Qt.va rfl (fun w' hw => X.move (by conv => lhs; whnf)) ?_
        refine Qt.caseNdec (k := 29) rfl (fun h2 => ?_) (fun h2 => ?_)
        · refine Qt.no rfl ?_
          refine Qt.no rfl ?_
          refine Qt.no rfl ?_
          refine Qt.no rfl ?_
          refine Qt.no rfl ?_
          refine Qt.no rfl ?_
          refine Qt.no rfl ?_
          refine Qt.no rfl ?_
          refine Qt.no rfl ?_
          refine Qt.no rfl ?_
          refine Qt.no rfl ?_
          refine Qt.no rfl ?_
          refine Qt.no rfl ?_
          refine Qt.va rfl (fun w' hw => X.pickT rfl (by conv => lhs; whnf)) ?_
          refine Qt.nil (fun w4 hq => ?_)
          refine J.iteT rfl ?_
          rw [hbad (fun e => by
            have e1 : x.d = y.d := congrArg Prod.fst e
            have e2 : x.l = y.l := congrArg Prod.snd e
            rw [e2] at lx
            omega)]
          refine J.seq ?_
          refine J.region ?_
          refine L.va rfl (X.assign (by conv => lhs; whnf)) ?_
          refine L.nil ?_
          refine J.ret ?_
          refine thn_ret <|  inB_ret <|  thn_ret <|  thn_ret <|  inB_ret <|  thn_ret <| ?_
          refine fin1 ?_
          exact ⟨rfl, he3.trans hq⟩
        refine Qt.va rfl (fun w' hw => X.move (by conv => lhs; whnf)) ?_
        refine Qt.va rfl (fun w' hw => X.move (by conv => lhs; whnf)) ?_
        refine Qt.va rfl (fun w' hw => (by first | exact X.indexAddrn rfl rfl Try.underlying51 sz_150 (by first | exact Option.some_ne_none _ | exact hA | exact hB) (by omega) | exact X.indexAddr rfl rfl Try.underlying51 sz_150 (by first | exact Option.some_ne_none _ | exact hA | exact hB) (by omega))) ?_
        refine Qt.va rfl (fun w' hw => X.fieldP rfl Try.underlying150 rfl sz_23 (by decide) (by first | exact Option.some_ne_none _ | exact hA | exact hB)) ?_
        refine Qt.va rfl (fun w' hw => X.load rfl sc_23 (by first | exact hA | exact hB | exact Ld.flat2 fi_len (ha3.r.ext hw) gx (r := 0) rfl | exact Ld.flat2 fi_len (ha3.r.ext hw) gx (r := 1) rfl | exact Ld.flat2 fi_len (hb3.r.ext hw) gy (r := 0) rfl | exact Ld.flat2 fi_len (hb3.r.ext hw) gy (r := 1) rfl)) ?_
        refine Qt.va rfl (fun w' hw => X.len rfl Try.underlying23) ?_
        refine Qt.va rfl (fun w' hw => X.move (by conv => lhs; whnf)) ?_
        refine Qt.va rfl (fun w' hw => X.move (by conv => lhs; whnf)) ?_
        refine Qt.va rfl (fun w' hw => (by first | exact X.indexAddrn rfl rfl Try.underlying51 sz_150 (by first | exact Option.some_ne_none _ | exact hA | exact hB) (by omega) | exact X.indexAddr rfl rfl Try.underlying51 sz_150 (by first | exact Option.some_ne_none _ | exact hA | exact hB) (by omega))) ?_
        refine Qt.va rfl (fun w' hw => X.fieldP rfl Try.underlying150 rfl sz_23 (by decide) (by first | exact Option.some_ne_none _ | exact hA | exact hB)) ?_
        refine Qt.va rfl (fun w' hw => X.load rfl sc_23 (by first | exact hA | exact hB | exact Ld.flat2 fi_len (ha3.r.ext hw) gx (r := 0) rfl | exact Ld.flat2 fi_len (ha3.r.ext hw) gx (r := 1) rfl | exact Ld.flat2 fi_len (hb3.r.ext hw) gy (r := 0) rfl | exact Ld.flat2 fi_len (hb3.r.ext hw) gy (r := 1) rfl)) ?_
        refine Qt.va rfl (fun w' hw => X.len rfl Try.underlying23) ?_
        refine Qt.va rfl (fun w' hw => X.neq rfl rfl) ?_
        refine Qt.va rfl (fun w' hw => X.pickF rfl (by conv => lhs; whnf)) ?_
        refine Qt.nil (fun w4 hq => ?_)
        refine J.ndec rfl (fun h3 => ?_) (fun h3 => ?_)
        · rw [hbad (fun e => by
            have e1 : x.d = y.d := congrArg Prod.fst e
            have e2 : x.l = y.l := congrArg Prod.snd e
            rw [e2] at lx
            omega)]
          refine J.seq ?_
          refine J.region ?_
          refine L.va rfl (X.assign (by conv => lhs; whnf)) ?_
          refine L.nil ?_
          refine J.ret ?_
          refine thn_ret <|  inB_ret <|  thn_ret <|  thn_ret <|  inB_ret <|  thn_ret <| ?_
          refine fin1 ?_
          exact ⟨rfl, he3.trans hq⟩
        have he4 := he3.trans hq
        have z4 := he4.le
        refine J.skip ?_
        refine J.seq ?_
        refine J.region ?_
        refine L.va rfl (X.assign (by conv => lhs; whnf)) ?_
        refine L.nil ?_
        refine J.block ?_
        refine J.loop (X := Nat) [4, 6, 44, 45, 46, 47, 48, 49, 50, 51, 52, 53, 54, 55, 56, 57, 58, 59, 60, 61, 62, 63, 64, 65, 66, 67, 68, 69, 70] (fun k => [(6, .int .i64 (k : Int))]) (fun k w' => k ≤ x.n ∧ (∀ j, j < k → x.l.getD j 0 = y.l.getD j 0) ∧ Ext w4 w') (fun k => x.n - k) (0) (At1 (by first | rfl | exact at_int rfl (by omega) | exact at_slice rfl (by omega) | exact at_int rfl (by simp))) ?_ ?_
        · exact ⟨Nat.zero_le _, fun j hj => absurd hj (by omega), Ext.refl _⟩
        · rintro k g w5 ⟨hk, hQ, he5⟩
          have ha5 := (ha3.ext hq).ext he5
          have hb5 := (hb3.ext hq).ext he5
          have r5 := (hX.ext hq).ext he5 |>.r
          have s5 := (hY.ext hq).ext he5 |>.r
          refine J.seq ?_
          refine J.seq ?_
          refine J.region ?_
          refine L.va rfl (X.move (by conv => lhs; whnf)) ?_
          refine L.va rfl (X.move (by conv => lhs; whnf)) ?_
          refine L.va rfl (X.move (by conv => lhs; whnf)) ?_
          refine L.va rfl ((by first | exact X.indexAddrn rfl rfl Try.underlying51 sz_150 (by first | exact Option.some_ne_none _ | exact r5.some_ (by omega) | exact s5.some_ (by omega) | exact hA | exact hB) (by omega) | exact X.indexAddr rfl rfl Try.underlying51 sz_150 (by first | exact Option.some_ne_none _ | exact r5.some_ (by omega) | exact s5.some_ (by omega) | exact hA | exact hB) (by omega))) ?_
          refine L.va rfl (X.fieldP rfl Try.underlying150 rfl sz_23 (by decide) (by first | exact Option.some_ne_none _ | exact r5.some_ (by omega) | exact s5.some_ (by omega) | exact hA | exact hB)) ?_
          refine L.va rfl (X.load rfl sc_23 (by first | exact Ld.num r5 (by omega) | exact Ld.num s5 (by omega) | exact hA | exact hB | exact Ld.flat2 fi_len ha5.r gx (r := 0) rfl | exact Ld.flat2 fi_len ha5.r gx (r := 1) rfl | exact Ld.flat2 fi_len hb5.r gy (r := 0) rfl | exact Ld.flat2 fi_len hb5.r gy (r := 1) rfl)) ?_
          refine L.va rfl (X.len rfl Try.underlying23) ?_
          refine L.va rfl (X.lss rfl rfl) ?_
          refine L.nil ?_
          refine J.dec rfl (fun hlt2 => ?_) (fun hlt2 => ?_)
          · have hA1 := r5.some_ (by omega)
            have hB1 := s5.some_ (by omega)
            refine J.skip ?_
            refine J.seq ?_
            refine J.block ?_
            refine J.seq ?_
            refine J.quiet mixed (by kernel_rfl) ?_
            refine Qt.va rfl (fun w' hw => X.move (by conv => lhs; whnf)) ?_
            refine Qt.va rfl (fun w' hw => X.move (by conv => lhs; whnf)) ?_
            refine Qt.va rfl (fun w' hw => (by first | exact X.indexAddrn rfl rfl Try.underlying51 sz_150 (by first | exact Option.some_ne_none _ | exact r5.some_ (by omega) | exact s5.some_ (by omega) | exact hA | exact hB | exact hA1 | exact hB1) (by omega) | exact X.indexAddr rfl rfl Try.underlying51 sz_150 (by first | exact Option.some_ne_none _ | exact r5.some_ (by omega) | exact s5.some_ (by omega) | exact hA | exact hB | exact hA1 | exact hB1) (by omega))) ?_
            refine Qt.va rfl (fun w' hw => X.fieldP rfl Try.underlying150 rfl sz_23 (by decide) (by first | exact Option.some_ne_none _ | exact r5.some_ (by omega) | exact s5.some_ (by omega) | exact hA | exact hB | exact hA1 | exact hB1)) ?_
            refine Qt.va rfl (fun w' hw => X.load rfl sc_23 (by first | exact Ld.num (r5.ext hw) (by omega) | exact Ld.num (s5.ext hw) (by omega) | exact hA | exact hB | exact hA1 | exact hB1 | exact Ld.flat2 fi_len (ha5.r.ext hw) gx (r := 1) rfl | exact Ld.flat2 fi_len (hb5.r.ext hw) gy (r := 1) rfl)) ?_
            refine Qt.va rfl (fun w' hw => X.move (by conv => lhs; whnf)) ?_
            refine Qt.va rfl (fun w' hw => (by first | exact X.index1n rfl rfl Try.underlying23 sz_3 (by first | exact Option.some_ne_none _ | exact r5.some_ (by omega) | exact s5.some_ (by omega) | exact hA | exact hB | exact hA1 | exact hB1) (by omega) | exact X.index1 rfl rfl Try.underlying23 sz_3 (by first | exact Option.some_ne_none _ | exact r5.some_ (by omega) | exact s5.some_ (by omega) | exact hA | exact hB | exact hA1 | exact hB1) (by omega))) ?_
            refine Qt.va rfl (fun w' hw => X.load rfl sc_3 (by first | exact Ld.num (r5.ext hw) (by omega) | exact Ld.num (s5.ext hw) (by omega) | exact hA | exact hB | exact hA1 | exact hB1 | exact Ld.flat2 fi_len (ha5.r.ext hw) gx (r := 1) rfl | exact Ld.flat2 fi_len (hb5.r.ext hw) gy (r := 1) rfl)) ?_
            refine Qt.va rfl (fun w' hw => X.move (by conv => lhs; whnf)) ?_
            refine Qt.va rfl (fun w' hw => X.move (by conv => lhs; whnf)) ?_
            refine Qt.va rfl (fun w' hw => (by first | exact X.indexAddrn rfl rfl Try.underlying51 sz_150 (by first | exact Option.some_ne_none _ | exact r5.some_ (by omega) | exact s5.some_ (by omega) | exact hA | exact hB | exact hA1 | exact hB1) (by omega) | exact X.indexAddr rfl rfl Try.underlying51 sz_150 (by first | exact Option.some_ne_none _ | exact r5.some_ (by omega) | exact s5.some_ (by omega) | exact hA | exact hB | exact hA1 | exact hB1) (by omega))) ?_
            refine Qt.va rfl (fun w' hw => X.fieldP rfl Try.underlying150 rfl sz_23 (by decide) (by first | exact Option.some_ne_none _ | exact r5.some_ (by omega) | exact s5.some_ (by omega) | exact hA | exact hB | exact hA1 | exact hB1)) ?_
            refine Qt.va rfl (fun w' hw => X.load rfl sc_23 (by first | exact Ld.num (r5.ext hw) (by omega) | exact Ld.num (s5.ext hw) (by omega) | exact hA | exact hB | exact hA1 | exact hB1 | exact Ld.flat2 fi_len (ha5.r.ext hw) gx (r := 1) rfl | exact Ld.flat2 fi_len (hb5.r.ext hw) gy (r := 1) rfl)) ?_
            refine Qt.va rfl (fun w' hw => X.move (by conv => lhs; whnf)) ?_
            refine Qt.va rfl (fun w' hw => (by first | exact X.index1n rfl rfl Try.underlying23 sz_3 (by first | exact Option.some_ne_none _ | exact r5.some_ (by omega) | exact s5.some_ (by omega) | exact hA | exact hB | exact hA1 | exact hB1) (by omega) | exact X.index1 rfl rfl Try.underlying23 sz_3 (by first | exact Option.some_ne_none _ | exact r5.some_ (by omega) | exact s5.some_ (by omega) | exact hA | exact hB | exact hA1 | exact hB1) (by omega))) ?_
            refine Qt.va rfl (fun w' hw => X.load rfl sc_3 (by first | exact Ld.num (r5.ext hw) (by omega) | exact Ld.num (s5.ext hw) (by omega) | exact hA | exact hB | exact hA1 | exact hB1 | exact Ld.flat2 fi_len (ha5.r.ext hw) gx (r := 1) rfl | exact Ld.flat2 fi_len (hb5.r.ext hw) gy (r := 1) rfl)) ?_
            refine Qt.va rfl (fun w' hw => X.neq rfl rfl) ?_
            refine Qt.nil (fun w6 hq6 => ?_)
            replace r5 := r5.ext hq6
            replace s5 := s5.ext hq6
            refine J.ndec rfl (fun hne => ?_) (fun hne => ?_)
            · rw [hbad (fun e => hne (by have e2 : x.l = y.l := congrArg Prod.snd e; rw [e2]))]
              refine J.seq ?_
              refine J.region ?_
              refine L.va rfl (X.assign (by conv => lhs; whnf)) ?_
              refine L.nil ?_
              refine J.ret ?_
              refine inB_ret <|  thn_ret <|  thn_ret <|  inB_ret <|  inB_ret <|  thn_ret <|  thn_ret <|  inB_ret <|  thn_ret <| ?_
              refine fin1 ?_
              exact ⟨rfl, (he4.trans he5).trans hq6⟩
            · skip
              refine J.skip ?_
              refine J.region ?_
              refine L.va rfl (X.move (by conv => lhs; whnf)) ?_
              refine L.va rfl (X.add rfl rfl (by omega)) ?_
              refine L.va rfl (X.assign (by conv => lhs; whnf)) ?_
              refine L.nil ?_
              refine ⟨k + 1, At1 (by first | rfl | exact at_int rfl (by omega) | exact at_slice rfl (by omega) | exact at_int rfl (by simp)), (by (iterate 28 refine Agr.lk rfl ?_); exact Agr.lk rfl (Agr.hav rfl Agr.rfl')), ?_⟩
              refine ⟨⟨by omega, fun j hj => ?_, he5.trans hq6⟩, by omega⟩
              rcases Nat.lt_or_ge j k with h | h
              · exact hQ j h
              · obtain rfl : j = k := by omega
                exact hne
          · skip
            refine J.exit ?_
            refine J.region ?_
            refine L.va rfl (X.move (by conv => lhs; whnf)) ?_
            refine L.va rfl (X.add rfl rfl (by omega)) ?_
            refine L.va rfl (X.assign (by conv => lhs; whnf)) ?_
            refine L.nil ?_
            refine ⟨i + 1, At1 (by first | rfl | exact at_int rfl (by omega) | exact at_slice rfl (by omega) | exact at_int rfl (by simp)), (by (iterate 11 refine Agr.lk rfl ?_); refine Agr.lk rfl ?_; refine Agr.hav rfl ?_; (iterate 32 refine Agr.lk rfl ?_); exact Agr.lk rfl (Agr.hav rfl Agr.rfl')), ?_⟩
            refine ⟨⟨by omega, fun j hj => ?_, he4.trans he5⟩, by omega⟩
            rcases Nat.lt_or_ge j i with h | h
            · exact hP j h
            · obtain rfl : j = i := by omega
              rw [← hx, ← hy]
              have e1 : x.d = y.d := by omega
              have e2 : x.l = y.l := List.ext_getElem (by omega) fun q h1 h2 => by
                have := hQ q (by omega)
                rw [List.getD, List.getD, List.getElem?_eq_getElem h1, List.getElem?_eq_getElem h2] at this
                exact this
              show (x.d, x.l) = (y.d, y.l)
              rw [e1, e2]
      · rw [keys_all (by omega) (fun j hj => hP j (by omega))]
        refine J.exit ?_
        refine J.seq ?_
        refine J.region ?_
        refine L.va rfl (X.assign (by conv => lhs; whnf)) ?_
        refine L.nil ?_
        refine J.ret ?_
        refine fin1 ?_
        exact ⟨rfl, he3⟩
end Go.Proofs.Ytlipeplfjkgamaa
namespace Go.Proofs.Ytlipeplfjkgamaa
set_option maxRecDepth 100000
open Go.RowKit H
open Nrm (nrm)
set_option linter.unusedVariables false
abbrev sC (b1 : Nat) : Sch := ⟨some ⟨b1, 0, none⟩, 1, 1, none, 0, 0, none, 0, 0, none, 0, 0, [(aA, 4)], [], [], []⟩
theorem sC_code (b1 : Nat) : (sC b1).code = 0 := by
  show chk 1 0 0 0 [(aA, 4)] [] [] [] = 0
  decide +kernel
theorem sC_here (b1 : Nat) {w : World} (h1 : Blk w b1 128 (dimsV [(aA, 4)]).toArray) : (sC b1).Here w :=
  ⟨blk_readsN h1 h1.lt rfl, Reads.none_, Reads.none_, Reads.none_, fun i => ⟨by simp, by simp⟩, (show 1 ≤ 100 ∧ 0 ≤ 100 ∧ 0 ≤ 100 ∧ 0 ≤ 100 by decide)⟩
theorem fcode_ok {s : Sch} {f : Fis} (hc : s.code = 0) (hn : f.n ≤ 20) (h : ∀ x, x ∈ f.l → fE s x = 0) : fcode s f = 0 := by
  unfold fcode
  rw [if_neg (fun k => k hc), if_neg (by omega)]
  exact fst_0 (d := fi0) fun j hj => h _ (memF hj)
end Go.Proofs.Ytlipeplfjkgamaa
namespace Go.Proofs.Ytlipeplfjkgamaa
set_option maxRecDepth 100000
open Go.RowKit H
open Nrm (nrm)
set_option linter.unusedVariables false
theorem cloneC (A : Option Addr) (n c : Nat) (l : List (Int × Int)) (w : World) (hr : Reads w w.heap.size 2 A n (l.flatMap cV)) (hn : n ≤ 1000) (hl : l.length = n) : Calls Try.prog 86 #[.slice A n c] w fun e w' => ∃ A' c', e = .returned (.slice A' n c') ∧ w'.ownsRow w.heap.size 130 2 (.slice A' n c') n (l.flatMap cV) ∧ Ext w w' := by
  refine enter Try.func86 rfl (by kernel_rfl) ?_
  refine J.seq ?_
  refine J.region ?_
  refine L.va rfl (X.assign (by conv => lhs; whnf)) ?_
  refine L.nil ?_
  refine J.seq ?_
  refine J.seq ?_
  refine J.region ?_
  refine L.va rfl (X.move (by conv => lhs; whnf)) ?_
  refine L.va rfl (X.eqlNil rfl rfl Try.underlying52) ?_
  refine L.nil ?_
  rcases A with _ | a
  · obtain rfl : n = 0 := by
      apply Decidable.byContradiction
      intro h
      exact hr.some_ (by omega) rfl
    obtain rfl : l = [] := List.length_eq_zero_iff.1 hl
    refine J.iteT rfl ?_
    refine J.seq ?_
    refine J.region ?_
    refine L.va rfl (X.assign (by conv => lhs; whnf)) ?_
    refine L.nil ?_
    refine J.ret ?_
    refine thn_ret <| ?_
    refine fin1 ?_
    exact ⟨none, 0, rfl, own_nil _ _ _ _, Ext.refl _⟩
  · refine J.iteF rfl ?_
    refine J.skip ?_
    refine J.seq ?_
    refine J.region ?_
    refine L.bsliceR (ls := []) rfl Evs.nil rfl rfl rfl rfl Try.underlying52 sz_130 zr_130 (by decide) ?_
    intro b1 w1 hb1 hs1 hk1 he1
    have ho1 : w1.ownsRow w.heap.size 130 2 (.slice (some ⟨b1, 0, none⟩) 0 0) 0 (([] : List (Int × Int)).flatMap cV) := blk_own (size := 2) (q := 0) (c := 0) (l := []) hk1 (by omega) (Nat.le_refl _) (Nat.zero_le _) rfl
    have z1 := he1.le
    have hones : ((l.flatMap cV).all (·.oneCell')) = true := by
      rw [List.all_eq_true]
      intro v hv
      obtain ⟨x, _, hx⟩ := List.mem_flatMap.1 hv
      simp only [cV, List.mem_cons, List.not_mem_nil, or_false] at hx
      rcases hx with rfl | rfl <;> rfl
    refine L.va rfl (X.move (by conv => lhs; whnf)) ?_
    refine L.appendV (q := n) (ys := l.flatMap cV) rfl rfl rfl Try.underlying52 el_130 (ho1) (hr.ext he1) (by first | rfl | exact strs_ones _ | assumption) (by omega) (by simp) (by unfold maxLen; omega) (by omega) ?_
    intro A2 c2 w2 ho2 hg2 hb2 hor2
    refine L.va rfl (X.assign (by conv => lhs; whnf)) ?_
    refine L.nil ?_
    refine J.ret ?_
    refine fin1 ?_
    exact ⟨A2, c2, rfl, ho2, he1.grw hg2 (by intro g hg; injection hg with hg; subst hg; show w.heap.size ≤ b1; omega)⟩
theorem norm1 {x y : Int × Bool} {g : Nat} {w : World} (hg : Blk w g 98 (oV y).toArray) : Calls Try.prog 89 #[.agg (oV x).toArray, .pointer (some ⟨g, 0, none⟩)] w fun e w' => e = .returned (.bool (decide (x.1 = y.1))) ∧ Ext w w' := by
  refine enter Try.func89 rfl (by kernel_rfl) ?_
  refine J.seq ?_
  refine J.region ?_
  refine L.boxA (l := [_, _]) rfl rfl ?_
  intro b1 w1 hb1 hs1 hk1 he1
  have hg1 := hg.ext he1
  have hk1 : Blk w1 b1 98 (oV x).toArray := hk1
  refine L.va rfl (X.assign (by conv => lhs; whnf)) ?_
  refine L.nil ?_
  refine J.seq ?_
  refine J.region ?_
  refine L.va rfl (X.fieldAddr rfl Try.underlying98 rfl sz_3 (by decide)) ?_
  refine L.va rfl (X.load rfl sc_3 (by first | exact Ld.blk hk1 rfl | exact Ld.blk hg1 rfl)) ?_
  refine L.va rfl (X.fieldAddr rfl Try.underlying98 rfl sz_3 (by decide)) ?_
  refine L.va rfl (X.load rfl sc_3 (by first | exact Ld.blk hk1 rfl | exact Ld.blk hg1 rfl)) ?_
  refine L.va rfl (X.eql rfl rfl) ?_
  refine L.va rfl (X.assign (by conv => lhs; whnf)) ?_
  refine L.nil ?_
  refine J.ret ?_
  refine fin1 ?_
  exact ⟨rfl, he1⟩
theorem idxF {A : Option Addr} {n c : Nat} {l : List (Int × Bool)} {y : Int × Bool} {g : Nat} {w : World} (hr : Reads w w.heap.size 2 A n (l.flatMap oV)) (hl : l.length = n) (hn : n ≤ maxLen) (hg : Blk w g 98 (oV y).toArray) : Calls Try.prog 176 #[.slice A n c, .func (.func 89) #[] #[.pointer (some ⟨g, 0, none⟩)]] w fun e w' => (∃ z : Int, e = .returned (.int .i64 z) ∧ (0 ≤ z ↔ hasC l y.1 = true)) ∧ Ext w w' := by
  unfold maxLen at hn
  refine enter Try.func176 rfl (by kernel_rfl) ?_
  refine J.seq ?_
  refine J.region ?_
  refine L.va rfl (X.assign (by conv => lhs; whnf)) ?_
  refine L.nil ?_
  refine J.seq ?_
  refine J.seq ?_
  refine J.region ?_
  refine L.va rfl (X.move (by conv => lhs; whnf)) ?_
  refine L.va rfl (X.len rfl Try.underlying22) ?_
  refine L.va rfl (X.move (by conv => lhs; whnf)) ?_
  refine L.nil ?_
  refine J.block ?_
  refine J.loop (X := Nat) [4, 5, 8, 9, 10, 11, 12, 13, 14, 15, 16, 17, 18] (fun i => [(8, .int .i64 (i : Int))]) (fun i w' => i ≤ n ∧ hasC (l.take i) y.1 = false ∧ Ext w w') (fun i => n - i) (0) (At1 (by first | rfl | exact at_int rfl (by omega) | exact at_slice rfl (by omega) | exact at_int rfl (by simp))) ?_ ?_
  · exact ⟨Nat.zero_le _, rfl, Ext.refl _⟩
  · rintro i g w3 ⟨hi, hP, he3⟩
    have z3 := he3.le
    have hr3 := hr.ext he3
    have hg3 := hg.ext he3
    refine J.seq ?_
    refine J.region ?_
    refine L.va rfl (X.lss rfl rfl) ?_
    refine L.nil ?_
    refine J.seq ?_
    refine J.dec rfl (fun hlt => ?_) (fun hlt => ?_)
    · have hin : i < n := by omega
      have hA := hr3.some_ (by omega)
      obtain ⟨x, hx⟩ : ∃ x, x = l.getD i o0 := ⟨_, rfl⟩
      have hgt := gtO (l := l) (i := i) (by omega)
      rw [← hx] at hgt
      refine J.skip ?_
      refine J.seq ?_
      refine J.block ?_
      refine J.seq ?_
      refine J.region ?_
      refine L.va rfl (X.move (by conv => lhs; whnf)) ?_
      refine L.va rfl (X.assign (by conv => lhs; whnf)) ?_
      refine L.nil ?_
      refine J.seq ?_
      refine J.region ?_
      refine L.va rfl (X.move (by conv => lhs; whnf)) ?_
      refine L.va rfl (X.move (by conv => lhs; whnf)) ?_
      refine L.va rfl (X.move (by conv => lhs; whnf)) ?_
      refine L.va rfl ((by first | exact X.indexAddrn rfl rfl Try.underlying22 sz_98 (by first | exact Option.some_ne_none _ | exact hA) (by omega) | exact X.indexAddr rfl rfl Try.underlying22 sz_98 (by first | exact Option.some_ne_none _ | exact hA) (by omega))) ?_
      refine L.va rfl (X.loadRow (cs := oV x) rfl hr3 (fun r u hu => flat_row oV_len hgt r u hu) (Nat.zero_lt_succ _) Try.underlying98 rfl (by kernel_rfl)) ?_
      refine L.callC rfl en_89 rfl rfl (norm1 (x := x) hg3) ?_
      rintro e w4 ⟨rfl, he4⟩
      refine ⟨_, rfl, ?_⟩
      have he04 := he3.trans he4
      have hst : l.take (i + 1) = l.take i ++ [x] := by rw [List.take_add_one, hgt]; rfl
      refine L.nil ?_
      by_cases hk : x.1 = y.1
      · rw [decide_eq_true hk]
        refine J.iteT rfl ?_
        refine J.seq ?_
        refine J.region ?_
        refine L.va rfl (X.move (by conv => lhs; whnf)) ?_
        refine L.va rfl (X.assign (by conv => lhs; whnf)) ?_
        refine L.nil ?_
        refine J.ret ?_
        refine inB_ret <|  thn_ret <|  thn_ret <|  inB_ret <|  thn_ret <| ?_
        refine fin1 ?_
        refine ⟨⟨_, rfl, ⟨fun _ => ?_, fun _ => Int.natCast_nonneg _⟩⟩, he04⟩
        exact hasC_iff.2 ⟨x, List.mem_of_getElem? hgt, hk⟩
      · rw [decide_eq_false hk]
        refine J.iteF rfl ?_
        refine J.skip ?_
        refine J.region ?_
        refine L.va rfl (X.add rfl rfl (by omega)) ?_
        refine L.va rfl (X.move (by conv => lhs; whnf)) ?_
        refine L.nil ?_
        refine ⟨i + 1, At1 (by first | rfl | exact at_int rfl (by omega) | exact at_slice rfl (by omega) | exact at_int rfl (by simp)), (by (iterate 11 refine Agr.lk rfl ?_); exact Agr.lk rfl (Agr.hav rfl Agr.rfl')), ?_⟩
        refine ⟨⟨by omega, ?_, he04⟩, by omega⟩
        rw [hst, hasC_snoc, hP, decide_eq_false hk]
        rfl
    · have e : l.take i = l := List.take_of_length_le (by omega)
      rw [e] at hP
      refine J.exit ?_
      refine J.seq ?_
      refine J.region ?_
      refine L.va rfl (X.assign (by conv => lhs; whnf)) ?_
      refine L.nil ?_
      refine J.ret ?_
      refine fin1 ?_
      refine ⟨⟨_, rfl, ⟨fun h => absurd h (by decide), fun h => ?_⟩⟩, he3⟩
      rw [hP] at h
      cases h
theorem contF {A : Option Addr} {n c : Nat} {l : List (Int × Bool)} {y : Int × Bool} {g : Nat} {w : World} (hr : Reads w w.heap.size 2 A n (l.flatMap oV)) (hl : l.length = n) (hn : n ≤ maxLen) (hg : Blk w g 98 (oV y).toArray) : Calls Try.prog 88 #[.slice A n c, .func (.func 89) #[] #[.pointer (some ⟨g, 0, none⟩)]] w fun e w' => e = .returned (.bool (hasC l y.1)) ∧ Ext w w' := by
  refine enter Try.func88 rfl (by kernel_rfl) ?_
  refine J.seq ?_
  refine J.region ?_
  refine L.va rfl (X.assign (by conv => lhs; whnf)) ?_
  refine L.nil ?_
  refine J.seq ?_
  refine J.region ?_
  refine L.va rfl (X.move (by conv => lhs; whnf)) ?_
  refine L.va rfl (X.move (by conv => lhs; whnf)) ?_
  refine L.call rfl en_176 rfl (idxF hr hl hn hg) ?_
  rintro e w1 ⟨⟨z, rfl, hz⟩, he1⟩
  refine ⟨_, rfl, ?_⟩
  refine L.va rfl (X.geq rfl rfl) ?_
  refine L.va rfl (X.assign (by conv => lhs; whnf)) ?_
  refine L.nil ?_
  refine J.ret ?_
  refine fin1 ?_
  refine ⟨?_, he1⟩
  have e : decide (z ≥ 0) = hasC l y.1 := by
    cases h : hasC l y.1
    · refine decide_eq_false fun k => ?_
      have := hz.1 k
      rw [h] at this
      cases this
    · exact decide_eq_true (hz.2 h)
  rw [← e]
  rfl
end Go.Proofs.Ytlipeplfjkgamaa
namespace Go.Proofs.Ytlipeplfjkgamaa
set_option maxRecDepth 100000
open Go.RowKit H
open Nrm (nrm)
set_option linter.unusedVariables false
theorem FisOwn.tch {f : Fis} {N t : Nat} {w w' : World} (h : FisOwn f N w) (hC : TCh t w w') (h1 : 150 ≠ t) (h2 : 3 ≠ t) : FisOwn f N w' :=
  ⟨hC.own h.o h1, fun x hx => hC.own (h.h x hx) h2, h.l⟩
structure Qn (s : Sch) (q r : Qu) : Prop where
  g : r.g = q.g
  m : r.m = q.m
  c : r.c = q.c
  o : r.o = dd q.o
  k : r.f.l.map Fi.key = nrm (q.f.l.map Fi.key) 0 (szs s s.nd)
theorem qnorm_ok {s : Sch} {q : Qu} {w : World} (H : s.Here w) (hq : q.At w.heap.size w) (hc : qcode s q = 0) : Calls Try.prog 32 #[s.val, q.val] w fun e w' => ∃ r : Qu, e = .returned (.tuple #[r.val, .int .i64 0]) ∧ r.At w'.heap.size w' ∧ Qn s q r ∧ Ext w w' := by
  have hle := H.hle
  have hok := qc_ok hc
  have lo := hq.lo
  have lc := hq.lc
  refine enter Try.func32 rfl (by kernel_rfl) ?_
  refine J.seq ?_
  refine J.region ?_
  refine L.boxA (l := [_, _, _, _]) rfl rfl ?_
  intro b1 w1 hb1 hs1 hk1 he1
  refine L.boxA (l := [_, _, _, _, _]) rfl rfl ?_
  intro b2 w2 hb2 hs2 hk2 he2
  have hk12 := hk1.ext he2
  have he02 := he1.trans he2
  have hk2 : Blk w2 b2 54 q.vs.toArray := hk2
  refine L.alloc rfl zr_54 ?_
  intro b3 w3 hb3 hs3 hk3 he3
  have he03 := he02.trans he3
  replace hk2 := hk2.ext he3
  replace hk12 := hk12.ext he3
  refine L.va rfl (X.assign (by conv => lhs; whnf)) ?_
  refine L.nil ?_
  refine J.seq ?_
  refine J.seq ?_
  refine J.region ?_
  refine L.va rfl ((by first | exact X.loadAgg rfl (range_l hk2) Try.underlying49 rfl (by kernel_rfl) | exact X.loadAgg rfl (range_blk hk2) Try.underlying49 rfl (by kernel_rfl) | exact X.loadAgg rfl (range_l hk12) Try.underlying49 rfl (by kernel_rfl) | exact X.loadAgg rfl (range_blk hk12) Try.underlying49 rfl (by kernel_rfl))) ?_
  refine L.va rfl ((by first | exact X.loadAgg rfl (range_l hk2) Try.underlying54 rfl (by kernel_rfl) | exact X.loadAgg rfl (range_blk hk2) Try.underlying54 rfl (by kernel_rfl) | exact X.loadAgg rfl (range_l hk12) Try.underlying54 rfl (by kernel_rfl) | exact X.loadAgg rfl (range_blk hk12) Try.underlying54 rfl (by kernel_rfl))) ?_
  refine L.call rfl en_33 rfl (qcheck (H.ext he03) ((hq.ext he03).more he03.le)) ?_
  rintro e w4 ⟨rfl, he4⟩
  refine ⟨_, rfl, ?_⟩
  rw [hc]
  have hk34 := hk3.ext he4
  have he04 := he03.trans he4
  have z4 := he04.le
  have y4 := he4.le
  have l3 := hk34.lt
  have y3 := he02.le
  replace hk2 := hk2.ext he4
  replace hk12 := hk12.ext he4
  refine L.va rfl (X.assign (by conv => lhs; whnf)) ?_
  refine L.nil ?_
  refine J.seq ?_
  refine J.region ?_
  refine L.va rfl (X.move (by conv => lhs; whnf)) ?_
  refine L.va rfl (X.neq rfl rfl) ?_
  refine L.nil ?_
  refine J.iteF rfl ?_
  refine J.skip ?_
  refine J.cut (X := Option Addr × Nat × Nat) [7, 17, 18, 19, 20, 21, 22, 23, 24] (fun (A, c, b7) => [(7, .pointer (some ⟨b7, 0, none⟩))]) (fun (A, c, b7) w' => w'.ownsRow w4.heap.size 130 2 (.slice A q.nc c) q.nc (q.c.flatMap cV) ∧ Blk w' b7 54 #[.int .u32 (q.g : Int), .slice none 0 0, .slice A q.nc c, .slice none 0 0, .int .i64 q.m] ∧ w4.heap.size ≤ b7 ∧ Ext w4 w') ?_ ?_
  · skip
    refine J.draw (ℓ := 1000000) (S := Ext w4) mixed (fun w5 hS hS_h => ?_)
    have z5 := hS.le
    refine D.va 0 rfl (by kernel_rfl) (fun _ _ _ h => h) rfl (fun w' hw => X.fieldAddr rfl Try.underlying54 rfl sz_50 (by decide)) hS ?_
    refine D.va 1 rfl (by kernel_rfl) (fun _ _ _ h => h) rfl (fun w' hw => X.load rfl sc_50 (by first | exact Ld.blk (hk2.ext hw) rfl | exact Ld.blk (hk12.ext hw) rfl)) hS ?_
    refine D.va 2 rfl (by kernel_rfl) (fun _ _ _ h => h) rfl (fun w' hw => X.fieldAddr rfl Try.underlying54 rfl sz_52 (by decide)) hS ?_
    refine D.va 3 rfl (by kernel_rfl) (fun _ _ _ h => h) rfl (fun w' hw => X.load rfl sc_52 (by first | exact Ld.blk (hk2.ext hw) rfl | exact Ld.blk (hk12.ext hw) rfl)) hS ?_
    refine D.va 5 rfl (by kernel_rfl) (fun _ _ _ h => h) rfl (fun w' hw => X.fieldAddr rfl Try.underlying54 rfl sz_3 (by decide)) hS ?_
    refine D.va 6 rfl (by kernel_rfl) (fun _ _ _ h => h) rfl (fun w' hw => X.load rfl sc_3 (by first | exact Ld.blk (hk2.ext hw) rfl | exact Ld.blk (hk12.ext hw) rfl)) hS ?_
    refine D.two 4 8 (by kernel_rfl) rfl rfl ?_ ?_
    · have zz := (hS).le
      refine L.call rfl en_86 rfl (cloneC q.Ac q.nc q.cc q.c _ ((hq.ext (he04.trans hS)).c.more (by omega)) (by omega) lc) ?_
      rintro e wa ⟨A, c, rfl, ho, hea⟩
      refine ⟨_, rfl, ?_⟩
      have hS1 := (hS).trans hea
      refine L.nil ?_
      refine ⟨fun _ => hS1, ?_⟩
      have ho := own_lower ho zz
      try replace hk7 := hk7.ext hea
      refine D.va 7 rfl (by kernel_rfl) (fun _ _ _ h => h) rfl (fun w' hw => X.build (l := [_, _, _, _, _]) (Evs.cons (by conv => lhs; whnf) (Evs.cons (by conv => lhs; whnf) (Evs.cons (by conv => lhs; whnf) Evs.nil))) (bld_run Try.underlying54 (bp_54 Try.underlying54) zr_54 rfl)) hS1 ?_
      have zz := (hS1).le
      refine D.one 8 (by kernel_rfl) rfl ?_
      refine L.alloc rfl zr_54 ?_
      intro b7 wb hb7 hs7 hk7 heb
      have hS2 := (hS1).trans heb
      refine L.nil ?_
      refine ⟨fun _ => hS2, ?_⟩
      try replace ho := ho.ext heb
      have zz := (hS2).le
      refine D.one 9 (by kernel_rfl) rfl ?_
      refine L.storeAgg (vs := [_, _, _, _, _]) rfl rfl rfl rfl sz_54 (hk7) rfl ?_
      intro wc hk8 hg8 hs8
      have hS3 := (hS2).grw hg8 (by intro g hg; injection hg with hg; omega)
      refine L.nil ?_
      refine ⟨fun _ => hS3, ?_⟩
      have hC := TCh.put hk7 hg8
      replace ho := hC.own ho (by decide)
      refine D.done (by kernel_rfl) ?_
      replace hk2 := hk2.ext hS3
      replace hk12 := hk12.ext hS3
      refine ⟨(A, c, b7), At1 (by first | rfl | exact at_int rfl (by omega) | exact at_slice rfl (by omega) | exact at_int rfl (by simp)), (by (iterate 9 refine Agr.lk rfl ?_); exact Agr.rfl'), ?_⟩
      exact ⟨ho, hk8, by omega, hS3⟩
    · have zz := (hS).le
      refine L.alloc rfl zr_54 ?_
      intro b7 wb hb7 hs7 hk7 heb
      have hS1 := (hS).trans heb
      refine L.nil ?_
      refine ⟨fun _ => hS1, ?_⟩
      try replace ho := ho.ext heb
      have zz := (hS1).le
      refine D.one 4 (by kernel_rfl) rfl ?_
      refine L.call rfl en_86 rfl (cloneC q.Ac q.nc q.cc q.c _ ((hq.ext (he04.trans hS1)).c.more (by omega)) (by omega) lc) ?_
      rintro e wa ⟨A, c, rfl, ho, hea⟩
      refine ⟨_, rfl, ?_⟩
      have hS2 := (hS1).trans hea
      refine L.nil ?_
      refine ⟨fun _ => hS2, ?_⟩
      have ho := own_lower ho zz
      try replace hk7 := hk7.ext hea
      refine D.va 7 rfl (by kernel_rfl) (fun _ _ _ h => h) rfl (fun w' hw => X.build (l := [_, _, _, _, _]) (Evs.cons (by conv => lhs; whnf) (Evs.cons (by conv => lhs; whnf) (Evs.cons (by conv => lhs; whnf) Evs.nil))) (bld_run Try.underlying54 (bp_54 Try.underlying54) zr_54 rfl)) hS2 ?_
      have zz := (hS2).le
      refine D.one 9 (by kernel_rfl) rfl ?_
      refine L.storeAgg (vs := [_, _, _, _, _]) rfl rfl rfl rfl sz_54 (hk7) rfl ?_
      intro wc hk8 hg8 hs8
      have hS3 := (hS2).grw hg8 (by intro g hg; injection hg with hg; omega)
      refine L.nil ?_
      refine ⟨fun _ => hS3, ?_⟩
      have hC := TCh.put hk7 hg8
      replace ho := hC.own ho (by decide)
      refine D.done (by kernel_rfl) ?_
      replace hk2 := hk2.ext hS3
      replace hk12 := hk12.ext hS3
      refine ⟨(A, c, b7), At1 (by first | rfl | exact at_int rfl (by omega) | exact at_slice rfl (by omega) | exact at_int rfl (by simp)), (by (iterate 9 refine Agr.lk rfl ?_); exact Agr.rfl'), ?_⟩
      exact ⟨ho, hk8, by omega, hS3⟩
  · rintro ⟨A, c, b7⟩ g w5 ⟨ho5, hk7, hb7, he5⟩
    have he05 := he04.trans he5
    have z5 := he05.le
    have hk72 := hk2.ext he5
    have hk71 := hk12.ext he5
    have hk3 := hk34.ext he5
    refine J.seq ?_
    refine J.region ?_
    refine L.va rfl ((by first | exact X.loadAgg rfl (range_l hk7) Try.underlying49 rfl (by kernel_rfl) | exact X.loadAgg rfl (range_blk hk7) Try.underlying49 rfl (by kernel_rfl) | exact X.loadAgg rfl (range_l hk71) Try.underlying49 rfl (by kernel_rfl) | exact X.loadAgg rfl (range_blk hk71) Try.underlying49 rfl (by kernel_rfl) | exact X.loadAgg rfl (range_l hk72) Try.underlying49 rfl (by kernel_rfl) | exact X.loadAgg rfl (range_blk hk72) Try.underlying49 rfl (by kernel_rfl))) ?_
    refine L.va rfl (X.fieldAddr rfl Try.underlying54 rfl sz_51 (by decide)) ?_
    refine L.va rfl (X.load rfl sc_51 (by first | exact Ld.blk hk7 rfl | exact Ld.blk hk71 rfl | exact Ld.blk hk72 rfl)) ?_
    refine L.call rfl en_87 rfl (fnorm_ok (H.ext he05) ((hq.ext he05).more z5).f hok.2.2.1) ?_
    rintro e w6 ⟨r, rfl, hr, hrk, he6⟩
    refine ⟨_, rfl, ?_⟩
    have he06 := he05.trans he6
    have z6 := he6.le
    have hk73 := hk3.ext he6
    have ho6 := ho5.ext he6
    replace hk7 := hk7.ext he6
    replace hk71 := hk71.ext he6
    replace hk72 := hk72.ext he6
    refine L.va rfl (X.move (by conv => lhs; whnf)) ?_
    refine L.va rfl (X.extract rfl rfl) ?_
    refine L.va rfl (X.extract rfl rfl) ?_
    refine L.va rfl (X.fieldAddr rfl Try.underlying54 rfl sz_51 (by decide)) ?_
    refine L.store rfl rfl (by conv => lhs; whnf) rfl sz_51 (hk7) (by first | decide | exact Nat.le_of_ble_eq_true rfl) ?_
    intro w7 hk8 hg8 hs8
    have hC := TCh.put hk7 hg8
    have hr7 := hr.tch hC (by decide) (by decide)
    have ho7 := hC.own ho6 (by decide)
    have hk271 := hk71.grown hg8 (by intro e; injection e with e; have := hk12.lt; omega)
    have hk272 := hk72.grown hg8 (by intro e; injection e with e; have := hk2.lt; omega)
    have hk273 := hk73.grown hg8 (by intro e; injection e with e; omega)
    have he07 : Ext w w7 := he06.grw hg8 (by intro g hg; injection hg with hg; omega)
    have hk8 : Blk w7 b7 54 #[.int .u32 (q.g : Int), r.val, .slice A q.nc c, .slice none 0 0, .int .i64 q.m] := hk8
    have z7 := hC.size
    have hd71 : b7 ≠ b1 := by have := hk12.lt; omega
    have hd72 : b7 ≠ b2 := by have := hk2.lt; omega
    have hd73 : b7 ≠ b3 := by omega
    have mo := hq.mo
    unfold maxLen at mo
    refine L.nil ?_
    refine J.seq ?_
    refine J.seq ?_
    refine J.region ?_
    refine L.va rfl (X.fieldAddr rfl Try.underlying54 rfl sz_22 (by decide)) ?_
    refine L.va rfl (X.load rfl sc_22 (by first | exact Ld.blk hk8 rfl | exact Ld.blk hk271 rfl | exact Ld.blk hk272 rfl)) ?_
    refine L.va rfl (X.len rfl Try.underlying22) ?_
    refine L.va rfl (X.move (by conv => lhs; whnf)) ?_
    refine L.nil ?_
    refine J.block ?_
    refine J.loop (X := Nat × Option Addr × Nat × Nat × List (Int × Bool)) [9, 36, 37, 38, 39, 40, 41, 42, 43, 44, 45, 46, 47, 48, 49, 50, 51] (fun (i, A2, n2, c2, l) => [(36, .int .i64 (i : Int))]) (fun (i, A2, n2, c2, l) w' => i ≤ q.no ∧ l = dd (q.o.take i) ∧ n2 = l.length ∧ n2 ≤ i ∧ w'.ownsRow w7.heap.size 98 2 (.slice A2 n2 c2) n2 (l.flatMap oV) ∧ Blk w' b7 54 #[.int .u32 (q.g : Int), r.val, .slice A q.nc c, .slice A2 n2 c2, .int .i64 q.m] ∧ FisOwn r w5.heap.size w' ∧ w'.ownsRow w4.heap.size 130 2 (.slice A q.nc c) q.nc (q.c.flatMap cV) ∧ Blk w' b2 54 q.vs.toArray ∧ Blk w' b3 54 #[.int .u32 0, .slice none 0 0, .slice none 0 0, .slice none 0 0, .int .i64 0] ∧ w7.heap.size ≤ w'.heap.size ∧ Ext w w') (fun (i, _) => q.no - i) ((0, none, 0, 0, [])) (At1 (by first | rfl | exact at_int rfl (by omega) | exact at_slice rfl (by omega) | exact at_int rfl (by simp))) ?_ ?_
    · exact ⟨Nat.zero_le _, rfl, rfl, Nat.le_refl _, own_nil _ _ _ _, hk8, hr7, ho7, hk272, hk273, Nat.le_refl _, he07⟩
    · rintro ⟨i, A2, n2, c2, l⟩ g w8 ⟨hi, hl, hn2, hni, hro, hkq, hfr, hco, hkb, hkt, hz8, he8⟩
      have hq8 := hq.ext he8
      have z8 := he8.le
      refine J.seq ?_
      refine J.region ?_
      refine L.va rfl (X.lss rfl rfl) ?_
      refine L.nil ?_
      refine J.seq ?_
      refine J.dec rfl (fun hlt => ?_) (fun hlt => ?_)
      · have hin : i < q.no := by omega
        have hA := hq8.o.some_ (by omega)
        obtain ⟨x, hx⟩ : ∃ x, x = q.o.getD i o0 := ⟨_, rfl⟩
        have hgt := gtO (l := q.o) (i := i) (by omega)
        have hnx := dd_take (l := q.o) (i := i) (by omega)
        rw [← hx] at hgt hnx
        rw [← hl] at hnx
        have hor := Reads.of_own hro
        refine J.skip ?_
        refine J.seq ?_
        refine J.block ?_
        refine J.seq ?_
        refine J.region ?_
        refine L.va rfl ((by first | exact X.indexAddrn rfl rfl Try.underlying22 sz_98 (by first | exact Option.some_ne_none _ | exact hA) (by omega) | exact X.indexAddr rfl rfl Try.underlying22 sz_98 (by first | exact Option.some_ne_none _ | exact hA) (by omega))) ?_
        refine L.va rfl (X.loadRow (cs := oV x) rfl hq8.o (fun r u hu => flat_row oV_len hgt r u hu) (Nat.zero_lt_succ _) Try.underlying98 rfl (by kernel_rfl)) ?_
        refine L.alloc rfl zr_98 ?_
        intro b9 w9 hb9 hs9 hk9 he9
        refine L.storeAgg (vs := [_, _]) rfl rfl rfl rfl sz_98 (hk9) rfl ?_
        intro wa hka hga hsa
        have he8a : Ext w8 wa := he9.grw hga (by intro g hg; injection hg with hg; omega)
        have hka : Blk wa b9 98 (oV x).toArray := hka
        have hkqa := hkq.ext he8a
        have hkba := hkb.ext he8a
        have hroa := hro.ext he8a
        refine L.nil ?_
        refine J.seq ?_
        refine J.region ?_
        refine L.va rfl (X.fieldAddr rfl Try.underlying54 rfl sz_22 (by decide)) ?_
        refine L.va rfl (X.load rfl sc_22 (by first | exact Ld.blk hkqa rfl | exact Ld.blk hkba rfl | exact Ld.blk hka rfl | exact hA)) ?_
        refine L.va rfl (X.makeFn rfl) ?_
        refine L.call rfl en_88 rfl (contF (y := x) ((Reads.of_own hro).ext he8a |>.more he8a.le) hn2.symm (own_max hro) hka) ?_
        rintro e wb ⟨rfl, heb⟩
        refine ⟨_, rfl, ?_⟩
        have he8b := he8a.trans heb
        have hkqb := hkqa.ext heb
        have hkbb := hkba.ext heb
        have hrob := hroa.ext heb
        have hkab := hka.ext heb
        have he0b := he8.trans he8b
        have hfrb := hfr.ext he8b
        have hcob := hco.ext he8b
        have zb := he8b.le
        have hktb := hkt.ext he8b
        refine L.va rfl (X.not rfl) ?_
        refine L.nil ?_
        by_cases hh : hasC l x.1 = true
        · rw [hh]
          refine J.iteF rfl ?_
          refine J.skip ?_
          refine J.region ?_
          refine L.va rfl (X.add rfl rfl (by omega)) ?_
          refine L.va rfl (X.move (by conv => lhs; whnf)) ?_
          refine L.nil ?_
          refine ⟨(i + 1, A2, n2, c2, l), At1 (by first | rfl | exact at_int rfl (by omega) | exact at_slice rfl (by omega) | exact at_int rfl (by simp)), (by (iterate 11 refine Agr.lk rfl ?_); exact Agr.lk rfl (Agr.hav rfl Agr.rfl')), ?_⟩
          refine ⟨⟨by omega, ?_, hn2, by omega, hrob, hkqb, hfrb, hcob, hkbb, hktb, by omega, he0b⟩, by show q.no - (i + 1) < q.no - i; omega⟩
          rw [hnx]; unfold ddS; rw [hh]; rfl
        · have hh : hasC l x.1 = false := by
            cases h : hasC l x.1
            · rfl
            · exact absurd h hh
          rw [hh]
          refine J.iteT rfl ?_
          refine J.region ?_
          refine L.va rfl (X.fieldAddr rfl Try.underlying54 rfl sz_22 (by decide)) ?_
          refine L.va rfl (X.load rfl sc_22 (by first | exact Ld.blk hkqb rfl | exact Ld.blk hkbb rfl | exact Ld.blk hkab rfl | exact hA)) ?_
          refine L.va rfl ((by first | exact X.loadAgg rfl (range_l hkqb) Try.underlying98 rfl (by kernel_rfl) | exact X.loadAgg rfl (range_blk hkqb) Try.underlying98 rfl (by kernel_rfl) | exact X.loadAgg rfl (range_l hkbb) Try.underlying98 rfl (by kernel_rfl) | exact X.loadAgg rfl (range_blk hkbb) Try.underlying98 rfl (by kernel_rfl) | exact X.loadAgg rfl (range_l hkab) Try.underlying98 rfl (by kernel_rfl) | exact X.loadAgg rfl (range_blk hkab) Try.underlying98 rfl (by kernel_rfl))) ?_
          refine L.bslice1 (l := [_, _]) rfl rfl rfl Try.underlying22 sz_98 zr_98 rfl ?_
          intro bc wc hbc hsc hkc hec
          have hrc := hrob.ext hec
          have zc := hec.le
          have hones : ((oV x).all (·.oneCell')) = true := rfl
          have hkqc := hkqb.ext hec
          replace hkqb := hkqb.ext hec
          replace hkbb := hkbb.ext hec
          replace hkab := hkab.ext hec
          refine L.appendV (q := n2 + 1) (ys := l.flatMap oV ++ oV x) rfl rfl rfl Try.underlying22 el_98 (hrc) (blk_readsN (sz := 2) (q := 1) (l := oV x) hkc hkc.lt rfl) (by first | rfl | exact strs_ones _ | assumption) (by omega) (by simp) (by unfold maxLen; omega) (by omega) ?_
          intro A3 c3 wd hod hgd hbd hord
          have hTd := TCh.row hrc hgd
          have hkqd := hTd.blk hkqc (by decide)
          have hkbd := hTd.blk hkbb (by decide)
          have hfrd := (hfrb.ext hec).tch hTd (by decide) (by decide)
          have hcod := hTd.own (hcob.ext hec) (by decide)
          have zd := hTd.size
          have he0d : Ext w wd := (he0b.trans hec).grw hgd (fun g hg => by have := (own_ofT hrc hg).2; omega)
          have hktd := hTd.blk (hktb.ext hec) (by decide)
          refine L.va rfl (X.fieldAddr rfl Try.underlying54 rfl sz_22 (by decide)) ?_
          refine L.store rfl rfl (by conv => lhs; whnf) rfl sz_22 (hkqd) (by first | decide | exact Nat.le_of_ble_eq_true rfl) ?_
          intro we hke hge hse
          have hTe := TCh.put hkqd hge
          have hke : Blk we b7 54 #[.int .u32 (q.g : Int), r.val, .slice A q.nc c, .slice A3 (n2 + 1) c3, .int .i64 q.m] := hke
          have ze := hTe.size
          refine L.nil ?_
          refine J.region ?_
          refine L.va rfl (X.add rfl rfl (by omega)) ?_
          refine L.va rfl (X.move (by conv => lhs; whnf)) ?_
          refine L.nil ?_
          refine ⟨(i + 1, A3, n2 + 1, c3, l ++ [x]), At1 (by first | rfl | exact at_int rfl (by omega) | exact at_slice rfl (by omega) | exact at_int rfl (by simp)), (by (iterate 17 refine Agr.lk rfl ?_); exact Agr.lk rfl (Agr.hav rfl Agr.rfl')), ?_⟩
          refine ⟨⟨by omega, ?_, by simp [hn2], by omega, hTe.own (by simpa using hod) (by decide), hke, hfrd.tch hTe (by decide) (by decide), hTe.own hcod (by decide), hkbd.grown hge (by intro e; injection e with e; exact hd72 e.symm), ?_, by omega, he0d.grw hge (by intro g hg; injection hg with hg; omega)⟩, by show q.no - (i + 1) < q.no - i; omega⟩
          · rw [hnx]; unfold ddS; rw [hh]; rfl
          · exact hktd.grown hge (by intro e; injection e with e; exact hd73 e.symm)
      · have e : q.o.take i = q.o := List.take_of_length_le (by omega)
        rw [e] at hl
        have hk3 := hkt
        refine J.exit ?_
        refine J.seq ?_
        refine J.region ?_
        refine L.va rfl ((by first | exact X.loadAgg rfl (range_l hkq) Try.underlying54 rfl (by kernel_rfl) | exact X.loadAgg rfl (range_blk hkq) Try.underlying54 rfl (by kernel_rfl))) ?_
        refine L.storeAgg (vs := [_, _, _, _, _]) rfl rfl rfl rfl sz_54 (hk3) rfl ?_
        intro w9 hk9 hg9 hs9
        have hT := TCh.put hk3 hg9
        refine L.va rfl (X.assign (by conv => lhs; whnf)) ?_
        refine L.nil ?_
        refine J.ret ?_
        refine finCT rfl (run_cell hk9 Try.underlying54 rfl (by kernel_rfl)) ?_
        have hro9 := hT.own hro (by decide)
        have hco9 := hT.own hco (by decide)
        have hfr9 := hfr.tch hT (by decide) (by decide)
        refine ⟨⟨q.g, r, A, q.nc, c, q.c, A2, n2, c2, l, q.m⟩, rfl, ⟨hq.g, hfr9.at, Reads.of_own hco9, lc, hq.mc, Reads.of_own hro9, hn2.symm, own_max hro9⟩, ⟨rfl, rfl, rfl, hl, hrk⟩, he8.grw hg9 (by intro g hg; injection hg with hg; omega)⟩
end Go.Proofs.Ytlipeplfjkgamaa
namespace Go.Proofs.Ytlipeplfjkgamaa
set_option maxRecDepth 100000
open Go.RowKit H
open Byts Cod
set_option linter.unusedVariables false
theorem TCh.one {w w' : World} {b t : Nat} {cs : Array Value} (hC : Chg (· = b) w w') (hk : Blk w b t cs) : TCh t w w' := Chg.mono hC fun g e => by subst e; exact hk.ofT
theorem InB.tch {w w' : World} {b : Nat} {A : Option Addr} {n c t : Nat} {zs : List Int} {s : RS} (h : InB w b A n c zs s) (hC : TCh t w w') (h1 : 239 ≠ t) (h2 : 5 ≠ t) : InB w' b A n c zs s :=
  ⟨hC.blk h.hk h1, hC.own h.ho h2, h.hz, h.hm, h.hf⟩
theorem FisOwn.chg {r : Fis} {N : Nat} {w w' : World} {S : Nat → Prop} (h : FisOwn r N w) (hC : Chg S w w') (h1 : ∀ g, (Value.slice r.A r.n r.c).ownBlock = some g → ¬ S g) (h2 : ∀ g, S g → ¬ OfT w 3 g) : FisOwn r N w' :=
  ⟨hC.own h.o h1, fun x hx => hC.own (h.h x hx) fun g hg hS => h2 g hS (own_ofT (h.h x hx) hg).1, h.l⟩
section
variable {w w' : World} {b bi : Nat} {A : Option Addr} {n c : Nat} {zs : List Int} {s : RS}
theorem InB.read1 (h : InB w b A n c zs s) (hki : Blk w bi 153 #[.pointer (some ⟨b, 0, none⟩)]) (most : Int) (h0 : 0 ≤ most) (h1 : most ≤ 9223372036854775807) :
    Calls Try.prog 183 #[.int .u64 most, .pointer (some ⟨bi, 0, none⟩)] w fun e w' => e = .returned (.int .i64 (rdU zs most s).1) ∧ InB w' b A n c zs (rdU zs most s).2 ∧ Chg (· = b) w w' := by
  have hf := rdU_fit h.hz most h0 h.hf
  refine enter Try.func183 rfl (by kernel_rfl) ?_
  refine J.seq ?_
  refine J.region ?_
  refine L.va rfl (X.assign (by conv => lhs; whnf)) ?_
  refine L.nil ?_
  refine J.seq ?_
  refine J.region ?_
  refine L.va rfl (X.load rfl sc_153 (by first | exact Ld.blk hki rfl)) ?_
  refine L.va rfl (X.move (by conv => lhs; whnf)) ?_
  refine L.call rfl en_184 rfl (h.U most h0) ?_
  rintro e w1 ⟨rfl, h1, hc1⟩
  refine ⟨_, rfl, ?_⟩
  refine L.va rfl ((by first | exact X.convI rfl is_90 Try.underlying3 (by omega) | exact X.convw rfl is_90 Try.underlying3)) ?_
  refine L.va rfl (X.assign (by conv => lhs; whnf)) ?_
  refine L.nil ?_
  refine J.ret ?_
  refine fin1 ?_
  exact ⟨rfl, h1, hc1⟩
structure QuOwn (r : Qu) (N : Nat) (w : World) : Prop where
  g : r.g < 4294967296
  f : FisOwn r.f N w
  c : w.ownsRow N 130 2 (.slice r.Ac r.nc r.cc) r.nc (r.c.flatMap cV)
  lc : r.c.length = r.nc
  o : w.ownsRow N 98 2 (.slice r.Ao r.no r.co) r.no (r.o.flatMap oV)
  lo : r.o.length = r.no
theorem QuOwn.at {r : Qu} {N : Nat} {w : World} (h : QuOwn r N w) : r.At w.heap.size w := ⟨h.g, h.f.at, Reads.of_own h.c, h.lc, own_max h.c, Reads.of_own h.o, h.lo, own_max h.o⟩
theorem QuOwn.ext {r : Qu} {N : Nat} {w w' : World} (h : QuOwn r N w) (he : Ext w w') : QuOwn r N w' := ⟨h.g, h.f.ext he, World.ownsRow.ext h.c he, h.lc, World.ownsRow.ext h.o he, h.lo⟩
theorem QuOwn.tch {r : Qu} {N t : Nat} {w w' : World} (h : QuOwn r N w) (hC : TCh t w w') (h1 : 150 ≠ t) (h2 : 3 ≠ t) (h3 : 130 ≠ t) (h4 : 98 ≠ t) : QuOwn r N w' := ⟨h.g, h.f.tch hC h1 h2, hC.own h.c h3, h.lc, hC.own h.o h4, h.lo⟩
abbrev Q0v : Array Value := #[.int .u32 0, .slice none 0 0, .slice none 0 0, .slice none 0 0, .int .i64 0]
theorem qread (h : InB w b A n c zs (0, 0)) : Calls Try.prog 109 #[.pointer (some ⟨b, 0, none⟩)] w fun e w' => ∃ r : Qu, e = .returned r.val ∧ QuOwn r w.heap.size w' ∧ InB w' b A n c zs (h4 zs).2 ∧ ((h4 zs).2.2 = 0 → (r.g : Int) = (qg zs).g ∧ r.f.l.map Fi.key = (qg zs).f ∧ r.c = (qg zs).c ∧ r.o = (qg zs).o ∧ r.m = (qg zs).m) ∧ Chg (· = b) w w' := by
  have hz := h.hz
  have f0 := h0_fit hz
  have fn1 := n1_fit hz
  obtain ⟨gn, hgn⟩ : ∃ gn : Nat, (rdU zs 2147483647 (0, 0)).1 = (gn : Int) := ⟨_, (Int.toNat_of_nonneg f0.2.1).symm⟩
  have hg32 : gn ≤ 2147483647 := by have : (rdU zs 2147483647 (0, 0)).1 ≤ 2147483647 := f0.2.2; omega
  obtain ⟨k1, hk1n⟩ : ∃ k1 : Nat, (rdU zs 20 (rdU zs 2147483647 (0, 0)).2).1 = (k1 : Int) := ⟨_, (Int.toNat_of_nonneg fn1.2.1).symm⟩
  have ek1 : (n1 zs).1.toNat = k1 := by show (rdU zs 20 (rdU zs 2147483647 (0, 0)).2).1.toNat = k1; rw [hk1n]; rfl
  have hlb := h.hk.lt
  refine enter Try.func109 rfl (by kernel_rfl) ?_
  refine J.seq ?_
  refine J.region ?_
  refine L.box rfl (by conv => lhs; whnf) ?_
  intro bi w1 hbi hs1 hki he1
  have hki : Blk w1 bi 153 #[.pointer (some ⟨b, 0, none⟩)] := hki
  have hI1 := h.ext he1
  refine L.alloc rfl zr_54 ?_
  intro b2 w2 hb2 hs2 hk2 he2
  have hk2 : Blk w2 b2 54 Q0v := hk2
  have hI2 := hI1.ext he2
  have hki2 := hki.ext he2
  have he02 := he1.trans he2
  refine L.nil ?_
  refine J.seq ?_
  refine J.region ?_
  refine L.va rfl (X.makeFn rfl) ?_
  refine L.va rfl (X.assign (by conv => lhs; whnf)) ?_
  refine L.nil ?_
  refine J.seq ?_
  refine J.region ?_
  refine L.va rfl (X.move (by conv => lhs; whnf)) ?_
  refine L.callC rfl en_183 rfl rfl (hI2.read1 hki2 2147483647 (by decide) (by decide)) ?_
  rintro e w3 ⟨rfl, hI3, hc3⟩
  refine ⟨_, rfl, ?_⟩
  have hT3 := TCh.one hc3 hI2.hk
  have hki3 := hT3.blk hki2 (by decide)
  have hk23 := hT3.blk hk2 (by decide)
  have c03 := (Chg.of_ext (S := (· = b)) he02).trans hc3 (fun _ _ => id)
  rw [hgn]
  refine L.va rfl ((by first | exact X.conv32 rfl is_3 Try.underlying50 (by omega) | exact X.convw rfl is_3 Try.underlying50)) ?_
  refine L.va rfl (X.build (l := [_, _, _, _, _]) (Evs.cons (by conv => lhs; whnf) Evs.nil) (bld_run Try.underlying54 (bp_54 Try.underlying54) zr_54 rfl)) ?_
  refine L.alloc rfl zr_54 ?_
  intro b4 w4 hb4 hs4 hk4 he4
  have z3 := c03.size
  refine L.storeAgg (vs := [_, _, _, _, _]) rfl rfl rfl rfl sz_54 (hk4) rfl ?_
  intro w5 hk5 hg5 hs5
  have he35 : Ext w3 w5 := he4.grw hg5 (by intro g hg; injection hg with hg; omega)
  have hk5 : Blk w5 b4 54 #[.int .u32 (gn : Int), .slice none 0 0, .slice none 0 0, .slice none 0 0, .int .i64 0] := hk5
  have hI5 := hI3.ext he35
  have hki5 := hki3.ext he35
  have hk25 := hk23.ext he35
  have c05 := c03.trans (Chg.of_ext (S := (· = b)) he35) (fun _ _ => id)
  have n42 : b4 ≠ b2 := by have := hk23.lt; omega
  refine L.nil ?_
  refine J.seq ?_
  refine J.seq ?_
  refine J.region ?_
  refine L.va rfl (X.move (by conv => lhs; whnf)) ?_
  refine L.callC rfl en_183 rfl rfl (hI5.read1 hki5 20 (by decide) (by decide)) ?_
  rintro e w6 ⟨rfl, hI6, hc6⟩
  refine ⟨_, rfl, ?_⟩
  have hT6 := TCh.one hc6 hI5.hk
  have hki6 := hT6.blk hki5 (by decide)
  have hk26 := hT6.blk hk25 (by decide)
  have hk46 := hT6.blk hk5 (by decide)
  have c06 := c05.trans hc6 (fun _ _ => id)
  rw [hk1n]
  have z6 := c06.size
  have l4 : w.heap.size ≤ b4 := by omega
  have l2 : w.heap.size ≤ b2 := by have := he1.le; omega
  refine L.va rfl (X.move (by conv => lhs; whnf)) ?_
  refine L.nil ?_
  refine J.block ?_
  refine J.loop (X := Nat × Fis) [5, 6, 7, 17, 18, 19, 20, 21, 22, 23, 24, 25, 26, 27, 28, 29, 30, 31, 32, 33, 34, 35, 36, 37, 38, 39, 40, 41, 42, 43, 44, 45, 46, 47, 48] (fun (i, r) => [(17, .int .i64 (i : Int))]) (fun (i, r) w' => i ≤ k1 ∧ InB w' b A n c zs (rdL (rF zs) i (n1 zs).2).2 ∧ FisOwn r w.heap.size w' ∧ r.n ≤ i ∧ r.l.map Fi.key = (rdL (rF zs) i (n1 zs).2).1 ∧ Blk w' bi 153 #[.pointer (some ⟨b, 0, none⟩)] ∧ Blk w' b2 54 Q0v ∧ Blk w' b4 54 #[.int .u32 (gn : Int), r.val, .slice none 0 0, .slice none 0 0, .int .i64 0] ∧ Chg (· = b) w w') (fun (i, _) => k1 - i) ((0, ⟨none, 0, 0, []⟩)) (At1 (by first | rfl | exact at_int rfl (by omega) | exact at_slice rfl (by omega) | exact at_int rfl (by simp))) ?_ ?_
  · exact ⟨Nat.zero_le _, hI6, ⟨own_nil _ _ _ _, (fun x hx => by cases hx), rfl⟩, Nat.le_refl _, rfl, hki6, hk26, hk46, c06⟩
  · rintro ⟨i, r⟩ g w7 ⟨hi, hI7, hr7, hrn, hrk, hki7, hk27, hk47, c07⟩
    have z7 := c07.size
    refine J.seq ?_
    refine J.region ?_
    refine L.va rfl (X.lss rfl rfl) ?_
    refine L.nil ?_
    refine J.seq ?_
    refine J.dec rfl (fun hlt => ?_) (fun hlt => ?_)
    · have hik : i < k1 := by omega
      obtain ⟨st, hst⟩ : ∃ st, st = (rdL (rF zs) i (n1 zs).2).2 := ⟨_, rfl⟩
      have hnx : rdL (rF zs) (i + 1) (n1 zs).2 = ((rdL (rF zs) i (n1 zs).2).1 ++ [(rF zs st).1], (rF zs st).2) := by rw [hst]; rfl
      rw [← hst] at hI7
      have fS := rS_fit hz st hI7.hf
      have fM := rdU_fit hz 4096 (by decide) fS.1
      obtain ⟨k2, hk2n⟩ : ∃ k2 : Nat, (rdU zs 4096 (rS zs st).2).1 = (k2 : Int) := ⟨_, (Int.toNat_of_nonneg fM.2.1).symm⟩
      have hk2b : k2 ≤ 4096 := by have := fM.2.2; omega
      have eF' : rF zs st = (((rS zs st).1, (rdL (rS zs) k2 (rdU zs 4096 (rS zs st).2).2).1), (rdL (rS zs) k2 (rdU zs 4096 (rS zs st).2).2).2) := by unfold rF; rw [hk2n]; rfl
      refine J.skip ?_
      refine J.seq ?_
      refine J.block ?_
      refine J.seq ?_
      refine J.region ?_
      refine L.va rfl (X.move (by conv => lhs; whnf)) ?_
      refine L.callC rfl en_183 rfl rfl (hI7.read1 hki7 2147483647 (by decide) (by decide)) ?_
      rintro e w8 ⟨rfl, hI8, hc8⟩
      refine ⟨_, rfl, ?_⟩
      have hT8 := TCh.one hc8 hI7.hk
      have hki8 := hT8.blk hki7 (by decide)
      have hk28 := hT8.blk hk27 (by decide)
      have hk48 := hT8.blk hk47 (by decide)
      have hr8 := hr7.tch hT8 (by decide) (by decide)
      have c08 := c07.trans hc8 (fun _ _ => id)
      have z8 := c08.size
      refine L.va rfl (X.build (l := [_, _]) (Evs.cons (by conv => lhs; whnf) Evs.nil) (bld_run Try.underlying150 (bp_150 Try.underlying150) zr_150 rfl)) ?_
      refine L.alloc rfl zr_150 ?_
      intro b5 w9 hb5 hs9 hk9 he9
      refine L.storeAgg (vs := [_, _]) rfl rfl rfl rfl sz_150 (hk9) rfl ?_
      intro wa hka hga hsa
      have he8a : Ext w8 wa := he9.grw hga (by intro g hg; injection hg with hg; omega)
      have hka : Blk wa b5 150 #[.int .i64 (rS zs st).1, .slice none 0 0] := hka
      have hIa : InB wa b A n c zs (rS zs st).2 := InB.ext hI8 he8a
      have hkia := hki8.ext he8a
      have hk2a := hk28.ext he8a
      have hk4a := hk48.ext he8a
      have hra := hr8.ext he8a
      have c0a := c08.trans (Chg.of_ext (S := (· = b)) he8a) (fun _ _ => id)
      have za := c0a.size
      refine L.nil ?_
      refine J.seq ?_
      refine J.seq ?_
      refine J.region ?_
      refine L.va rfl (X.move (by conv => lhs; whnf)) ?_
      refine L.callC rfl en_183 rfl rfl (hIa.read1 hkia 4096 (by decide) (by decide)) ?_
      rintro e wb ⟨rfl, hIb, hcb⟩
      refine ⟨_, rfl, ?_⟩
      rw [hk2n]
      have hTb := TCh.one hcb hIa.hk
      have hkib := hTb.blk hkia (by decide)
      have hk2b' := hTb.blk hk2a (by decide)
      have hk4b := hTb.blk hk4a (by decide)
      have hkfb := hTb.blk hka (by decide)
      have hrb := hra.tch hTb (by decide) (by decide)
      have c0b := c0a.trans hcb (fun _ _ => id)
      have zb := c0b.size
      have l5 : w.heap.size ≤ b5 := by omega
      have n54 : b5 ≠ b4 := by have := hk48.lt; omega
      refine L.va rfl (X.move (by conv => lhs; whnf)) ?_
      refine L.nil ?_
      refine J.block ?_
      refine J.loop (X := Nat × Option Addr × Nat × Nat) [6, 7, 24, 25, 26, 27, 28, 29, 30, 31, 32, 33, 34, 35, 36, 37, 38, 39, 40, 41] (fun (k, A2, q2, c2) => [(24, .int .i64 (k : Int))]) (fun (k, A2, q2, c2) w' => k ≤ k2 ∧ q2 = k ∧ InB w' b A n c zs (rdL (rS zs) k (rdU zs 4096 (rS zs st).2).2).2 ∧ w'.ownsRow wb.heap.size 3 1 (.slice A2 q2 c2) q2 (nums .i64 (rdL (rS zs) k (rdU zs 4096 (rS zs st).2).2).1) ∧ Blk w' bi 153 #[.pointer (some ⟨b, 0, none⟩)] ∧ Blk w' b2 54 Q0v ∧ Blk w' b4 54 #[.int .u32 (gn : Int), r.val, .slice none 0 0, .slice none 0 0, .int .i64 0] ∧ Blk w' b5 150 #[.int .i64 (rS zs st).1, .slice A2 q2 c2] ∧ Chg (fun g => g = b ∨ g = b5) wb w' ∧ Chg (· = b) w w') (fun (k, _) => k2 - k) ((0, none, 0, 0)) (At1 (by first | rfl | exact at_int rfl (by omega) | exact at_slice rfl (by omega) | exact at_int rfl (by simp))) ?_ ?_
      · exact ⟨Nat.zero_le _, rfl, hIb, own_nilN _ _ _ _, hkib, hk2b', hk4b, hkfb, .of_ext (.refl _), c0b⟩
      · rintro ⟨k, A2, q2, c2⟩ g wc ⟨hk, hq2, hIc, hoc, hkic, hk2c, hk4c, hkfc, cbc, c0c⟩
        subst hq2
        have zc := c0c.size
        have zbc := cbc.size
        refine J.seq ?_
        refine J.region ?_
        refine L.va rfl (X.lss rfl rfl) ?_
        refine L.nil ?_
        refine J.seq ?_
        refine J.dec rfl (fun hlt2 => ?_) (fun hlt2 => ?_)
        · have hkk : q2 < k2 := by omega
          have hne5 : (Value.slice r.A r.n r.c).ownBlock ≠ some b5 := fun e => by have := (hr8.o.lt b5 e).2; omega
          obtain ⟨s2, hs2⟩ : ∃ s2, s2 = (rdL (rS zs) q2 (rdU zs 4096 (rS zs st).2).2).2 := ⟨_, rfl⟩
          have hn2 : rdL (rS zs) (q2 + 1) (rdU zs 4096 (rS zs st).2).2 = ((rdL (rS zs) q2 (rdU zs 4096 (rS zs st).2).2).1 ++ [(rdU zs 2147483647 s2).1], (rdU zs 2147483647 s2).2) := by rw [hs2]; rfl
          rw [← hs2] at hIc
          obtain ⟨cl, hcl⟩ : ∃ cl, cl = (rdL (rS zs) q2 (rdU zs 4096 (rS zs st).2).2).1 := ⟨_, rfl⟩
          rw [← hcl] at hoc hn2
          refine J.skip ?_
          refine J.seq ?_
          refine J.block ?_
          refine J.seq ?_
          refine J.draw (ℓ := 7) (S := (fun w' => Blk w' b5 150 #[.int .i64 (rS zs st).1, .slice A2 q2 c2])) mixed (fun wd hSE hS_h => ?_)
          have hS : ((fun w' => Blk w' b5 150 #[.int .i64 (rS zs st).1, .slice A2 q2 c2])) wd := (hkfc.ext hSE)
          refine D.va 0 rfl (by kernel_rfl) (fun _ _ _ h => h) rfl (fun w' hw => X.fieldAddr rfl Try.underlying150 rfl sz_23 (by decide)) hS ?_
          refine D.va 1 rfl (by kernel_rfl) (fun _ _ _ h => h) rfl (fun w' hw => X.load rfl sc_23 (by first | exact Ld.blk hw rfl)) hS ?_
          refine D.va 2 rfl (by kernel_rfl) (fun _ _ _ h => h) rfl (fun w' hw => X.move (by conv => lhs; whnf)) hS ?_
          have hId := hIc.ext hSE
          have hkid := hkic.ext hSE
          refine D.one 3 (by kernel_rfl) rfl ?_
          refine L.callC rfl en_183 rfl rfl (hId.read1 hkid 2147483647 (by decide) (by decide)) ?_
          rintro e we ⟨rfl, hIe, hce⟩
          refine ⟨_, rfl, ?_⟩
          have hS1 := (TCh.one hce hId.hk).blk hS (by decide)
          refine L.nil ?_
          refine ⟨fun _ => hS1, ?_⟩
          have hTe := TCh.one hce hId.hk
          refine D.one 4 (by kernel_rfl) rfl ?_
          refine L.bslice (vs := [_]) rfl (Evs.cons (by conv => lhs; whnf) Evs.nil) rfl rfl rfl rfl Try.underlying23 sz_3 zr_3 (by decide) ?_
          intro b6 wf hb6 hsf hkf hef
          have hS2 := hS1.ext hef
          refine L.nil ?_
          refine ⟨fun _ => hS2, ?_⟩
          have hIf := hIe.ext hef
          have hof := World.ownsRow.ext (hTe.own (hoc.ext hSE) (by decide)) hef
          have hkif := (hTe.blk hkid (by decide)).ext hef
          have hk2f := (hTe.blk (hk2c.ext hSE) (by decide)).ext hef
          have hk4f := (hTe.blk (hk4c.ext hSE) (by decide)).ext hef
          have c0f := ((c0c.trans (Chg.of_ext (S := (· = b)) hSE) (fun _ _ => id)).trans hce (fun _ _ => id)).trans (Chg.of_ext (S := (· = b)) hef) (fun _ _ => id)
          have zdf := hSE.le
          have zef := hce.size
          have zff := hef.le
          refine D.one 5 (by kernel_rfl) rfl ?_
          refine L.appendQ (q := q2 + 1) (ys := cl ++ [(rdU zs 2147483647 s2).1]) rfl rfl rfl Try.underlying23 el_3 (hof) (blk_reads (q := 1) (l := nums .i64 [(rdU zs 2147483647 s2).1]) hkf hkf.lt rfl) (by omega) (by simp) (by unfold maxLen; omega) (by omega) ?_
          intro A3 c3 wg hog hgg hbg horg
          have hS3 := (TCh.row hof hgg).blk hS2 (by decide)
          refine L.nil ?_
          refine ⟨fun _ => hS3, ?_⟩
          have hTg := TCh.row hof hgg
          have hIg := hIf.tch hTg (by decide) (by decide)
          have hkig := hTg.blk hkif (by decide)
          have hk2g := hTg.blk hk2f (by decide)
          have hk4g := hTg.blk hk4f (by decide)
          have c0g := c0f.new hgg (fun g hg => by have := (own_ofT hof hg).2; omega)
          have zg := hTg.size
          have cbg : Chg (fun g => g = b ∨ g = b5) wb wg := (((cbc.trans (Chg.of_ext (S := (· = b)) hSE) (fun _ _ h => .inl h)).trans hce (fun _ _ h => .inl h)).trans (Chg.of_ext (S := (· = b)) hef) (fun _ _ h => .inl h)).new hgg (fun g hg => (own_ofT hof hg).2)
          have hkfg := hS3
          refine D.va 6 rfl (by kernel_rfl) (fun _ _ _ h => h) rfl (fun w' hw => X.fieldAddr rfl Try.underlying150 rfl sz_23 (by decide)) hS3 ?_
          refine D.one 7 (by kernel_rfl) rfl ?_
          refine L.store rfl rfl (by conv => lhs; whnf) rfl sz_23 (hkfg) (by first | decide | exact Nat.le_of_ble_eq_true rfl) ?_
          intro wh hkh hgh hsh
          refine L.nil ?_
          refine ⟨fun h => absurd rfl h, ?_⟩
          have hTh := TCh.put hkfg hgh
          have hkh : Blk wh b5 150 #[.int .i64 (rS zs st).1, .slice A3 (q2 + 1) c3] := hkh
          have hIh := hIg.tch hTh (by decide) (by decide)
          have hoh := hTh.own hog (by decide)
          have hkih := hTh.blk hkig (by decide)
          have hk2h := hTh.blk hk2g (by decide)
          have hk4h := hTh.blk hk4g (by decide)
          have c0h := c0g.new hgh (fun g hg => by injection hg with hg; omega)
          have cbh : Chg (fun g => g = b ∨ g = b5) wb wh := cbg.trans (Chg.of_grown (S := fun g => g = b5) hgh (fun g hg => by injection hg with hg; exact hg.symm)) (fun _ _ h => .inr h)
          have zh := hTh.size
          refine D.done (by kernel_rfl) ?_
          refine J.seq ?_
          refine J.region ?_
          refine L.va rfl (X.load rfl sc_153 (by first | exact Ld.blk hkih rfl | exact Ld.blk hw rfl)) ?_
          refine L.call rfl en_185 rfl (hIh.Fault) ?_
          rintro e wi ⟨rfl, hei⟩
          refine ⟨_, rfl, ?_⟩
          have hIi := hIh.ext hei
          have hoi := World.ownsRow.ext hoh hei
          have hk2i := hk2h.ext hei
          have hk4i := hk4h.ext hei
          have hk5i := hkh.ext hei
          have c0i := c0h.trans (Chg.of_ext (S := (· = b)) hei) (fun _ _ => id)
          have cbi := cbh.trans (Chg.of_ext (S := (· = b)) hei) (fun _ _ h => .inl h)
          have zi := hei.le
          replace hkih := hkih.ext hei
          refine L.va rfl (X.move (by conv => lhs; whnf)) ?_
          refine L.va rfl (X.extract rfl rfl) ?_
          refine L.va rfl (X.extract rfl rfl) ?_
          refine L.va rfl (X.assign (by conv => lhs; whnf)) ?_
          refine L.va rfl (X.assign (by conv => lhs; whnf)) ?_
          refine L.nil ?_
          refine J.seq ?_
          refine J.region ?_
          refine L.va rfl (X.move (by conv => lhs; whnf)) ?_
          refine L.va rfl (X.neq rfl rfl) ?_
          refine L.nil ?_
          refine J.ndec rfl (fun hft => ?_) (fun hft => ?_)
          · have hft : (rdU zs 2147483647 s2).2.2 ≠ 0 := hft
            have e1 : (rdL (rS zs) (q2 + 1) (rdU zs 4096 (rS zs st).2).2).2 = (rdU zs 2147483647 s2).2 := by rw [hn2]
            have e2 : (rF zs st).2 = (rdU zs 2147483647 s2).2 := by
              rw [eF']
              have := rdL_stop' (rS_stick zs) (s := (rdU zs 4096 (rS zs st).2).2) (k := q2 + 1) (n := k2) (by rw [e1]; exact hft) (by omega)
              rw [e1] at this
              exact this
            have e3 : (rdL (rF zs) (i + 1) (n1 zs).2).2 = (rdU zs 2147483647 s2).2 := by rw [hnx]; exact e2
            have e4 : (h1 zs).2 = (rdU zs 2147483647 s2).2 := by
              have := h1_of (zs := zs) (i := i) (by omega) (by rw [e3]; exact hft)
              rw [this, e3]
            have e5 : (h4 zs).2 = (rdU zs 2147483647 s2).2 := by rw [h4_of1 (by rw [e4]; exact hft), e4]
            rw [← e5] at hIi hft
            refine J.seq ?_
            refine J.region ?_
            refine L.va rfl ((by first | exact X.loadAgg rfl (range_l hk4i) Try.underlying54 rfl (by kernel_rfl) | exact X.loadAgg rfl (range_blk hk4i) Try.underlying54 rfl (by kernel_rfl))) ?_
            refine L.storeAgg (vs := [_, _, _, _, _]) rfl rfl rfl rfl sz_54 (hk2i) rfl ?_
            intro wj hkj hgj hsj
            have hTj := TCh.put hk2i hgj
            have hr0 : FisOwn r w.heap.size wi := hrb.chg cbi (fun g hg => by
              rintro (rfl | rfl)
              · exact own_blkne hrb.o hIb.hk (by decide) hg
              · exact hne5 hg) (fun g hg ht => by
              rcases hg with rfl | rfl
              · exact absurd (ht.one hIb.hk.ofT) (by decide)
              · exact absurd (ht.one hkfb.ofT) (by decide))
            refine L.nil ?_
            refine J.ret ?_
            refine inB_ret <|  thn_ret <|  thn_ret <|  inB_ret <|  thn_ret <|  inB_ret <|  thn_ret <|  thn_ret <|  inB_ret <|  thn_ret <| ?_
            refine finC rfl (run_cell hkj Try.underlying54 rfl (by kernel_rfl)) ?_
            refine ⟨⟨gn, r, none, 0, 0, [], none, 0, 0, [], 0⟩, rfl, ⟨by show gn < 4294967296; omega, hr0.tch hTj (by decide) (by decide), own_nil _ _ _ _, rfl, own_nil _ _ _ _, rfl⟩, hIi.tch hTj (by decide) (by decide), fun h0 => absurd h0 hft, c0i.new hgj (fun g hg => by injection hg with hg; omega)⟩
          · skip
            refine J.skip ?_
            refine J.region ?_
            refine L.va rfl (X.add rfl rfl (by omega)) ?_
            refine L.va rfl (X.move (by conv => lhs; whnf)) ?_
            refine L.nil ?_
            refine ⟨(q2 + 1, A3, q2 + 1, c3), At1 (by first | rfl | exact at_int rfl (by omega) | exact at_slice rfl (by omega) | exact at_int rfl (by simp)), (by (iterate 19 refine Agr.lk rfl ?_); exact Agr.lk rfl (Agr.hav rfl Agr.rfl')), ?_⟩
            dsimp only
            rw [hn2]
            exact ⟨⟨by omega, rfl, hIi, hoi, hkih, hk2i, hk4i, hk5i, cbi, c0i⟩, by show k2 - (q2 + 1) < k2 - q2; omega⟩
        · obtain rfl : q2 = k2 := by omega
          have hne5 : (Value.slice r.A r.n r.c).ownBlock ≠ some b5 := fun e => by have := (hr8.o.lt b5 e).2; omega
          have hrc : FisOwn r w.heap.size wc := hrb.chg cbc (fun g hg => by
            rintro (rfl | rfl)
            · exact own_blkne hrb.o hIb.hk (by decide) hg
            · exact hne5 hg) (fun g hg ht => by
            rcases hg with rfl | rfl
            · exact absurd (ht.one hIb.hk.ofT) (by decide)
            · exact absurd (ht.one hkfb.ofT) (by decide))
          obtain ⟨cl, hcl⟩ : ∃ cl, cl = (rdL (rS zs) q2 (rdU zs 4096 (rS zs st).2).2).1 := ⟨_, rfl⟩
          rw [← hcl] at hoc eF'
          refine J.exit ?_
          refine J.region ?_
          refine L.va rfl (X.fieldAddr rfl Try.underlying54 rfl sz_51 (by decide)) ?_
          refine L.va rfl (X.load rfl sc_51 (by first | exact Ld.blk hk4c rfl | exact Ld.blk hkfc rfl)) ?_
          refine L.va rfl ((by first | exact X.loadAgg rfl (range_l hk4c) Try.underlying150 rfl (by kernel_rfl) | exact X.loadAgg rfl (range_blk hk4c) Try.underlying150 rfl (by kernel_rfl) | exact X.loadAgg rfl (range_l hkfc) Try.underlying150 rfl (by kernel_rfl) | exact X.loadAgg rfl (range_blk hkfc) Try.underlying150 rfl (by kernel_rfl))) ?_
          refine L.bslice1 (l := [_, _]) rfl rfl rfl Try.underlying51 sz_150 zr_150 rfl ?_
          intro bd wd hbd hsd hkd hed
          have hod := hrc.ext hed
          have hcd := World.ownsRow.ext hoc hed
          replace hk4c := hk4c.ext hed
          replace hkfc := hkfc.ext hed
          have hones : (([.int .i64 (rS zs st).1, .slice A2 q2 c2] : List Value).all (·.oneCell')) = true := rfl
          refine L.appendV (q := r.n + 1) (ys := r.l.flatMap Fi.vs ++ [.int .i64 (rS zs st).1, .slice A2 q2 c2]) rfl rfl rfl Try.underlying51 el_150 (hod.o) (blk_readsN (sz := 2) (q := 1) (l := [.int .i64 (rS zs st).1, .slice A2 q2 c2]) hkd hkd.lt rfl) (by first | rfl | exact strs_ones _ | assumption) (by omega) (by simp) (by unfold maxLen; omega) (by omega) ?_
          intro Ae ce we hoe hge hbe hore
          have hTe := TCh.row hod.o hge
          have hIe := (InB.ext hIc hed).tch hTe (by decide) (by decide)
          have hkie := hTe.blk (hkic.ext hed) (by decide)
          have hk2e := hTe.blk (hk2c.ext hed) (by decide)
          have hk4e := hTe.blk hk4c (by decide)
          have hce := hTe.own hcd (by decide)
          have hfe : ∀ x ∈ r.l, FiOwn x w.heap.size we := fun x hx => hTe.own (hod.h x hx) (by decide)
          have c0e := (c0c.trans (Chg.of_ext (S := (· = b)) hed) (fun _ _ => id)).new hge (fun g hg => (own_ofT hod.o hg).2)
          have zd := hed.le
          have ze := hTe.size
          refine L.va rfl (X.fieldAddr rfl Try.underlying54 rfl sz_51 (by decide)) ?_
          refine L.store rfl rfl (by conv => lhs; whnf) rfl sz_51 (hk4e) (by first | decide | exact Nat.le_of_ble_eq_true rfl) ?_
          intro wf hkf hgf hsf
          have hTf := TCh.put hk4e hgf
          have hkf : Blk wf b4 54 #[.int .u32 (gn : Int), .slice Ae (r.n + 1) ce, .slice none 0 0, .slice none 0 0, .int .i64 0] := hkf
          refine L.nil ?_
          refine J.region ?_
          refine L.va rfl (X.add rfl rfl (by omega)) ?_
          refine L.va rfl (X.move (by conv => lhs; whnf)) ?_
          refine L.nil ?_
          refine ⟨(i + 1, Fis.mk Ae (r.n + 1) ce (r.l ++ [⟨(rS zs st).1, A2, q2, c2, cl⟩])), At1 (by first | rfl | exact at_int rfl (by omega) | exact at_slice rfl (by omega) | exact at_int rfl (by simp)), (by (iterate 9 refine Agr.lk rfl ?_); refine Agr.lk rfl ?_; refine Agr.hav rfl ?_; (iterate 8 refine Agr.lk rfl ?_); exact Agr.lk rfl (Agr.hav rfl Agr.rfl')), ?_⟩
          dsimp only
          rw [hnx, eF']
          refine ⟨⟨by omega, hIe.tch hTf (by decide) (by decide), ⟨?_, ?_, ?_⟩, by show r.n + 1 ≤ i + 1; omega, ?_, hTf.blk hkie (by decide), hk2e.grown hgf (by intro e; injection e with e; exact n42 e.symm), hkf, c0e.new hgf (fun g hg => by injection hg with hg; omega)⟩, by show k1 - (i + 1) < k1 - i; omega⟩
          · have := hTf.own hoe (by decide)
            simpa using this
          · intro x hx
            rcases List.mem_append.1 hx with hx | hx
            · exact hTf.own (hfe x hx) (by decide)
            · rw [List.mem_singleton] at hx
              subst hx
              exact own_lower (hTf.own hce (by decide)) (by omega)
          · show (r.l ++ [_]).length = r.n + 1
            rw [List.length_append, hrc.l]; rfl
          · show (r.l ++ [_]).map Fi.key = _
            rw [List.map_append, hrk]; rfl
    · obtain rfl : i = k1 := by omega
      have eh1 : h1 zs = rdL (rF zs) i (n1 zs).2 := by unfold h1; rw [ek1]
      rw [← eh1] at hI7 hrk
      have fn2 := n2_fit hz
      obtain ⟨k2, hk2n⟩ : ∃ k2 : Nat, (rdU zs 16 (h1 zs).2).1 = (k2 : Int) := ⟨_, (Int.toNat_of_nonneg fn2.2.1).symm⟩
      have ek2 : (n2 zs).1.toNat = k2 := by show (rdU zs 16 (h1 zs).2).1.toNat = k2; rw [hk2n]; rfl
      have hk2b : k2 ≤ 16 := by have := fn2.2.2; omega
      refine J.exit ?_
      refine J.seq ?_
      refine J.seq ?_
      refine J.region ?_
      refine L.va rfl (X.move (by conv => lhs; whnf)) ?_
      refine L.callC rfl en_183 rfl rfl (hI7.read1 hki7 16 (by decide) (by decide)) ?_
      rintro e w8 ⟨rfl, hI8, hc8⟩
      refine ⟨_, rfl, ?_⟩
      have hT8 := TCh.one hc8 hI7.hk
      have hki8 := hT8.blk hki7 (by decide)
      have hk28 := hT8.blk hk27 (by decide)
      have hk48 := hT8.blk hk47 (by decide)
      have hr8 := hr7.tch hT8 (by decide) (by decide)
      have c08 := c07.trans hc8 (fun _ _ => id)
      rw [hk2n]
      refine L.va rfl (X.move (by conv => lhs; whnf)) ?_
      refine L.nil ?_
      refine J.block ?_
      refine J.loop (X := Nat × Option Addr × Nat × Nat) [8, 51, 52, 53, 54, 55, 56, 57, 58, 59, 60, 61, 62, 63, 64, 65] (fun (j, A2, q2, c2) => [(51, .int .i64 (j : Int))]) (fun (j, A2, q2, c2) w' => j ≤ k2 ∧ q2 = j ∧ InB w' b A n c zs (rdL (rC zs) j (n2 zs).2).2 ∧ FisOwn r w.heap.size w' ∧ w'.ownsRow w.heap.size 130 2 (.slice A2 q2 c2) q2 ((rdL (rC zs) j (n2 zs).2).1.flatMap cV) ∧ Blk w' bi 153 #[.pointer (some ⟨b, 0, none⟩)] ∧ Blk w' b2 54 Q0v ∧ Blk w' b4 54 #[.int .u32 (gn : Int), r.val, .slice A2 q2 c2, .slice none 0 0, .int .i64 0] ∧ Chg (· = b) w w') (fun (j, _) => k2 - j) ((0, none, 0, 0)) (At1 (by first | rfl | exact at_int rfl (by omega) | exact at_slice rfl (by omega) | exact at_int rfl (by simp))) ?_ ?_
      · exact ⟨Nat.zero_le _, rfl, hI8, hr8, own_nil _ _ _ _, hki8, hk28, hk48, c08⟩
      · rintro ⟨j, A2, q2, c2⟩ g w9 ⟨hj, hq2, hI9, hr9, ho9, hki9, hk29, hk49, c09⟩
        subst hq2
        have z9 := c09.size
        refine J.seq ?_
        refine J.region ?_
        refine L.va rfl (X.lss rfl rfl) ?_
        refine L.nil ?_
        refine J.seq ?_
        refine J.dec rfl (fun hlt2 => ?_) (fun hlt2 => ?_)
        · have hjk : q2 < k2 := by omega
          obtain ⟨st, hst⟩ : ∃ st, st = (rdL (rC zs) q2 (n2 zs).2).2 := ⟨_, rfl⟩
          have hnx : rdL (rC zs) (q2 + 1) (n2 zs).2 = ((rdL (rC zs) q2 (n2 zs).2).1 ++ [((rdU zs 2147483647 st).1, (rdU zs 2147483647 (rdU zs 2147483647 st).2).1)], (rdU zs 2147483647 (rdU zs 2147483647 st).2).2) := by rw [hst]; rfl
          obtain ⟨cl, hcl⟩ : ∃ cl, cl = (rdL (rC zs) q2 (n2 zs).2).1 := ⟨_, rfl⟩
          rw [← hst] at hI9
          rw [← hcl] at ho9 hnx
          refine J.skip ?_
          refine J.seq ?_
          refine J.block ?_
          refine J.seq ?_
          refine J.region ?_
          refine L.va rfl (X.move (by conv => lhs; whnf)) ?_
          refine L.callC rfl en_183 rfl rfl (hI9.read1 hki9 2147483647 (by decide) (by decide)) ?_
          rintro e wa ⟨rfl, hIa, hca⟩
          refine ⟨_, rfl, ?_⟩
          have hTa := TCh.one hca hI9.hk
          have hkia := hTa.blk hki9 (by decide)
          have hk2a := hTa.blk hk29 (by decide)
          have hk4a := hTa.blk hk49 (by decide)
          have hra := hr9.tch hTa (by decide) (by decide)
          have hoa := hTa.own ho9 (by decide)
          have c0a := c09.trans hca (fun _ _ => id)
          have za := c0a.size
          obtain ⟨v1, hv1⟩ : ∃ v1, v1 = rdU zs 2147483647 st := ⟨_, rfl⟩
          rw [← hv1] at hIa hnx ⊢
          refine L.va rfl (X.build (l := [_, _]) (Evs.cons (by conv => lhs; whnf) Evs.nil) (bld_run Try.underlying130 (bp_130 Try.underlying130) zr_130 rfl)) ?_
          refine L.alloc rfl zr_130 ?_
          intro b8 wb hb8 hsb hkb heb
          refine L.storeAgg (vs := [_, _]) rfl rfl rfl rfl sz_130 (hkb) rfl ?_
          intro wc hkc hgc hsc
          have heac : Ext wa wc := heb.grw hgc (by intro g hg; injection hg with hg; omega)
          have hkc : Blk wc b8 130 #[.int .i64 v1.1, .int .i64 0] := hkc
          have hIc := InB.ext hIa heac
          have hkic := hkia.ext heac
          have c0c := c0a.trans (Chg.of_ext (S := (· = b)) heac) (fun _ _ => id)
          have zc := c0c.size
          have hne8 : (Value.slice A2 q2 c2).ownBlock ≠ some b8 := fun e => by have := (hoa.lt b8 e).2; omega
          have n84 : b8 ≠ b4 := by have := hk4a.lt; omega
          refine L.nil ?_
          refine J.seq ?_
          refine J.region ?_
          refine L.va rfl (X.move (by conv => lhs; whnf)) ?_
          refine L.callC rfl en_183 rfl rfl (hIc.read1 hkic 2147483647 (by decide) (by decide)) ?_
          rintro e wd ⟨rfl, hId, hcd⟩
          refine ⟨_, rfl, ?_⟩
          have hTd := TCh.one hcd hIc.hk
          have hkid := hTd.blk hkic (by decide)
          have hk2d := hTd.blk (hk2a.ext heac) (by decide)
          have hk4d := hTd.blk (hk4a.ext heac) (by decide)
          have hrd := (hra.ext heac).tch hTd (by decide) (by decide)
          have hod := hTd.own (World.ownsRow.ext hoa heac) (by decide)
          have hkd := hTd.blk hkc (by decide)
          have c0d := c0c.trans hcd (fun _ _ => id)
          have zd := c0d.size
          obtain ⟨v2, hv2⟩ : ∃ v2, v2 = rdU zs 2147483647 v1.2 := ⟨_, rfl⟩
          rw [← hv2] at hId hnx ⊢
          refine L.va rfl (X.fieldAddr rfl Try.underlying130 rfl sz_3 (by decide)) ?_
          refine L.store rfl rfl (by conv => lhs; whnf) rfl sz_3 (hkd) (by first | decide | exact Nat.le_of_ble_eq_true rfl) ?_
          intro we hke hge hse
          have hTe := TCh.put hkd hge
          have hke : Blk we b8 130 #[.int .i64 v1.1, .int .i64 v2.1] := hke
          have hIe := hId.tch hTe (by decide) (by decide)
          have hkie := hTe.blk hkid (by decide)
          have hk2e := hTe.blk hk2d (by decide)
          have hk4e := hTe.blk hk4d (by decide)
          have hre := hrd.tch hTe (by decide) (by decide)
          have hoe := hod.kept hge (.inr hne8)
          have c0e := c0d.new hge (fun g hg => by injection hg with hg; omega)
          have ze := hTe.size
          refine L.nil ?_
          refine J.region ?_
          refine L.va rfl (X.fieldAddr rfl Try.underlying54 rfl sz_52 (by decide)) ?_
          refine L.va rfl (X.load rfl sc_52 (by first | exact Ld.blk hke rfl | exact Ld.blk hk4e rfl)) ?_
          refine L.va rfl ((by first | exact X.loadAgg rfl (range_l hke) Try.underlying130 rfl (by kernel_rfl) | exact X.loadAgg rfl (range_blk hke) Try.underlying130 rfl (by kernel_rfl) | exact X.loadAgg rfl (range_l hk4e) Try.underlying130 rfl (by kernel_rfl) | exact X.loadAgg rfl (range_blk hk4e) Try.underlying130 rfl (by kernel_rfl))) ?_
          refine L.bslice1 (l := [_, _]) rfl rfl rfl Try.underlying52 sz_130 zr_130 rfl ?_
          intro bf wf hbf hsf hkf hef
          replace hke := hke.ext hef
          replace hk4e := hk4e.ext hef
          have hof := World.ownsRow.ext hoe hef
          have hones : ((cV (v1.1, v2.1)).all (·.oneCell')) = true := rfl
          refine L.appendV (q := q2 + 1) (ys := cl.flatMap cV ++ cV (v1.1, v2.1)) rfl rfl rfl Try.underlying52 el_130 (hof) (blk_readsN (sz := 2) (q := 1) (l := cV (v1.1, v2.1)) hkf hkf.lt rfl) (by first | rfl | exact strs_ones _ | assumption) (by omega) (by simp) (by unfold maxLen; omega) (by omega) ?_
          intro Ag cg wg hog hgg hbg horg
          have hTg := TCh.row hof hgg
          have hIg := (InB.ext hIe hef).tch hTg (by decide) (by decide)
          have hkig := hTg.blk (hkie.ext hef) (by decide)
          have hk2g := hTg.blk (hk2e.ext hef) (by decide)
          have hk4g := hTg.blk hk4e (by decide)
          have hrg := (hre.ext hef).tch hTg (by decide) (by decide)
          have c0g := (c0e.trans (Chg.of_ext (S := (· = b)) hef) (fun _ _ => id)).new hgg (fun g hg => (own_ofT hof hg).2)
          refine L.va rfl (X.fieldAddr rfl Try.underlying54 rfl sz_52 (by decide)) ?_
          refine L.store rfl rfl (by conv => lhs; whnf) rfl sz_52 (hk4g) (by first | decide | exact Nat.le_of_ble_eq_true rfl) ?_
          intro wh hkh hgh hsh
          have hTh := TCh.put hk4g hgh
          have hkh : Blk wh b4 54 #[.int .u32 (gn : Int), r.val, .slice Ag (q2 + 1) cg, .slice none 0 0, .int .i64 0] := hkh
          refine L.nil ?_
          refine J.region ?_
          refine L.va rfl (X.add rfl rfl (by omega)) ?_
          refine L.va rfl (X.move (by conv => lhs; whnf)) ?_
          refine L.nil ?_
          refine ⟨(q2 + 1, Ag, q2 + 1, cg), At1 (by first | rfl | exact at_int rfl (by omega) | exact at_slice rfl (by omega) | exact at_int rfl (by simp)), (by (iterate 16 refine Agr.lk rfl ?_); exact Agr.lk rfl (Agr.hav rfl Agr.rfl')), ?_⟩
          dsimp only
          rw [hnx]
          refine ⟨⟨by omega, rfl, hIg.tch hTh (by decide) (by decide), hrg.tch hTh (by decide) (by decide), ?_, hTh.blk hkig (by decide), hk2g.grown hgh (by intro e; injection e with e; exact n42 e.symm), hkh, c0g.new hgh (fun g hg => by injection hg with hg; omega)⟩, by show k2 - (q2 + 1) < k2 - q2; omega⟩
          have := hTh.own hog (by decide)
          simpa using this
        · obtain rfl : q2 = k2 := by omega
          have eh2 : h2 zs = rdL (rC zs) q2 (n2 zs).2 := by unfold h2; rw [ek2]
          rw [← eh2] at hI9 ho9
          have fh2 := h2_fit hz
          have lh2 : (h2 zs).1.length = q2 := by rw [eh2, rdL_length]
          have fn3 := n3_fit hz
          obtain ⟨k3, hk3n⟩ : ∃ k3 : Nat, (rdU zs 8 (h2 zs).2).1 = (k3 : Int) := ⟨_, (Int.toNat_of_nonneg fn3.2.1).symm⟩
          have ek3 : (n3 zs).1.toNat = k3 := by show (rdU zs 8 (h2 zs).2).1.toNat = k3; rw [hk3n]; rfl
          have hk3b : k3 ≤ 8 := by have := fn3.2.2; omega
          refine J.exit ?_
          refine J.seq ?_
          refine J.seq ?_
          refine J.region ?_
          refine L.va rfl (X.move (by conv => lhs; whnf)) ?_
          refine L.callC rfl en_183 rfl rfl (hI9.read1 hki9 8 (by decide) (by decide)) ?_
          rintro e wa ⟨rfl, hIa, hca⟩
          refine ⟨_, rfl, ?_⟩
          have hTa := TCh.one hca hI9.hk
          have hkia := hTa.blk hki9 (by decide)
          have hk2a := hTa.blk hk29 (by decide)
          have hk4a := hTa.blk hk49 (by decide)
          have hra := hr9.tch hTa (by decide) (by decide)
          have hoa := hTa.own ho9 (by decide)
          have c0a := c09.trans hca (fun _ _ => id)
          rw [hk3n]
          refine L.va rfl (X.move (by conv => lhs; whnf)) ?_
          refine L.nil ?_
          refine J.block ?_
          refine J.loop (X := Nat × Option Addr × Nat × Nat) [9, 68, 69, 70, 71, 72, 73, 74, 75, 76, 77, 78, 79, 80, 81, 82, 83] (fun (m, A3, q3, c3) => [(68, .int .i64 (m : Int))]) (fun (m, A3, q3, c3) w' => m ≤ k3 ∧ q3 = m ∧ InB w' b A n c zs (rdL (rO zs) m (n3 zs).2).2 ∧ FisOwn r w.heap.size w' ∧ w'.ownsRow w.heap.size 130 2 (.slice A2 q2 c2) q2 ((h2 zs).1.flatMap cV) ∧ w'.ownsRow w.heap.size 98 2 (.slice A3 q3 c3) q3 ((rdL (rO zs) m (n3 zs).2).1.flatMap oV) ∧ Blk w' bi 153 #[.pointer (some ⟨b, 0, none⟩)] ∧ Blk w' b2 54 Q0v ∧ Blk w' b4 54 #[.int .u32 (gn : Int), r.val, .slice A2 q2 c2, .slice A3 q3 c3, .int .i64 0] ∧ Chg (· = b) w w') (fun (m, _) => k3 - m) ((0, none, 0, 0)) (At1 (by first | rfl | exact at_int rfl (by omega) | exact at_slice rfl (by omega) | exact at_int rfl (by simp))) ?_ ?_
          · exact ⟨Nat.zero_le _, rfl, hIa, hra, hoa, own_nil _ _ _ _, hkia, hk2a, hk4a, c0a⟩
          · rintro ⟨m, A3, q3, c3⟩ g wb ⟨hm, hq3, hIb, hrb, hcb, hob, hkib, hk2b', hk4b, c0b⟩
            subst hq3
            have zb := c0b.size
            refine J.seq ?_
            refine J.region ?_
            refine L.va rfl (X.lss rfl rfl) ?_
            refine L.nil ?_
            refine J.seq ?_
            refine J.dec rfl (fun hlt3 => ?_) (fun hlt3 => ?_)
            · have hmk : q3 < k3 := by omega
              obtain ⟨st, hst⟩ : ∃ st, st = (rdL (rO zs) q3 (n3 zs).2).2 := ⟨_, rfl⟩
              have hnx : rdL (rO zs) (q3 + 1) (n3 zs).2 = ((rdL (rO zs) q3 (n3 zs).2).1 ++ [((rdU zs 2147483647 st).1, decide ((rdU zs 1 (rdU zs 2147483647 st).2).1 = 1))], (rdU zs 1 (rdU zs 2147483647 st).2).2) := by rw [hst]; rfl
              obtain ⟨cl, hcl⟩ : ∃ cl, cl = (rdL (rO zs) q3 (n3 zs).2).1 := ⟨_, rfl⟩
              rw [← hst] at hIb
              rw [← hcl] at hob hnx
              refine J.skip ?_
              refine J.seq ?_
              refine J.block ?_
              refine J.seq ?_
              refine J.region ?_
              refine L.va rfl (X.move (by conv => lhs; whnf)) ?_
              refine L.callC rfl en_183 rfl rfl (hIb.read1 hkib 2147483647 (by decide) (by decide)) ?_
              rintro e wc ⟨rfl, hIc, hcc⟩
              refine ⟨_, rfl, ?_⟩
              have hTc := TCh.one hcc hIb.hk
              have hkic := hTc.blk hkib (by decide)
              have hk2c := hTc.blk hk2b' (by decide)
              have hk4c := hTc.blk hk4b (by decide)
              have hrc := hrb.tch hTc (by decide) (by decide)
              have hocc := hTc.own hcb (by decide)
              have hoc := hTc.own hob (by decide)
              have c0c := c0b.trans hcc (fun _ _ => id)
              have zc := c0c.size
              obtain ⟨v1, hv1⟩ : ∃ v1, v1 = rdU zs 2147483647 st := ⟨_, rfl⟩
              rw [← hv1] at hIc hnx ⊢
              refine L.va rfl (X.build (l := [_, _]) (Evs.cons (by conv => lhs; whnf) Evs.nil) (bld_run Try.underlying98 (bp_98 Try.underlying98) zr_98 rfl)) ?_
              refine L.alloc rfl zr_98 ?_
              intro b9 wd hb9 hsd hkd hed
              refine L.storeAgg (vs := [_, _]) rfl rfl rfl rfl sz_98 (hkd) rfl ?_
              intro we hke hge hse
              have hece : Ext wc we := hed.grw hge (by intro g hg; injection hg with hg; omega)
              have hke : Blk we b9 98 #[.int .i64 v1.1, .bool false] := hke
              have hIe := InB.ext hIc hece
              have hkie := hkic.ext hece
              have c0e := c0c.trans (Chg.of_ext (S := (· = b)) hece) (fun _ _ => id)
              have ze := c0e.size
              have hne9 : (Value.slice A3 q3 c3).ownBlock ≠ some b9 := fun e => by have := (hoc.lt b9 e).2; omega
              refine L.nil ?_
              refine J.seq ?_
              refine J.region ?_
              refine L.va rfl (X.move (by conv => lhs; whnf)) ?_
              refine L.callC rfl en_183 rfl rfl (hIe.read1 hkie 1 (by decide) (by decide)) ?_
              rintro e wf ⟨rfl, hIf, hcf⟩
              refine ⟨_, rfl, ?_⟩
              have hTf := TCh.one hcf hIe.hk
              have hkif := hTf.blk hkie (by decide)
              have hk2f := hTf.blk (hk2c.ext hece) (by decide)
              have hk4f := hTf.blk (hk4c.ext hece) (by decide)
              have hrf := (hrc.ext hece).tch hTf (by decide) (by decide)
              have hocf := hTf.own (World.ownsRow.ext hocc hece) (by decide)
              have hof := hTf.own (World.ownsRow.ext hoc hece) (by decide)
              have hkf := hTf.blk hke (by decide)
              have c0f := c0e.trans hcf (fun _ _ => id)
              have zf := c0f.size
              obtain ⟨v2, hv2⟩ : ∃ v2, v2 = rdU zs 1 v1.2 := ⟨_, rfl⟩
              rw [← hv2] at hIf hnx ⊢
              refine L.va rfl (X.eql rfl rfl) ?_
              refine L.va rfl (X.fieldAddr rfl Try.underlying98 rfl sz_4 (by decide)) ?_
              refine L.store rfl rfl (by conv => lhs; whnf) rfl sz_4 (hkf) (by first | decide | exact Nat.le_of_ble_eq_true rfl) ?_
              intro wg hkg hgg hsg
              have hTg := TCh.put hkf hgg
              have hkg : Blk wg b9 98 #[.int .i64 v1.1, .bool (decide (v2.1 = 1))] := hkg
              have hIg := hIf.tch hTg (by decide) (by decide)
              have hkig := hTg.blk hkif (by decide)
              have hk2g := hTg.blk hk2f (by decide)
              have hk4g := hTg.blk hk4f (by decide)
              have hrg := hrf.tch hTg (by decide) (by decide)
              have hocg := hTg.own hocf (by decide)
              have hog := hof.kept hgg (.inr hne9)
              have c0g := c0f.new hgg (fun g hg => by injection hg with hg; omega)
              have zg := hTg.size
              refine L.nil ?_
              refine J.region ?_
              refine L.va rfl (X.fieldAddr rfl Try.underlying54 rfl sz_22 (by decide)) ?_
              refine L.va rfl (X.load rfl sc_22 (by first | exact Ld.blk hkg rfl | exact Ld.blk hk4g rfl)) ?_
              refine L.va rfl ((by first | exact X.loadAgg rfl (range_l hkg) Try.underlying98 rfl (by kernel_rfl) | exact X.loadAgg rfl (range_blk hkg) Try.underlying98 rfl (by kernel_rfl) | exact X.loadAgg rfl (range_l hk4g) Try.underlying98 rfl (by kernel_rfl) | exact X.loadAgg rfl (range_blk hk4g) Try.underlying98 rfl (by kernel_rfl))) ?_
              refine L.bslice1 (l := [_, _]) rfl rfl rfl Try.underlying22 sz_98 zr_98 rfl ?_
              intro bh wh hbh hsh hkh heh
              replace hkg := hkg.ext heh
              replace hk4g := hk4g.ext heh
              have hoh := World.ownsRow.ext hog heh
              have hones : ((oV (v1.1, decide (v2.1 = 1))).all (·.oneCell')) = true := rfl
              refine L.appendV (q := q3 + 1) (ys := cl.flatMap oV ++ oV (v1.1, decide (v2.1 = 1))) rfl rfl rfl Try.underlying22 el_98 (hoh) (blk_readsN (sz := 2) (q := 1) (l := oV (v1.1, decide (v2.1 = 1))) hkh hkh.lt rfl) (by first | rfl | exact strs_ones _ | assumption) (by omega) (by simp) (by unfold maxLen; omega) (by omega) ?_
              intro Ai ci wi hoi hgi hbi' hori
              have hTi := TCh.row hoh hgi
              have hIi := (InB.ext hIg heh).tch hTi (by decide) (by decide)
              have hkii := hTi.blk (hkig.ext heh) (by decide)
              have hk2i := hTi.blk (hk2g.ext heh) (by decide)
              have hk4i := hTi.blk hk4g (by decide)
              have hri := (hrg.ext heh).tch hTi (by decide) (by decide)
              have hoci := hTi.own (World.ownsRow.ext hocg heh) (by decide)
              have c0i := (c0g.trans (Chg.of_ext (S := (· = b)) heh) (fun _ _ => id)).new hgi (fun g hg => (own_ofT hoh hg).2)
              refine L.va rfl (X.fieldAddr rfl Try.underlying54 rfl sz_22 (by decide)) ?_
              refine L.store rfl rfl (by conv => lhs; whnf) rfl sz_22 (hk4i) (by first | decide | exact Nat.le_of_ble_eq_true rfl) ?_
              intro wj hkj hgj hsj
              have hTj := TCh.put hk4i hgj
              have hkj : Blk wj b4 54 #[.int .u32 (gn : Int), r.val, .slice A2 q2 c2, .slice Ai (q3 + 1) ci, .int .i64 0] := hkj
              refine L.nil ?_
              refine J.region ?_
              refine L.va rfl (X.add rfl rfl (by omega)) ?_
              refine L.va rfl (X.move (by conv => lhs; whnf)) ?_
              refine L.nil ?_
              refine ⟨(q3 + 1, Ai, q3 + 1, ci), At1 (by first | rfl | exact at_int rfl (by omega) | exact at_slice rfl (by omega) | exact at_int rfl (by simp)), (by (iterate 17 refine Agr.lk rfl ?_); exact Agr.lk rfl (Agr.hav rfl Agr.rfl')), ?_⟩
              dsimp only
              rw [hnx]
              refine ⟨⟨by omega, rfl, hIi.tch hTj (by decide) (by decide), hri.tch hTj (by decide) (by decide), hTj.own hoci (by decide), ?_, hTj.blk hkii (by decide), hk2i.grown hgj (by intro e; injection e with e; exact n42 e.symm), hkj, c0i.new hgj (fun g hg => by injection hg with hg; omega)⟩, by show k3 - (q3 + 1) < k3 - q3; omega⟩
              have := hTj.own hoi (by decide)
              simpa using this
            · obtain rfl : q3 = k3 := by omega
              have eh3 : h3 zs = rdL (rO zs) q3 (n3 zs).2 := by unfold h3; rw [ek3]
              rw [← eh3] at hIb hob
              have fh3 := h3_fit hz
              have lh3 : (h3 zs).1.length = q3 := by rw [eh3, rdL_length]
              refine J.exit ?_
              refine J.seq ?_
              refine J.region ?_
              refine L.va rfl (X.move (by conv => lhs; whnf)) ?_
              refine L.callC rfl en_183 rfl rfl (hIb.read1 hkib 9223372036854775807 (by decide) (by decide)) ?_
              rintro e wc ⟨rfl, hIc, hcc⟩
              refine ⟨_, rfl, ?_⟩
              have hTc := TCh.one hcc hIb.hk
              have hkic := hTc.blk hkib (by decide)
              have hk2c := hTc.blk hk2b' (by decide)
              have hk4c := hTc.blk hk4b (by decide)
              have hrc := hrb.tch hTc (by decide) (by decide)
              have hocc := hTc.own hcb (by decide)
              have hoc := hTc.own hob (by decide)
              have c0c := c0b.trans hcc (fun _ _ => id)
              refine L.va rfl (X.fieldAddr rfl Try.underlying54 rfl sz_3 (by decide)) ?_
              refine L.store rfl rfl (by conv => lhs; whnf) rfl sz_3 (hk4c) (by first | decide | exact Nat.le_of_ble_eq_true rfl) ?_
              intro wd hkd hgd hsd
              have hTd := TCh.put hk4c hgd
              have hkd : Blk wd b4 54 #[.int .u32 (gn : Int), r.val, .slice A2 q2 c2, .slice A3 q3 c3, .int .i64 (h4 zs).1] := hkd
              have hk2d := hk2c.grown hgd (by intro e; injection e with e; exact n42 e.symm)
              have hId := hIc.tch hTd (by decide) (by decide)
              have hrd := hrc.tch hTd (by decide) (by decide)
              have hocd := hTd.own hocc (by decide)
              have hod := hTd.own hoc (by decide)
              have c0d := c0c.new hgd (fun g hg => by injection hg with hg; omega)
              refine L.nil ?_
              refine J.seq ?_
              refine J.region ?_
              refine L.va rfl ((by first | exact X.loadAgg rfl (range_l hkd) Try.underlying54 rfl (by kernel_rfl) | exact X.loadAgg rfl (range_blk hkd) Try.underlying54 rfl (by kernel_rfl))) ?_
              refine L.storeAgg (vs := [_, _, _, _, _]) rfl rfl rfl rfl sz_54 (hk2d) rfl ?_
              intro we hke hge hse
              have hTe := TCh.put hk2d hge
              have hre := hrd.tch hTe (by decide) (by decide)
              have hoce := hTe.own hocd (by decide)
              have hoe := hTe.own hod (by decide)
              refine L.nil ?_
              refine J.ret ?_
              refine finC rfl (run_cell hke Try.underlying54 rfl (by kernel_rfl)) ?_
              exact ⟨⟨gn, r, A2, q2, c2, (h2 zs).1, A3, q3, c3, (h3 zs).1, (h4 zs).1⟩, rfl, ⟨by show gn < 4294967296; omega, hre, hoce, lh2, hoe, lh3⟩, hId.tch hTe (by decide) (by decide), fun _ => ⟨hgn.symm, hrk, rfl, rfl, rfl⟩, c0d.new hge (fun g hg => by injection hg with hg; omega)⟩
end
end Go.Proofs.Ytlipeplfjkgamaa
namespace Go.Proofs.Ytlipeplfjkgamaa
set_option maxRecDepth 100000
open Go.RowKit H
set_option linter.unusedVariables false
theorem lst_eq {α : Type} (d : α) {a b : List α} (h : a.length = b.length) (hP : ∀ j, j < a.length → a.getD j d = b.getD j d) : a = b := by
  apply List.ext_getElem h
  intro i h1 h2
  have := hP i h1
  simpa [List.getD, h1, h2] using this
end Go.Proofs.Ytlipeplfjkgamaa
namespace Go.Proofs.Ytlipeplfjkgamaa
set_option maxRecDepth 100000
open Go.RowKit H
set_option linter.unusedVariables false
theorem two_col : Two Try.prog 130 3 3 := ⟨by kernel_rfl, by kernel_rfl, by kernel_rfl, by kernel_rfl⟩
theorem two_srt : Two Try.prog 98 3 4 := ⟨by kernel_rfl, by kernel_rfl, by kernel_rfl, by kernel_rfl⟩
theorem pne {α β : Type} [DecidableEq α] [DecidableEq β] {a b : α × β} : (!((a.1 == b.1) && (a.2 == b.2))) = decide (¬ a = b) := by
  obtain ⟨a1, a2⟩ := a
  obtain ⟨b1, b2⟩ := b
  by_cases h1 : a1 = b1 <;> by_cases h2 : a2 = b2 <;> simp [h1, h2]
theorem pneF {α β : Type} [DecidableEq α] [DecidableEq β] {a b : α × β} (h : a = b) : (!((a.1 == b.1) && (a.2 == b.2))) = false := by rw [pne]; exact decide_eq_false (fun k => k h)
theorem pneT {α β : Type} [DecidableEq α] [DecidableEq β] {a b : α × β} (h : ¬ a = b) : (!((a.1 == b.1) && (a.2 == b.2))) = true := by rw [pne]; exact decide_eq_true h
theorem eq_boo {P : Program} {t : TypeId} {a b : Bool} (h : P.underlying t = some .bool) : ∀ w : World, (Op.equalIn 9999 t (.bool a) (.bool b)).run P w = .ok (a == b) w := fun w => by
  exact run_equalIn_bool w 9998 t a b h
end Go.Proofs.Ytlipeplfjkgamaa
namespace Go.Proofs.Ytlipeplfjkgamaa
set_option maxRecDepth 100000
open Go.RowKit H
open Nrm (nrm)
set_option linter.unusedVariables false
abbrev qC (b2 b3 : Nat) : Qu := ⟨0, ⟨none, 0, 0, []⟩, some ⟨b2, 0, none⟩, 2, 2, [(0, 0), (0, 0)], some ⟨b3, 0, none⟩, 3, 3, [(0, false), (1, true), (0, true)], 0⟩
abbrev q0 : Qu := ⟨0, ⟨none, 0, 0, []⟩, none, 0, 0, [], none, 0, 0, [], 0⟩
theorem q0_at {w : World} {N : Nat} : q0.At N w := ⟨by decide, ⟨Reads.none_, (fun x hx => by cases hx), rfl, Nat.zero_le _⟩, Reads.none_, rfl, Nat.zero_le _, Reads.none_, rfl, Nat.zero_le _⟩
theorem fis0_code (b1 : Nat) : fcode (sC b1) ⟨none, 0, 0, []⟩ = 0 := fcode_ok (sC_code b1) (Nat.zero_le _) (by intro x hx; cases hx)
theorem q0_code (b1 : Nat) : qcode (sC b1) q0 = 3 := qc_3 (sC_code b1) (by show (0 : Int) ≤ (sC 0).F; decide +kernel) (fis0_code b1) (.inl (by decide))
theorem qC_code (b1 b2 b3 : Nat) : qcode (sC b1) (qC b2 b3) = 0 := by
  refine qc_0 (sC_code b1) (by show (0 : Int) ≤ (sC 0).F; decide +kernel) (fis0_code b1) (by show ¬ (2 < 1 ∨ 16 < 2 ∨ 8 < 3); decide) (fun i hi => ?_) (fun i hi => ?_) (by show ¬ (0 : Int) < 0; decide)
  · have hi : i < 2 := hi
    have : i = 0 ∨ i = 1 := by omega
    rcases this with rfl | rfl
    · show colOk (sC 0) (0, 0); decide +kernel
    · show colOk (sC 0) (0, 0); decide +kernel
  · have hi : i < 3 := hi
    have : i = 0 ∨ i = 1 ∨ i = 2 := by omega
    rcases this with rfl | rfl | rfl
    · show (0 : Int) ≤ 0 ∧ (0 : Int) < 2; decide
    · show (0 : Int) ≤ 1 ∧ (1 : Int) < 2; decide
    · show (0 : Int) ≤ 0 ∧ (0 : Int) < 2; decide
theorem awake29 (w : World) : Calls Try.prog 31 #[] w fun e w' => e = .returned (.bool true) ∧ Ext w w' := by
  refine enter Try.func31 rfl (by kernel_rfl) ?_
  refine J.seq ?_
  refine J.region ?_
  refine L.va rfl (X.assign (by conv => lhs; whnf)) ?_
  refine L.nil ?_
  refine J.seq ?_
  refine J.region ?_
  refine L.va rfl (X.build (l := [_, _]) (Evs.cons (by conv => lhs; whnf) (Evs.cons (by conv => lhs; whnf) Evs.nil)) (bld_run Try.underlying128 (bp_128 Try.underlying128) zr_128 rfl)) ?_
  refine L.bslice1 (l := [_, _]) rfl rfl rfl Try.underlying45 sz_128 zr_128 rfl ?_
  intro b1 w1 hb1 hs1 hk1 he1
  refine L.va rfl (X.build (l := [_, _, _, _]) (Evs.cons (by conv => lhs; whnf) Evs.nil) (bld_run Try.underlying49 (bp_49 Try.underlying49) zr_49 rfl)) ?_
  refine L.alloc rfl zr_49 ?_
  intro b2 w2 hb2 hs2 hk2 he2
  refine L.storeAgg (vs := [_, _, _, _]) rfl rfl rfl rfl sz_49 (hk2) rfl ?_
  intro w3 hk3 hg3 hs3
  have he13 : Ext w1 w3 := he2.grw hg3 (by intro g hg; injection hg with hg; omega)
  have he03 := he1.trans he13
  have hk13 := hk1.ext he13
  have H3 : (sC b1).Here w3 := sC_here b1 hk13
  refine L.nil ?_
  refine J.seq ?_
  refine J.region ?_
  refine L.va rfl ((by first | exact X.loadAgg rfl (range_l hk3) Try.underlying49 rfl (by kernel_rfl) | exact X.loadAgg rfl (range_blk hk3) Try.underlying49 rfl (by kernel_rfl))) ?_
  refine L.va rfl (X.build (l := [_, _]) Evs.nil (bld_run Try.underlying130 (bp_130 Try.underlying130) zr_130 rfl)) ?_
  refine L.va rfl (X.build (l := [_, _]) Evs.nil (bld_run Try.underlying130 (bp_130 Try.underlying130) zr_130 rfl)) ?_
  refine L.bsliceR (ls := [[_, _], [_, _]]) rfl (Evs.cons (by conv => lhs; whnf) (Evs.cons (by conv => lhs; whnf) Evs.nil)) rfl rfl rfl rfl Try.underlying52 sz_130 zr_130 (by decide) ?_
  intro b4 w4 hb4 hs4 hk4 he4
  refine L.va rfl (X.build (l := [_, _]) (Evs.cons (by conv => lhs; whnf) Evs.nil) (bld_run Try.underlying98 (bp_98 Try.underlying98) zr_98 rfl)) ?_
  refine L.va rfl (X.build (l := [_, _]) (Evs.cons (by conv => lhs; whnf) (Evs.cons (by conv => lhs; whnf) Evs.nil)) (bld_run Try.underlying98 (bp_98 Try.underlying98) zr_98 rfl)) ?_
  refine L.va rfl (X.build (l := [_, _]) (Evs.cons (by conv => lhs; whnf) (Evs.cons (by conv => lhs; whnf) Evs.nil)) (bld_run Try.underlying98 (bp_98 Try.underlying98) zr_98 rfl)) ?_
  refine L.bsliceR (ls := [[_, _], [_, _], [_, _]]) rfl (Evs.cons (by conv => lhs; whnf) (Evs.cons (by conv => lhs; whnf) (Evs.cons (by conv => lhs; whnf) Evs.nil))) rfl rfl rfl rfl Try.underlying22 sz_98 zr_98 (by decide) ?_
  intro b5 w5 hb5 hs5 hk5 he5
  have hk45 := hk4.ext he5
  have he35 := he4.trans he5
  have q5 : (qC b4 b5).At w5.heap.size w5 := ⟨(by show 0 < 4294967296; decide), ⟨Reads.none_, (fun x hx => by cases hx), rfl, Nat.zero_le _⟩, blk_readsN hk45 hk45.lt rfl, rfl, (by decide : 2 ≤ maxLen), blk_readsN hk5 hk5.lt rfl, rfl, (by decide : 3 ≤ maxLen)⟩
  have c1 := qnorm_ok (H3.ext he35) q5 (qC_code b1 b4 b5)
  replace hk3 := hk3.ext he35
  refine L.va rfl (X.build (l := [_, _, _, _, _]) (Evs.cons (by conv => lhs; whnf) (Evs.cons (by conv => lhs; whnf) Evs.nil)) (bld_run Try.underlying54 (bp_54 Try.underlying54) zr_54 rfl)) ?_
  refine L.call rfl en_32 rfl (c1) ?_
  rintro e w6 ⟨r, rfl, hr, K, he6⟩
  refine ⟨_, rfl, ?_⟩
  have he06 := (he03.trans he35).trans he6
  have ho : r.o = [(0, false), (1, true)] := K.o
  have hno : r.no = 2 := by rw [← hr.lo, ho]; rfl
  have z6 := he6.le
  replace hk3 := hk3.ext he6
  refine L.va rfl (X.move (by conv => lhs; whnf)) ?_
  refine L.va rfl (X.extract rfl rfl) ?_
  refine L.va rfl (X.extract rfl rfl) ?_
  refine L.alloc rfl zr_54 ?_
  intro b7 w7 hb7 hs7 hk7 he7
  replace hk3 := hk3.ext he7
  refine L.storeAgg (vs := [_, _, _, _, _]) rfl rfl rfl rfl sz_54 (hk7) rfl ?_
  intro w8 hk8 hg8 hs8
  have he68 : Ext w6 w8 := he7.grw hg8 (by intro g hg; injection hg with hg; omega)
  have hk8 : Blk w8 b7 54 r.vs.toArray := hk8
  have hk38 := hk3.grown hg8 (by intro e; injection e with e; have := hk3.lt; omega)
  have r8 := hr.ext he68
  have he08 := he06.trans he68
  have hA := r8.o.some_ (by omega)
  have hgt := gtO (l := r.o) (i := 1) (by rw [ho]; decide)
  have e1 : r.o.getD 1 o0 = (1, true) := by rw [ho]; rfl
  rw [e1] at hgt
  refine L.va rfl (X.assign (by conv => lhs; whnf)) ?_
  refine L.nil ?_
  refine J.seq ?_
  refine J.region ?_
  refine L.va rfl (X.move (by conv => lhs; whnf)) ?_
  refine L.va rfl (X.eql rfl rfl) ?_
  refine L.va rfl (X.move (by conv => lhs; whnf)) ?_
  refine L.caseDecT (k := 22) rfl (by rfl) ?_
  refine L.va rfl (X.fieldAddr rfl Try.underlying54 rfl sz_22 (by decide)) ?_
  refine L.va rfl (X.load rfl sc_22 (by first | exact Ld.blk hk8 rfl | exact Ld.blk hk38 rfl)) ?_
  refine L.va rfl (X.len rfl Try.underlying22) ?_
  refine L.va rfl (X.eql rfl rfl) ?_
  refine L.va rfl (X.pickT rfl (by conv => lhs; whnf)) ?_
  refine L.va rfl (X.move (by conv => lhs; whnf)) ?_
  refine L.caseDecT (k := 28) rfl (by exact (show ((r.no : Nat) : Int) = 2 by omega)) ?_
  refine L.va rfl (X.fieldAddr rfl Try.underlying54 rfl sz_22 (by decide)) ?_
  refine L.va rfl (X.load rfl sc_22 (by first | exact Ld.blk hk8 rfl | exact Ld.blk hk38 rfl | exact hA | exact Ld.flat2 oV_len (r8.o) hgt (r := 0) rfl | exact Ld.flat2 oV_len (r8.o) hgt (r := 1) rfl)) ?_
  refine L.va rfl (X.indexAddrn (j := 1) rfl rfl Try.underlying22 sz_98 (by first | exact Option.some_ne_none _ | exact hA) (by omega)) ?_
  refine L.va rfl (X.loadRow (cs := oV (1, true)) rfl r8.o (fun r u hu => flat_row oV_len hgt r u hu) (Nat.zero_lt_succ _) Try.underlying98 rfl (by kernel_rfl)) ?_
  refine L.va rfl (X.build (l := [_, _]) (Evs.cons (by conv => lhs; whnf) (Evs.cons (by conv => lhs; whnf) Evs.nil)) (bld_run Try.underlying98 (bp_98 Try.underlying98) zr_98 rfl)) ?_
  refine L.va rfl (X.eqlTwo two_srt rfl rfl sc_3 sc_4 (eq_int Try.underlying3) (eq_boo Try.underlying4)) ?_
  refine L.va rfl (X.pickT rfl (by conv => lhs; whnf)) ?_
  refine L.va rfl (X.move (by conv => lhs; whnf)) ?_
  refine L.caseBT (k := 36) rfl (by rfl) ?_
  refine L.va rfl ((by first | exact X.loadAgg rfl (range_l hk8) Try.underlying49 rfl (by kernel_rfl) | exact X.loadAgg rfl (range_blk hk8) Try.underlying49 rfl (by kernel_rfl) | exact X.loadAgg rfl (range_l hk38) Try.underlying49 rfl (by kernel_rfl) | exact X.loadAgg rfl (range_blk hk38) Try.underlying49 rfl (by kernel_rfl))) ?_
  refine L.va rfl (X.build (l := [_, _, _, _, _]) Evs.nil (bld_run Try.underlying54 (bp_54 Try.underlying54) zr_54 rfl)) ?_
  have c2 := qcheck (H3.ext ((he35.trans he6).trans he68)) (q0_at (N := w8.heap.size))
  refine L.call rfl en_33 rfl (c2) ?_
  rintro e w9 ⟨rfl, he9⟩
  refine ⟨_, rfl, ?_⟩
  rw [q0_code]
  refine L.va rfl (X.eql rfl rfl) ?_
  refine L.va rfl (X.pickT rfl (by conv => lhs; whnf)) ?_
  refine L.va rfl (X.assign (by conv => lhs; whnf)) ?_
  refine L.nil ?_
  refine J.ret ?_
  refine fin1 ?_
  exact ⟨rfl, he08.trans he9⟩
end Go.Proofs.Ytlipeplfjkgamaa
namespace Go.Proofs.Ytlipeplfjkgamaa
set_option maxRecDepth 100000
open Go.RowKit H
open Byts Cod
set_option linter.unusedVariables false
def qcOf (q : Qu) : QC := ⟨(q.g : Int), q.f.l.map Fi.key, q.c, q.o, q.m⟩
end Go.Proofs.Ytlipeplfjkgamaa
namespace Go.Proofs.Ytlipeplfjkgamaa
set_option maxRecDepth 100000
open Go.RowKit H
set_option linter.unusedVariables false
structure Qu.Eqv (a b : Qu) : Prop where
  g : a.g = b.g
  m : a.m = b.m
  c : a.c = b.c
  o : a.o = b.o
  f : a.f.l.map Fi.key = b.f.l.map Fi.key
instance (a b : Qu) : Decidable (a.Eqv b) := decidable_of_iff (a.g = b.g ∧ a.m = b.m ∧ a.c = b.c ∧ a.o = b.o ∧ a.f.l.map Fi.key = b.f.l.map Fi.key) ⟨fun ⟨h1, h2, h3, h4, h5⟩ => ⟨h1, h2, h3, h4, h5⟩, fun h => ⟨h.g, h.m, h.c, h.o, h.f⟩⟩
end Go.Proofs.Ytlipeplfjkgamaa
namespace Go.Proofs.Ytlipeplfjkgamaa
set_option maxRecDepth 100000
open Go.RowKit H
open Byts Cod
set_option linter.unusedVariables false
def fK (s : Sch) (x : Int × List Int) : Int := if x.1 < 0 ∨ (s.nd : Int) ≤ x.1 then 11 else if 4096 < x.2.length then 3 else if ∃ i, i < x.2.length ∧ ¬ cOk s x.1 (x.2.getD i 0) then 2 else 0
theorem fE_key {s : Sch} {x : Fi} (h : x.l.length = x.n) : fE s x = fK s x.key := by unfold fE fK; rw [h]
theorem fst_key {s : Sch} : ∀ {l : List Fi}, (∀ x ∈ l, x.l.length = x.n) → fst' (fE s) l = fst' (fK s) (l.map Fi.key)
  | [], _ => rfl
  | x :: t, h => by
    have h1 := fE_key (s := s) (h x (List.mem_cons_self ..))
    have h2 := fst_key (s := s) (l := t) fun y hy => h y (List.mem_cons_of_mem _ hy)
    show (if fE s x ≠ 0 then fE s x else fst' (fE s) t) = (if fK s x.key ≠ 0 then fK s x.key else fst' (fK s) (t.map Fi.key))
    rw [h1, h2]
theorem fcode_key {s : Sch} {f f' : Fis} {N N' : Nat} {w w' : World} (h : f.At N w) (h' : f'.At N' w') (e : f.l.map Fi.key = f'.l.map Fi.key) : fcode s f = fcode s f' := by
  have e2 : f.n = f'.n := by have := congrArg List.length e; rw [List.length_map, List.length_map, h.l, h'.l] at this; exact this
  unfold fcode
  rw [e2, fst_key (fun x hx => (h.h x hx).len), fst_key (fun x hx => (h'.h x hx).len), e]
theorem qcode_eqv {s : Sch} {a b : Qu} {N N' : Nat} {w w' : World} (ha : a.At N w) (hb : b.At N' w') (e : a.Eqv b) : qcode s a = qcode s b := by
  have e1 : a.nc = b.nc := by rw [← ha.lc, ← hb.lc, e.c]
  have e2 : a.no = b.no := by rw [← ha.lo, ← hb.lo, e.o]
  unfold qcode Qu.oOk
  rw [e.g, e.m, e.c, e.o, e1, e2, fcode_key ha.f hb.f e.f]
theorem eqv_of {a : Qu} {c : QC} {b : Qu} (h1 : (a.g : Int) = c.g ∧ a.f.l.map Fi.key = c.f ∧ a.c = c.c ∧ a.o = c.o ∧ a.m = c.m) (h2 : (b.g : Int) = c.g ∧ b.f.l.map Fi.key = c.f ∧ b.c = c.c ∧ b.o = c.o ∧ b.m = c.m) : a.Eqv b :=
  ⟨by have := h1.1.trans h2.1.symm; omega, h1.2.2.2.2.trans h2.2.2.2.2.symm, h1.2.2.1.trans h2.2.2.1.symm, h1.2.2.2.1.trans h2.2.2.2.1.symm, h1.2.1.trans h2.2.1.symm⟩
abbrev Says (r : Qu) (c : QC) : Prop := (r.g : Int) = c.g ∧ r.f.l.map Fi.key = c.f ∧ r.c = c.c ∧ r.o = c.o ∧ r.m = c.m
structure Got (s : Sch) (zs : List Int) (r : Qu) (e : Int) : Prop where
  bad : s.code ≠ 0 → e = 1 ∧ r = q0
  cut : s.code = 0 → rdE zs (h4 zs).2 ≠ 0 → e = rdE zs (h4 zs).2 ∧ r = q0
  not : s.code = 0 → rdE zs (h4 zs).2 = 0 → ∃ a : Qu, Says a (qg zs) ∧ (∃ N w, a.At N w) ∧ e = qcode s a ∧ (e ≠ 0 → r = q0) ∧ (e = 0 → r = a)
theorem Got.same {s : Sch} {zs : List Int} {r r' : Qu} {e e' : Int} (h : Got s zs r e) (h' : Got s zs r' e') : e = e' ∧ r.Eqv r' := by
  have rf : q0.Eqv q0 := ⟨rfl, rfl, rfl, rfl, rfl⟩
  by_cases h1 : s.code = 0
  · by_cases h2 : rdE zs (h4 zs).2 = 0
    · obtain ⟨a, a1, ⟨N, w, a2⟩, a3, a4, a5⟩ := h.not h1 h2
      obtain ⟨b, b1, ⟨N', w', b2⟩, b3, b4, b5⟩ := h'.not h1 h2
      have q := eqv_of a1 b1
      have ee : e = e' := by rw [a3, b3, qcode_eqv a2 b2 q]
      refine ⟨ee, ?_⟩
      by_cases h3 : e = 0
      · rw [a5 h3, b5 (by omega)]; exact q
      · rw [a4 h3, b4 (by omega)]; exact rf
    · obtain ⟨a1, a2⟩ := h.cut h1 h2
      obtain ⟨b1, b2⟩ := h'.cut h1 h2
      exact ⟨by omega, by rw [a2, b2]; exact rf⟩
  · obtain ⟨a1, a2⟩ := h.bad h1
    obtain ⟨b1, b2⟩ := h'.bad h1
    exact ⟨by omega, by rw [a2, b2]; exact rf⟩
theorem qget {s : Sch} {A : Option Addr} {n c : Nat} {zs : List Int} {w : World} (H : s.Here w) (hr : Reads w w.heap.size 1 A n (nums .u8 zs)) (hz : ∀ z ∈ zs, 0 ≤ z ∧ z < 256) (hn : n ≤ 1000000) : Calls Try.prog 40 #[s.val, .slice A n c] w fun e w' => ∃ (r : Qu) (x : Int), e = .returned (.tuple #[r.val, .int .i64 x]) ∧ r.At w'.heap.size w' ∧ Got s zs r x ∧ Ext w w' := by
  refine enter Try.func40 rfl (by kernel_rfl) ?_
  refine J.seq ?_
  refine J.region ?_
  refine L.boxA (l := [_, _, _, _]) rfl rfl ?_
  intro b1 w1 hb1 hs1 hk1 he1
  refine L.alloc rfl zr_54 ?_
  intro b2 w2 hb2 hs2 hk2 he2
  have hk12 := hk1.ext he2
  have he02 := he1.trans he2
  have hk2 : Blk w2 b2 54 Q0v := hk2
  have y1 := he1.le
  refine L.va rfl (X.assign (by conv => lhs; whnf)) ?_
  refine L.nil ?_
  refine J.seq ?_
  refine J.seq ?_
  refine J.region ?_
  refine L.va rfl ((by first | exact X.loadAgg rfl (range_l hk12) Try.underlying49 rfl (by kernel_rfl) | exact X.loadAgg rfl (range_blk hk12) Try.underlying49 rfl (by kernel_rfl))) ?_
  refine L.call rfl en_107 rfl ((H.ext he02).check) ?_
  rintro e w3 ⟨rfl, he3⟩
  refine ⟨_, rfl, ?_⟩
  have hk23 := hk2.ext he3
  have he03 := he02.trans he3
  have z3 := he03.le
  replace hk12 := hk12.ext he3
  refine L.va rfl (X.neq rfl rfl) ?_
  refine L.nil ?_
  refine J.ndec rfl (fun h1 => ?_) (fun h1 => ?_)
  · skip
    refine J.seq ?_
    refine J.region ?_
    refine L.va rfl (X.build (l := [_, _, _, _, _]) Evs.nil (bld_run Try.underlying54 (bp_54 Try.underlying54) zr_54 rfl)) ?_
    refine L.storeAgg (vs := [_, _, _, _, _]) rfl rfl rfl rfl sz_54 (hk23) rfl ?_
    intro w4 hk4 hg4 hs4
    refine L.va rfl (X.assign (by conv => lhs; whnf)) ?_
    refine L.nil ?_
    refine J.ret ?_
    refine thn_ret <| ?_
    refine finCT rfl (run_cell hk4 Try.underlying54 rfl (by kernel_rfl)) ?_
    exact ⟨q0, 1, rfl, q0_at, ⟨fun _ => ⟨rfl, rfl⟩, fun h => absurd h h1, fun h => absurd h h1⟩, he03.grw hg4 (by intro g hg; injection hg with hg; omega)⟩
  have h1 : s.code = 0 := by simpa using h1
  refine J.skip ?_
  refine J.seq ?_
  refine J.region ?_
  refine L.va rfl (X.move (by conv => lhs; whnf)) ?_
  refine L.call rfl en_108 rfl (InB.new (c := c) ((hr.ext he03).more z3) hz hn) ?_
  rintro e w4 ⟨b, A4, c4, rfl, hI4, hb4, he4⟩
  refine ⟨_, rfl, ?_⟩
  have hk24 := hk23.ext he4
  have he04 := he03.trans he4
  have z4 := he4.le
  replace hk12 := hk12.ext he4
  refine L.va rfl (X.assign (by conv => lhs; whnf)) ?_
  refine L.nil ?_
  refine J.seq ?_
  refine J.region ?_
  refine L.va rfl (X.move (by conv => lhs; whnf)) ?_
  refine L.call rfl en_109 rfl (qread hI4) ?_
  rintro e w5 ⟨r, rfl, hr5, hI5, hrc, hc5⟩
  refine ⟨_, rfl, ?_⟩
  have x5 : Ext w3 w5 := he4.low (hc5.below (by omega) (fun g hg => by omega)) (Nat.le_refl _)
  have hk25 := hk23.ext x5
  have z5 := x5.le
  have hk125 := (TCh.one hc5 hI4.hk).blk hk12 (by decide)
  refine L.alloc rfl zr_54 ?_
  intro b6 w6 hb6 hs6 hk6 he6
  replace hk125 := hk125.ext he6
  refine L.storeAgg (vs := [_, _, _, _, _]) rfl rfl rfl rfl sz_54 (hk6) rfl ?_
  intro w7 hk7 hg7 hs7
  have he57 : Ext w5 w7 := he6.grw hg7 (by intro g hg; injection hg with hg; omega)
  have hk7 : Blk w7 b6 54 r.vs.toArray := hk7
  have hI7 := InB.ext hI5 he57
  have hk127 := hk125.grown hg7 (by intro e; injection e with e; have := hk12.lt; have := hc5.size; omega)
  have x7 := x5.trans he57
  refine L.nil ?_
  refine J.seq ?_
  refine J.region ?_
  refine L.va rfl (X.move (by conv => lhs; whnf)) ?_
  refine L.call rfl en_110 rfl (hI7.End) ?_
  rintro e w8 ⟨rfl, hI8, hc8⟩
  refine ⟨_, rfl, ?_⟩
  have hT8 := TCh.one hc8 hI7.hk
  have hk78 := hT8.blk hk7 (by decide)
  have hk128 := hT8.blk hk127 (by decide)
  have x8 : Ext w3 w8 := x7.low (hc8.below (by have := x7.le; omega) (fun g hg => by omega)) (Nat.le_refl _)
  have hk28 := hk23.ext x8
  have z8 := x8.le
  have hr8 := (hr5.ext he57).tch hT8 (by decide) (by decide) (by decide) (by decide)
  have hcode := h4_fit hz
  refine L.va rfl (X.assign (by conv => lhs; whnf)) ?_
  refine L.nil ?_
  refine J.seq ?_
  refine J.seq ?_
  refine J.region ?_
  refine L.va rfl (X.move (by conv => lhs; whnf)) ?_
  refine L.va rfl (X.eql rfl rfl) ?_
  refine L.nil ?_
  refine J.dec rfl (fun h2 => ?_) (fun h2 => ?_)
  · have h2 : rdE zs (h4 zs).2 = 0 := h2
    have hf0 : (h4 zs).2.2 = 0 := by
      unfold rdE at h2
      split at h2
      · cases h2
      · exact h2
    have hS := hrc hf0
    refine J.region ?_
    refine L.va rfl ((by first | exact X.loadAgg rfl (range_l hk78) Try.underlying49 rfl (by kernel_rfl) | exact X.loadAgg rfl (range_blk hk78) Try.underlying49 rfl (by kernel_rfl) | exact X.loadAgg rfl (range_l hk128) Try.underlying49 rfl (by kernel_rfl) | exact X.loadAgg rfl (range_blk hk128) Try.underlying49 rfl (by kernel_rfl))) ?_
    refine L.va rfl ((by first | exact X.loadAgg rfl (range_l hk78) Try.underlying54 rfl (by kernel_rfl) | exact X.loadAgg rfl (range_blk hk78) Try.underlying54 rfl (by kernel_rfl) | exact X.loadAgg rfl (range_l hk128) Try.underlying54 rfl (by kernel_rfl) | exact X.loadAgg rfl (range_blk hk128) Try.underlying54 rfl (by kernel_rfl))) ?_
    refine L.call rfl en_33 rfl (qcheck (H.ext (he03.trans x8)) hr8.at) ?_
    rintro e w9 ⟨rfl, he9⟩
    refine ⟨_, rfl, ?_⟩
    have hk29 := hk28.ext he9
    have hr9 := hr8.ext he9
    have he09 := (he03.trans x8).trans he9
    have z9 := he9.le
    replace hk78 := hk78.ext he9
    replace hk128 := hk128.ext he9
    refine L.va rfl (X.assign (by conv => lhs; whnf)) ?_
    refine L.nil ?_
    refine J.seq ?_
    refine J.seq ?_
    refine J.region ?_
    refine L.va rfl (X.move (by conv => lhs; whnf)) ?_
    refine L.va rfl (X.neq rfl rfl) ?_
    refine L.nil ?_
    refine J.ndec rfl (fun h3 => ?_) (fun h3 => ?_)
    · skip
      refine J.seq ?_
      refine J.region ?_
      refine L.va rfl (X.build (l := [_, _, _, _, _]) Evs.nil (bld_run Try.underlying54 (bp_54 Try.underlying54) zr_54 rfl)) ?_
      refine L.va rfl (X.move (by conv => lhs; whnf)) ?_
      refine L.storeAgg (vs := [_, _, _, _, _]) rfl rfl rfl rfl sz_54 (hk29) rfl ?_
      intro wa hka hga hsa
      refine L.va rfl (X.assign (by conv => lhs; whnf)) ?_
      refine L.nil ?_
      refine J.ret ?_
      refine thn_ret <| ?_
      refine finCT rfl (run_cell hka Try.underlying54 rfl (by kernel_rfl)) ?_
      exact ⟨q0, qcode s r, rfl, q0_at, ⟨fun h => absurd h1 h, fun _ h => absurd h2 h, fun _ _ => ⟨r, hS, ⟨_, _, hr8.at⟩, rfl, fun _ => rfl, fun h => absurd h h3⟩⟩, he09.grw hga (by intro g hg; injection hg with hg; omega)⟩
    · skip
      refine J.skip ?_
      refine J.seq ?_
      refine J.region ?_
      refine L.va rfl ((by first | exact X.loadAgg rfl (range_l hk78) Try.underlying54 rfl (by kernel_rfl) | exact X.loadAgg rfl (range_blk hk78) Try.underlying54 rfl (by kernel_rfl))) ?_
      refine L.storeAgg (vs := [_, _, _, _, _]) rfl rfl rfl rfl sz_54 (hk29) rfl ?_
      intro wa hka hga hsa
      have hTa := TCh.put hk29 hga
      refine L.va rfl (X.assign (by conv => lhs; whnf)) ?_
      refine L.nil ?_
      refine J.ret ?_
      refine finCT rfl (run_cell hka Try.underlying54 rfl (by kernel_rfl)) ?_
      have h3 : qcode s r = 0 := by simpa using h3
      exact ⟨r, 0, rfl, (hr9.tch hTa (by decide) (by decide) (by decide) (by decide)).at, ⟨fun h => absurd h1 h, fun _ h => absurd h2 h, fun _ _ => ⟨r, hS, ⟨_, _, hr8.at⟩, h3.symm, fun h => absurd rfl h, fun _ => rfl⟩⟩, he09.grw hga (by intro g hg; injection hg with hg; omega)⟩
  · have h2 : rdE zs (h4 zs).2 ≠ 0 := h2
    refine J.skip ?_
    refine J.seq ?_
    refine J.seq ?_
    refine J.region ?_
    refine L.va rfl (X.move (by conv => lhs; whnf)) ?_
    refine L.va rfl (X.neq rfl rfl) ?_
    refine L.nil ?_
    refine J.ndecT rfl (by exact h2) ?_
    refine J.seq ?_
    refine J.region ?_
    refine L.va rfl (X.build (l := [_, _, _, _, _]) Evs.nil (bld_run Try.underlying54 (bp_54 Try.underlying54) zr_54 rfl)) ?_
    refine L.va rfl (X.move (by conv => lhs; whnf)) ?_
    refine L.storeAgg (vs := [_, _, _, _, _]) rfl rfl rfl rfl sz_54 (hk28) rfl ?_
    intro w9 hk9 hg9 hs9
    refine L.va rfl (X.assign (by conv => lhs; whnf)) ?_
    refine L.nil ?_
    refine J.ret ?_
    refine thn_ret <| ?_
    refine finCT rfl (run_cell hk9 Try.underlying54 rfl (by kernel_rfl)) ?_
    exact ⟨q0, _, rfl, q0_at, ⟨fun h => absurd h1 h, fun _ _ => ⟨rfl, rfl⟩, fun _ h => absurd h h2⟩, (he03.trans x8).grw hg9 (by intro g hg; injection hg with hg; omega)⟩
end Go.Proofs.Ytlipeplfjkgamaa
namespace Go.Proofs.Ytlipeplfjkgamaa
set_option maxRecDepth 100000
open Go.RowKit H
open Byts Cod
set_option linter.unusedVariables false
def aU (zs : List Int) (most : Int) : Int × Nat × Int := if (gu zs).2.2 ≠ 0 then (0, 0, (gu zs).2.2) else if most < (gu zs).1 then (0, 0, 2) else ((gu zs).1, (gu zs).2.1, 0)
theorem rdU_a (zs : List Int) (most : Int) (s : RS) : rdU zs most s = if s.2 ≠ 0 then (0, s) else ((aU (zs.drop s.1) most).1, (s.1 + (aU (zs.drop s.1) most).2.1, (aU (zs.drop s.1) most).2.2)) := by
  unfold rdU aU
  split
  · rfl
  · split
    · rfl
    · split <;> rfl
def gotV (x : Int) (t : ByteArray) (n : Nat) (e : Int) : Value := .agg #[.int .u64 x, .int .i64 0, .string t, .int .i64 (n : Int), .int .i64 e]
theorem read08_U (A : Option Addr) (m c : Nat) (zs : List Int) (w : World) (most i q : Int) (fv : Value) (t : ByteArray) (hr : Reads w w.heap.size 1 A m (nums .u8 zs)) (hz : ∀ z ∈ zs, 0 ≤ z ∧ z < 256) (hm : m ≤ 1000000) (hmc : m ≤ c) :
    Calls Try.prog 238 #[.agg #[.int .i64 0, .int .u64 most, .int .i64 i, fv, .string t, .int .i64 q], .slice A m c] w fun e w' => e = .returned (gotV (aU zs most).1 (strOfNums []) (aU zs most).2.1 (aU zs most).2.2) ∧ Ext w w' := by
  refine enter Try.func238 rfl (by kernel_rfl) ?_
  refine J.seq ?_
  refine J.region ?_
  refine L.boxA (l := [_, _, _, _, _, _]) rfl rfl ?_
  intro b1 w1 hb1 hs1 hk1 he1
  refine L.alloc rfl zr_243 ?_
  intro b2 w2 hb2 hs2 hk2 he2
  refine L.nil ?_
  refine J.seq ?_
  refine J.region ?_
  refine L.va rfl (X.build (l := [_, _, _, _, _]) Evs.nil (bld_run Try.underlying243 (bp_243 Try.underlying243) zr_243 rfl)) ?_
  refine L.alloc rfl zr_243 ?_
  intro b3 w3 hb3 hs3 hk3 he3
  refine L.storeAgg (vs := [_, _, _, _, _]) rfl rfl rfl rfl sz_243 (hk3) rfl ?_
  intro w4 hk4 hg4 hs4
  have hk14 := ((hk1.ext he2).ext he3).grown hg4 (fun e => by injection e with e; omega)
  have he4 : Ext w w4 := (((he1.trans he2).trans he3)).grw hg4 (by intro g hg; injection hg with hg; omega)
  refine L.nil ?_
  refine J.seq ?_
  refine J.seq ?_
  refine J.region ?_
  refine L.va rfl (X.fieldAddr rfl Try.underlying246 rfl sz_3 (by decide)) ?_
  refine L.va rfl (X.load rfl sc_3 (by first | exact Ld.blk hk14 rfl)) ?_
  refine L.nil ?_
  refine J.block ?_
  refine J.seq ?_
  refine J.region ?_
  refine L.va rfl (X.eql rfl rfl) ?_
  refine L.va rfl (X.assign (by conv => lhs; whnf)) ?_
  refine L.nil ?_
  refine J.iteT rfl ?_
  refine J.seq ?_
  refine J.region ?_
  refine L.va rfl (X.move (by conv => lhs; whnf)) ?_
  refine L.call rfl en_267 rfl (ref_GetU A m c zs _ (((hr.ext he4)).more he4.le) hz hm hmc) ?_
  rintro e _ ⟨rfl, rfl⟩
  refine ⟨_, rfl, ?_⟩
  obtain ⟨x, n, e, hgu⟩ : ∃ x n e, gu zs = (x, n, e) := ⟨_, _, _, rfl⟩
  unfold aU
  rw [hgu]
  dsimp only
  refine L.va rfl (X.move (by conv => lhs; whnf)) ?_
  refine L.va rfl (X.extract rfl rfl) ?_
  refine L.va rfl (X.extract rfl rfl) ?_
  refine L.va rfl (X.extract rfl rfl) ?_
  refine L.va rfl (X.fieldAddr rfl Try.underlying243 rfl sz_90 (by decide)) ?_
  refine L.store rfl rfl (by conv => lhs; whnf) rfl sz_90 (hk4) (by first | decide | exact Nat.le_of_ble_eq_true rfl) ?_
  intro w5 hk5 hg5 hs5
  refine L.va rfl (X.fieldAddr rfl Try.underlying243 rfl sz_3 (by decide)) ?_
  refine L.store rfl rfl (by conv => lhs; whnf) rfl sz_3 (hk5) (by first | decide | exact Nat.le_of_ble_eq_true rfl) ?_
  intro w6 hk6 hg6 hs6
  refine L.va rfl (X.fieldAddr rfl Try.underlying243 rfl sz_3 (by decide)) ?_
  refine L.store rfl rfl (by conv => lhs; whnf) rfl sz_3 (hk6) (by first | decide | exact Nat.le_of_ble_eq_true rfl) ?_
  intro w7 hk7 hg7 hs7
  have hk17 := ((hk14.grown hg5 (fun e => by injection e with e; omega)).grown hg6 (fun e => by injection e with e; omega)).grown hg7 (fun e => by injection e with e; omega)
  have hk24 := ((hk2.ext he3).grown hg4 (fun e => by injection e with e; omega)).grown hg5 (fun e => by injection e with e; omega)
  have hk27 := (hk24.grown hg6 (fun e => by injection e with e; omega)).grown hg7 (fun e => by injection e with e; omega)
  have he7 : Ext w w7 := ((he4.grw hg5 (by intro g hg; injection hg with hg; omega)).grw hg6 (by intro g hg; injection hg with hg; omega)).grw hg7 (by intro g hg; injection hg with hg; omega)
  have hk7 : Blk w7 b3 243 #[.int .u64 x, .int .i64 0, .string ⟨#[]⟩, .int .i64 (n : Int), .int .i64 e] := hk7
  refine L.nil ?_
  refine J.seq ?_
  refine J.region ?_
  refine L.va rfl (X.fieldAddr rfl Try.underlying243 rfl sz_3 (by decide)) ?_
  refine L.va rfl (X.load rfl sc_3 (by first | exact Ld.blk hk17 rfl | exact Ld.blk hk7 rfl)) ?_
  refine L.va rfl (X.eql rfl rfl) ?_
  refine L.va rfl (X.move (by conv => lhs; whnf)) ?_
  refine L.caseDec (k := 69) rfl (fun h0 => ?_) (fun h0 => ?_)
  · have h0 : e = 0 := h0
    rw [if_neg (fun h => h h0)]
    refine L.va rfl (X.fieldAddr rfl Try.underlying243 rfl sz_90 (by decide)) ?_
    refine L.va rfl (X.load rfl sc_90 (by first | exact Ld.blk hk17 rfl | exact Ld.blk hk7 rfl)) ?_
    refine L.va rfl (X.fieldAddr rfl Try.underlying246 rfl sz_90 (by decide)) ?_
    refine L.va rfl (X.load rfl sc_90 (by first | exact Ld.blk hk17 rfl | exact Ld.blk hk7 rfl)) ?_
    refine L.va rfl (X.gtr rfl rfl) ?_
    refine L.va rfl (X.pickT rfl (by conv => lhs; whnf)) ?_
    refine L.nil ?_
    refine J.dec rfl (fun hlt => ?_) (fun hlt => ?_)
    · rw [if_pos hlt]
      refine J.region ?_
      refine L.va rfl (X.fieldAddr rfl Try.underlying243 rfl sz_3 (by decide)) ?_
      refine L.store rfl rfl (by conv => lhs; whnf) rfl sz_3 (hk7) (by first | decide | exact Nat.le_of_ble_eq_true rfl) ?_
      intro w8 hk8 hg8 hs8
      have hk28 := hk27.grown hg8 (fun e => by injection e with e; omega)
      have hk8 : Blk w8 b3 243 #[.int .u64 x, .int .i64 0, .string ⟨#[]⟩, .int .i64 (n : Int), .int .i64 2] := hk8
      refine L.nil ?_
      refine J.seq ?_
      refine J.seq ?_
      refine J.region ?_
      refine L.va rfl (X.fieldAddr rfl Try.underlying243 rfl sz_3 (by decide)) ?_
      refine L.va rfl (X.load rfl sc_3 (by first | exact Ld.blk hk8 rfl)) ?_
      refine L.va rfl (X.neq rfl rfl) ?_
      refine L.nil ?_
      refine J.iteT rfl ?_
      refine J.seq ?_
      refine J.region ?_
      refine L.va rfl (X.fieldAddr rfl Try.underlying243 rfl sz_3 (by decide)) ?_
      refine L.va rfl (X.load rfl sc_3 (by first | exact Ld.blk hk8 rfl)) ?_
      refine L.va rfl (X.build (l := [_, _, _, _, _]) (Evs.cons (by conv => lhs; whnf) Evs.nil) (bld_run Try.underlying243 (bp_243 Try.underlying243) zr_243 rfl)) ?_
      refine L.storeAgg (vs := [_, _, _, _, _]) rfl rfl rfl rfl sz_243 (hk28) rfl ?_
      intro w9 hk9 hg9 hs9
      refine L.nil ?_
      refine J.ret ?_
      refine thn_ret <| ?_
      refine finC rfl (run_cell hk9 Try.underlying243 rfl (by kernel_rfl)) ?_
      exact ⟨rfl, (he7.grw hg8 (by intro g hg; injection hg with hg; omega)).grw hg9 (by intro g hg; injection hg with hg; omega)⟩
    · rw [if_neg hlt]
      refine J.skip ?_
      refine J.seq ?_
      refine J.seq ?_
      refine J.region ?_
      refine L.va rfl (X.fieldAddr rfl Try.underlying243 rfl sz_3 (by decide)) ?_
      refine L.va rfl (X.load rfl sc_3 (by first | exact Ld.blk hk17 rfl | exact Ld.blk hk7 rfl)) ?_
      refine L.va rfl (X.neq rfl rfl) ?_
      refine L.nil ?_
      refine J.ndecF rfl (by exact h0) ?_
      refine J.skip ?_
      refine J.seq ?_
      refine J.region ?_
      refine L.va rfl (X.loadAgg rfl (range_blk hk7) Try.underlying243 rfl (by kernel_rfl)) ?_
      refine L.storeAgg (vs := [_, _, _, _, _]) rfl rfl rfl rfl sz_243 (hk27) rfl ?_
      intro w9 hk9 hg9 hs9
      refine L.nil ?_
      refine J.ret ?_
      refine finC rfl (run_cell hk9 Try.underlying243 rfl (by kernel_rfl)) ?_
      refine ⟨?_, he7.grw hg9 (by intro g hg; injection hg with hg; omega)⟩
      subst h0
      rfl
  · have h0 : e ≠ 0 := h0
    rw [if_pos h0]
    refine L.no rfl ?_
    refine L.no rfl ?_
    refine L.no rfl ?_
    refine L.no rfl ?_
    refine L.no rfl ?_
    refine L.va rfl (X.pickF rfl (by conv => lhs; whnf)) ?_
    refine L.nil ?_
    refine J.iteF rfl ?_
    refine J.skip ?_
    refine J.seq ?_
    refine J.seq ?_
    refine J.region ?_
    refine L.va rfl (X.fieldAddr rfl Try.underlying243 rfl sz_3 (by decide)) ?_
    refine L.va rfl (X.load rfl sc_3 (by first | exact Ld.blk hk17 rfl | exact Ld.blk hk7 rfl)) ?_
    refine L.va rfl (X.neq rfl rfl) ?_
    refine L.nil ?_
    refine J.ndecT rfl (by exact h0) ?_
    refine J.seq ?_
    refine J.region ?_
    refine L.va rfl (X.fieldAddr rfl Try.underlying243 rfl sz_3 (by decide)) ?_
    refine L.va rfl (X.load rfl sc_3 (by first | exact Ld.blk hk17 rfl | exact Ld.blk hk7 rfl)) ?_
    refine L.va rfl (X.build (l := [_, _, _, _, _]) (Evs.cons (by conv => lhs; whnf) Evs.nil) (bld_run Try.underlying243 (bp_243 Try.underlying243) zr_243 rfl)) ?_
    refine L.storeAgg (vs := [_, _, _, _, _]) rfl rfl rfl rfl sz_243 (hk27) rfl ?_
    intro w9 hk9 hg9 hs9
    refine L.nil ?_
    refine J.ret ?_
    refine thn_ret <| ?_
    refine finC rfl (run_cell hk9 Try.underlying243 rfl (by kernel_rfl)) ?_
    exact ⟨rfl, he7.grw hg9 (by intro g hg; injection hg with hg; omega)⟩
end Go.Proofs.Ytlipeplfjkgamaa
namespace Go.Proofs.Ytlipeplfjkgamaa
set_option maxRecDepth 100000
open Go.RowKit H
open Byts Cod
set_option linter.unusedVariables false
structure RdB (w : World) (b : Nat) (A : Option Addr) (n c : Nat) (zs : List Int) (s : RS) : Prop where
  hk : Blk w b 159 #[.slice A n c, .int .i64 (s.1 : Int), .int .i64 s.2]
  hr : Reads w b 1 A n (nums .u8 zs)
  hnc : n ≤ c
  hz : ∀ z ∈ zs, 0 ≤ z ∧ z < 256
  hm : n ≤ 1000000
  hf : Fit zs s
theorem aU_fit {zs : List Int} (hz : ∀ z ∈ zs, 0 ≤ z ∧ z < 256) {most : Int} (hm : 0 ≤ most) {s : RS} (h : Fit zs s) (h0 : s.2 = 0) : Fit zs (s.1 + (aU (zs.drop s.1) most).2.1, (aU (zs.drop s.1) most).2.2) := by
  have := (rdU_fit hz most hm h).1
  rwa [rdU_a, if_neg (fun hh => hh h0)] at this
namespace RdB
variable {w w' : World} {b : Nat} {A : Option Addr} {n c : Nat} {zs : List Int} {s : RS}
theorem hl (h : RdB w b A n c zs s) : zs.length = n := by have := h.hr.1; simpa [nums] using this
theorem below (h : RdB w b A n c zs s) (hb : Below (b + 1) w w') : RdB w' b A n c zs s := ⟨h.hk.below hb (Nat.lt_succ_self b), h.hr.low hb (Nat.le_succ b), h.hnc, h.hz, h.hm, h.hf⟩
theorem ext (h : RdB w b A n c zs s) (he : Ext w w') : RdB w' b A n c zs s := h.below (Below.mono he (by have := h.hk.lt; omega))
theorem put {s' : RS} (h : RdB w b A n c zs s) (hg : w.grownBy w' (some b)) (hk : Blk w' b 159 #[.slice A n c, .int .i64 (s'.1 : Int), .int .i64 s'.2]) (hf : Fit zs s') : RdB w' b A n c zs s' ∧ Chg (· = b) w w' := by
  have hc : Chg (· = b) w w' := .of_grown hg (fun g e => by injection e with e; exact e.symm)
  exact ⟨⟨hk, h.hr.low (hc.below (Nat.le_of_lt h.hk.lt) (fun g e => by omega)) (Nat.le_refl _), h.hnc, h.hz, h.hm, hf⟩, hc⟩
theorem ask_bad (h : RdB w b A n c zs s) (h0 : s.2 ≠ 0) (d u i q : Int) (fv : Value) (t : ByteArray) :
    Calls Try.prog 187 #[.pointer (some ⟨b, 0, none⟩), .agg #[.int .i64 d, .int .u64 u, .int .i64 i, fv, .string t, .int .i64 q]] w fun e w' => e = .returned (gotV 0 (strOfNums []) 0 0) ∧ Ext w w' := by
  have hb := h.hk
  refine enter Try.func187 rfl (by kernel_rfl) ?_
  refine J.seq ?_
  refine J.region ?_
  refine L.boxA (l := [_, _, _, _, _, _]) rfl rfl ?_
  intro b1 w1 hb1 hs1 hk1 he1
  refine L.alloc rfl zr_243 ?_
  intro b2 w2 hb2 hs2 hk2 he2
  have hb' := (hb.ext he1).ext he2
  refine L.nil ?_
  refine J.seq ?_
  refine J.seq ?_
  refine J.region ?_
  refine L.va rfl (X.move (by conv => lhs; whnf)) ?_
  refine L.va rfl (X.nilCheck rfl) ?_
  refine L.va rfl (X.fieldAddr rfl Try.underlying159 rfl sz_3 (by decide)) ?_
  refine L.va rfl (X.load rfl sc_3 (by first | exact Ld.blk hb' rfl)) ?_
  refine L.va rfl (X.neq rfl rfl) ?_
  refine L.nil ?_
  refine J.ndecT rfl (by exact h0) ?_
  refine J.seq ?_
  refine J.region ?_
  refine L.va rfl (X.build (l := [_, _, _, _, _]) Evs.nil (bld_run Try.underlying243 (bp_243 Try.underlying243) zr_243 rfl)) ?_
  refine L.storeAgg (vs := [_, _, _, _, _]) rfl rfl rfl rfl sz_243 (hk2) rfl ?_
  intro w3 hk3 hg3 hs3
  refine L.nil ?_
  refine J.ret ?_
  refine thn_ret <| ?_
  refine finC rfl (run_cell hk3 Try.underlying243 rfl (by kernel_rfl)) ?_
  exact ⟨rfl, (he1.trans he2).grw hg3 (by intro g hg; injection hg with hg; omega)⟩
theorem ask_any (h : RdB w b A n c zs s) (h0 : s.2 = 0) (d u i q : Int) (fv : Value) (t : ByteArray) (x : Int) (t' : ByteArray) (k : Nat) (er : Int) (hf : Fit zs (s.1 + k, er)) (h1 : fv.oneCell' = true)
    (hx : ∀ w1, Ext w w1 → Calls Try.prog 238 #[.agg #[.int .i64 d, .int .u64 u, .int .i64 i, fv, .string t, .int .i64 q], .slice (if c = s.1 then A else A.map (·.add (s.1 * 1))) (n - s.1) (c - s.1)] w1 fun e w2 => e = .returned (gotV x t' k er) ∧ Ext w1 w2) :
    Calls Try.prog 187 #[.pointer (some ⟨b, 0, none⟩), .agg #[.int .i64 d, .int .u64 u, .int .i64 i, fv, .string t, .int .i64 q]] w fun e w' => e = .returned (gotV x t' k er) ∧ RdB w' b A n c zs (s.1 + k, er) ∧ Chg (· = b) w w' := by
  have hb := h.hk
  have hbl := hb.lt
  have hl := h.hl
  have hnc := h.hnc
  have hm := h.hm
  have hf1 := h.hf.1
  have hf2 := hf.1
  have hfk : s.1 + k ≤ 1000000 := by have : (s.1 + k, er).1 ≤ zs.length := hf2; dsimp only at this; omega
  refine enter Try.func187 rfl (by kernel_rfl) ?_
  refine J.seq ?_
  refine J.region ?_
  refine L.boxA (l := [_, _, _, _, _, _]) rfl rfl ?_
  intro b1 w1 hb1 hs1 hk1 he1
  refine L.alloc rfl zr_243 ?_
  intro b2 w2 hb2 hs2 hk2 he2
  have he02 := he1.trans he2
  have hb' := hb.ext he02
  refine L.nil ?_
  refine J.seq ?_
  refine J.seq ?_
  refine J.region ?_
  refine L.va rfl (X.move (by conv => lhs; whnf)) ?_
  refine L.va rfl (X.nilCheck rfl) ?_
  refine L.va rfl (X.fieldAddr rfl Try.underlying159 rfl sz_3 (by decide)) ?_
  refine L.va rfl (X.load rfl sc_3 (by first | exact Ld.blk hb' rfl)) ?_
  refine L.va rfl (X.neq rfl rfl) ?_
  refine L.nil ?_
  refine J.ndecF rfl (by exact h0) ?_
  refine J.skip ?_
  refine J.cut (X := Nat) [5, 12, 13, 14, 15, 16, 17, 18, 19, 20, 21, 22] (fun b5 => [(5, .pointer (some ⟨b5, 0, none⟩))]) (fun b5 w5 => Blk w5 b5 243 #[.int .u64 x, .int .i64 0, .string t', .int .i64 (k : Int), .int .i64 er] ∧ w2.heap.size ≤ b5 ∧ Ext w2 w5) ?_ ?_
  · have hk12 := hk1.ext he2
    refine J.draw (ℓ := 1000000) (S := Ext w2) mixed (fun w3 hS hS_h => ?_)
    refine D.va 0 rfl (by kernel_rfl) (fun _ _ _ h => h) rfl (fun w' hw => (by first | exact X.loadAgg rfl (range_l (hb'.ext hw)) Try.underlying246 rfl (by kernel_rfl) | exact X.loadAgg rfl (range_blk (hb'.ext hw)) Try.underlying246 rfl (by kernel_rfl) | exact X.loadAgg rfl (range_l (hk12.ext hw)) Try.underlying246 rfl (by kernel_rfl) | exact X.loadAgg rfl (range_blk (hk12.ext hw)) Try.underlying246 rfl (by kernel_rfl))) hS ?_
    refine D.va 1 rfl (by kernel_rfl) (fun _ _ _ h => h) rfl (fun w' hw => X.move (by conv => lhs; whnf)) hS ?_
    refine D.va 2 rfl (by kernel_rfl) (fun _ _ _ h => h) rfl (fun w' hw => X.nilCheck rfl) hS ?_
    refine D.va 3 rfl (by kernel_rfl) (fun _ _ _ h => h) rfl (fun w' hw => X.fieldAddr rfl Try.underlying159 rfl sz_30 (by decide)) hS ?_
    refine D.va 4 rfl (by kernel_rfl) (fun _ _ _ h => h) rfl (fun w' hw => X.load rfl sc_30 (by first | exact Ld.blk (hb'.ext hw) rfl | exact Ld.blk (hk12.ext hw) rfl)) hS ?_
    refine D.va 5 rfl (by kernel_rfl) (fun _ _ _ h => h) rfl (fun w' hw => X.move (by conv => lhs; whnf)) hS ?_
    refine D.va 6 rfl (by kernel_rfl) (fun _ _ _ h => h) rfl (fun w' hw => X.nilCheck rfl) hS ?_
    refine D.va 7 rfl (by kernel_rfl) (fun _ _ _ h => h) rfl (fun w' hw => X.fieldAddr rfl Try.underlying159 rfl sz_3 (by decide)) hS ?_
    refine D.va 8 rfl (by kernel_rfl) (fun _ _ _ h => h) rfl (fun w' hw => X.load rfl sc_3 (by first | exact Ld.blk (hb'.ext hw) rfl | exact Ld.blk (hk12.ext hw) rfl)) hS ?_
    refine D.va 9 rfl (by kernel_rfl) (fun _ _ _ h => h) rfl (fun w' hw => (by first | exact X.sliceFromn rfl rfl Try.underlying30 sz_5 (by omega) | exact X.sliceFrom rfl rfl Try.underlying30 sz_5 (by omega))) hS ?_
    refine D.two 10 11 (by kernel_rfl) rfl rfl ?_ ?_
    · refine L.call rfl en_238 rfl (hx _ (he02.trans hS)) ?_
      rintro e w4 ⟨rfl, he4⟩
      refine ⟨_, rfl, ?_⟩
      have hS1 := hS.trans he4
      refine L.nil ?_
      refine ⟨fun _ => hS1, ?_⟩
      refine D.one 11 (by kernel_rfl) rfl ?_
      refine L.alloc rfl zr_243 ?_
      intro b5 w5 hb5 hs5 hk5 he5
      have hS2 := hS1.trans he5
      refine L.nil ?_
      refine ⟨fun _ => hS2, ?_⟩
      have hz5 := hS1.le
      refine D.one 12 (by kernel_rfl) rfl ?_
      refine L.storeAgg (vs := [_, _, _, _, _]) rfl rfl rfl rfl sz_243 (hk5) rfl ?_
      intro w6 hk6 hg6 hs6
      have hS3 := hS2.grw hg6 (by intro g hg; injection hg with hg; omega)
      refine L.nil ?_
      refine ⟨fun _ => hS3, ?_⟩
      refine D.done (by kernel_rfl) ?_
      replace hb' := hb'.ext hS3
      replace hk12 := hk12.ext hS3
      refine ⟨b5, At1 (by first | rfl | exact at_int rfl (by omega) | exact at_slice rfl (by omega) | exact at_int rfl (by simp)), (by (iterate 12 refine Agr.lk rfl ?_); exact Agr.rfl'), ?_⟩
      exact ⟨hk6, by omega, hS3⟩
    · refine L.alloc rfl zr_243 ?_
      intro b5 w5 hb5 hs5 hk5 he5
      have hS1 := hS.trans he5
      refine L.nil ?_
      refine ⟨fun _ => hS1, ?_⟩
      have hz5 := hS.le
      refine D.one 10 (by kernel_rfl) rfl ?_
      refine L.call rfl en_238 rfl (hx _ (he02.trans hS1)) ?_
      rintro e w4 ⟨rfl, he4⟩
      refine ⟨_, rfl, ?_⟩
      have hS2 := hS1.trans he4
      refine L.nil ?_
      refine ⟨fun _ => hS2, ?_⟩
      refine D.one 12 (by kernel_rfl) rfl ?_
      refine L.storeAgg (vs := [_, _, _, _, _]) rfl rfl rfl rfl sz_243 (hk5.ext he4) rfl ?_
      intro w6 hk6 hg6 hs6
      have hS3 := hS2.grw hg6 (by intro g hg; injection hg with hg; omega)
      refine L.nil ?_
      refine ⟨fun _ => hS3, ?_⟩
      refine D.done (by kernel_rfl) ?_
      replace hb' := hb'.ext hS3
      replace hk12 := hk12.ext hS3
      refine ⟨b5, At1 (by first | rfl | exact at_int rfl (by omega) | exact at_slice rfl (by omega) | exact at_int rfl (by simp)), (by (iterate 12 refine Agr.lk rfl ?_); exact Agr.rfl'), ?_⟩
      exact ⟨hk6, by omega, hS3⟩
  · rintro b5 g w5 ⟨hk5, hb5, he5⟩
    have hb6 := hb'.ext he5
    have h6 := h.ext (he02.trans he5)
    have hz5 := he5.le
    have hz2 := he02.le
    refine J.seq ?_
    refine J.region ?_
    refine L.va rfl (X.move (by conv => lhs; whnf)) ?_
    refine L.va rfl (X.fieldAddr rfl Try.underlying243 rfl sz_3 (by decide)) ?_
    refine L.va rfl (X.load rfl sc_3 (by first | exact Ld.blk hk5 rfl | exact Ld.blk hb6 rfl)) ?_
    refine L.va rfl (X.nilCheck rfl) ?_
    refine L.va rfl (X.fieldAddr rfl Try.underlying159 rfl sz_3 (by decide)) ?_
    refine L.store rfl rfl (by conv => lhs; whnf) rfl sz_3 (hb6) (by first | decide | exact Nat.le_of_ble_eq_true rfl) ?_
    intro w6 hk6 hg6 hs6
    have hk56 := hk5.grown hg6 (fun e => by injection e with e; omega)
    have hk6 : Blk w6 b 159 #[.slice A n c, .int .i64 (s.1 : Int), .int .i64 er] := hk6
    refine L.nil ?_
    refine J.seq ?_
    refine J.draw (ℓ := 10) (S := Ext w6) mixed (fun w7 hS hS_h => ?_)
    refine D.va 0 rfl (by kernel_rfl) (fun _ _ _ h => h) rfl (fun w' hw => X.move (by conv => lhs; whnf)) hS ?_
    refine D.va 1 rfl (by kernel_rfl) (fun _ _ _ h => h) rfl (fun w' hw => X.move (by conv => lhs; whnf)) hS ?_
    refine D.va 2 rfl (by kernel_rfl) (fun _ _ _ h => h) rfl (fun w' hw => X.nilCheck rfl) hS ?_
    refine D.va 3 rfl (by kernel_rfl) (fun _ _ _ h => h) rfl (fun w' hw => X.fieldAddr rfl Try.underlying159 rfl sz_3 (by decide)) hS ?_
    refine D.va 4 rfl (by kernel_rfl) (fun _ _ _ h => h) rfl (fun w' hw => X.load rfl sc_3 (by first | exact Ld.blk (hk56.ext hw) rfl | exact Ld.blk (hk6.ext hw) rfl)) hS ?_
    refine D.va 5 rfl (by kernel_rfl) (fun _ _ _ h => h) rfl (fun w' hw => X.fieldAddr rfl Try.underlying243 rfl sz_3 (by decide)) hS ?_
    refine D.va 6 rfl (by kernel_rfl) (fun _ _ _ h => h) rfl (fun w' hw => X.load rfl sc_3 (by first | exact Ld.blk (hk56.ext hw) rfl | exact Ld.blk (hk6.ext hw) rfl)) hS ?_
    refine D.va 7 rfl (by kernel_rfl) (fun _ _ _ h => h) rfl (fun w' hw => X.add rfl rfl (by omega)) hS ?_
    refine D.va 8 rfl (by kernel_rfl) (fun _ _ _ h => h) rfl (fun w' hw => X.nilCheck rfl) hS ?_
    refine D.va 9 rfl (by kernel_rfl) (fun _ _ _ h => h) rfl (fun w' hw => X.fieldAddr rfl Try.underlying159 rfl sz_3 (by decide)) hS ?_
    refine D.one 10 (by kernel_rfl) rfl ?_
    refine L.store rfl rfl (by conv => lhs; whnf) rfl sz_3 (hk6.ext hS) (by first | decide | exact Nat.le_of_ble_eq_true rfl) ?_
    intro w8 hk8 hg8 hs8
    refine L.nil ?_
    refine ⟨fun h => absurd rfl h, ?_⟩
    have hk58 := (hk56.ext hS).grown hg8 (fun e => by injection e with e; omega)
    have h7 := h6.put (s' := (s.1, er)) hg6 hk6 ⟨hf1, hf.2⟩
    have h8 := (h7.1.ext hS).put (s' := (s.1 + k, er)) hg8 hk8 hf
    have hc8 : Chg (· = b) w w8 := (Chg.of_ext (he02.trans he5)).trans (h7.2.trans ((Chg.of_ext hS).trans h8.2 (fun _ _ => id)) (fun _ _ => id)) (fun _ _ => id)
    refine D.done (by kernel_rfl) ?_
    refine J.seq ?_
    refine J.region ?_
    refine L.va rfl (X.loadAgg rfl (range_blk hk58) Try.underlying243 rfl (by kernel_rfl)) ?_
    have hk28 := (((hk2.ext he5).grown hg6 (fun e => by injection e with e; omega)).ext hS).grown hg8 (fun e => by injection e with e; omega)
    refine L.storeAgg (vs := [_, _, _, _, _]) rfl rfl rfl rfl sz_243 (hk28) rfl ?_
    intro w9 hk9 hg9 hs9
    refine L.nil ?_
    refine J.ret ?_
    refine finC rfl (run_cell hk9 Try.underlying243 rfl (by kernel_rfl)) ?_
    have h9 : Chg (· = b2) w8 w9 := .of_grown hg9 (fun g e => by injection e with e; exact e.symm)
    have hz8 := hc8.size
    have h89 : Chg (· = b) w w9 := ⟨h9.os.trans hc8.os, h9.tape.trans hc8.tape, h9.output.trans hc8.output, by have := h9.size; omega, fun g hg hS => (h9.block g (by omega) (fun e => by omega)).trans (hc8.block g hg hS)⟩
    exact ⟨rfl, h8.1.below (h9.below (by omega) (fun g e => by omega)), h89⟩
theorem rU (h : RdB w b A n c zs s) (most : Int) (h0 : 0 ≤ most) : Calls Try.prog 111 #[.pointer (some ⟨b, 0, none⟩), .int .u64 most] w fun e w' => e = .returned (.int .u64 (rdU zs most s).1) ∧ RdB w' b A n c zs (rdU zs most s).2 ∧ Chg (· = b) w w' := by
  have e := rdU_a zs most s
  refine enter Try.func111 rfl (by kernel_rfl) ?_
  refine J.seq ?_
  refine J.region ?_
  refine L.va rfl (X.assign (by conv => lhs; whnf)) ?_
  refine L.nil ?_
  refine J.seq ?_
  refine J.region ?_
  refine L.va rfl (X.move (by conv => lhs; whnf)) ?_
  refine L.va rfl (X.move (by conv => lhs; whnf)) ?_
  refine L.va rfl (X.build (l := [.int .i64 0, .int .u64 most, .int .i64 0, .float .f64 0, .string ⟨#[]⟩, .int .i64 0]) (Evs.cons rfl Evs.nil) (bld_run Try.underlying246 (bp_246 Try.underlying246) zr_246 rfl)) ?_
  by_cases hs : s.2 = 0
  · rw [if_neg (fun hh => hh hs)] at e
    rw [e]
    refine L.call rfl en_187 rfl (h.ask_any hs _ _ _ _ _ _ _ _ _ _ (aU_fit h.hz h0 h.hf hs) rfl (fun w1 he => read08_U _ _ _ (zs.drop s.1) w1 most _ _ _ _ (by have := ((h.hr.more (Nat.le_of_lt h.hk.lt)).ext he).cut (k := s.1) (cap := c) (by have := h.hf.1; have := h.hl; omega) h.hnc; simpa [nums] using (this.more he.le)) (fun z hz => h.hz z (List.mem_of_mem_drop hz)) (by have := h.hm; omega) (by have := h.hnc; omega))) ?_
    rintro e w1 ⟨rfl, h1, hc1⟩
    refine ⟨_, rfl, ?_⟩
    refine L.va rfl (X.fieldV rfl Try.underlying243 rfl sc_90 rfl) ?_
    refine L.va rfl (X.assign (by conv => lhs; whnf)) ?_
    refine L.nil ?_
    refine J.ret ?_
    refine fin1 ?_
    exact ⟨rfl, h1, hc1⟩
  · rw [if_pos hs] at e
    rw [e]
    refine L.call rfl en_187 rfl (h.ask_bad hs _ _ _ _ _ _) ?_
    rintro e w1 ⟨rfl, he1⟩
    refine ⟨_, rfl, ?_⟩
    refine L.va rfl (X.fieldV rfl Try.underlying243 rfl sc_90 rfl) ?_
    refine L.va rfl (X.assign (by conv => lhs; whnf)) ?_
    refine L.nil ?_
    refine J.ret ?_
    refine fin1 ?_
    exact ⟨rfl, h.ext he1, .of_ext he1⟩
end RdB
end Go.Proofs.Ytlipeplfjkgamaa
namespace Go.Proofs.Ytlipeplfjkgamaa
set_option maxRecDepth 100000
open Go.RowKit H
open Byts Cod
set_option linter.unusedVariables false
namespace RdB
variable {w w' : World} {b : Nat} {A : Option Addr} {n c : Nat} {zs : List Int} {s : RS}
theorem End (h : RdB w b A n c zs s) : Calls Try.prog 112 #[.pointer (some ⟨b, 0, none⟩)] w fun e w' => e = .returned (.int .i64 (rdE zs s)) ∧ RdB w' b A n c zs (s.1, rdE zs s) ∧ Chg (· = b) w w' := by
  have hb := h.hk
  have hl := h.hl
  have hf := h.hf
  refine enter Try.func112 rfl (by kernel_rfl) ?_
  refine J.seq ?_
  refine J.region ?_
  refine L.va rfl (X.assign (by conv => lhs; whnf)) ?_
  refine L.nil ?_
  refine J.seq ?_
  refine J.seq ?_
  refine J.quiet mixed (by kernel_rfl) ?_
  refine Qt.va rfl (fun w' hw => X.move (by conv => lhs; whnf)) ?_
  refine Qt.va rfl (fun w' hw => X.nilCheck rfl) ?_
  refine Qt.va rfl (fun w' hw => X.fieldAddr rfl Try.underlying159 rfl sz_3 (by decide)) ?_
  refine Qt.va rfl (fun w' hw => X.load rfl sc_3 (by first | exact Ld.blk (hb.ext hw) rfl)) ?_
  refine Qt.va rfl (fun w' hw => X.eql rfl rfl) ?_
  refine Qt.va rfl (fun w' hw => X.move (by conv => lhs; whnf)) ?_
  refine Qt.caseDec (k := 8) rfl (fun hs => ?_) (fun hs => ?_)
  · have hs : s.2 = 0 := by simpa using hs
    refine Qt.va rfl (fun w' hw => X.move (by conv => lhs; whnf)) ?_
    refine Qt.va rfl (fun w' hw => X.nilCheck rfl) ?_
    refine Qt.va rfl (fun w' hw => X.fieldAddr rfl Try.underlying159 rfl sz_3 (by decide)) ?_
    refine Qt.va rfl (fun w' hw => X.load rfl sc_3 (by first | exact Ld.blk (hb.ext hw) rfl)) ?_
    refine Qt.va rfl (fun w' hw => X.move (by conv => lhs; whnf)) ?_
    refine Qt.va rfl (fun w' hw => X.nilCheck rfl) ?_
    refine Qt.va rfl (fun w' hw => X.fieldAddr rfl Try.underlying159 rfl sz_30 (by decide)) ?_
    refine Qt.va rfl (fun w' hw => X.load rfl sc_30 (by first | exact Ld.blk (hb.ext hw) rfl)) ?_
    refine Qt.va rfl (fun w' hw => X.len rfl Try.underlying30) ?_
    refine Qt.va rfl (fun w' hw => X.lss rfl rfl) ?_
    refine Qt.va rfl (fun w' hw => X.pickT rfl (by conv => lhs; whnf)) ?_
    refine Qt.nil (fun w1 hq => ?_)
    replace hb := hb.ext hq
    have h1 := h.ext hq
    refine J.dec rfl (fun hlt => ?_) (fun hlt => ?_)
    · have e : rdE zs s = 7 := by unfold rdE; rw [if_pos ⟨hs, by omega⟩]
      rw [e]
      have hb1 := h1.hk
      refine J.region ?_
      refine L.va rfl (X.move (by conv => lhs; whnf)) ?_
      refine L.va rfl (X.nilCheck rfl) ?_
      refine L.va rfl (X.fieldAddr rfl Try.underlying159 rfl sz_3 (by decide)) ?_
      refine L.store rfl rfl (by conv => lhs; whnf) rfl sz_3 (hb1) (by first | decide | exact Nat.le_of_ble_eq_true rfl) ?_
      intro w2 hb2 hg2 hs2
      have hb2 : Blk w2 b 159 #[.slice A n c, .int .i64 (s.1 : Int), .int .i64 7] := hb2
      have k := h1.put (s' := (s.1, 7)) hg2 hb2 ⟨hf.1, (by decide : (0 : Int) ≤ 7), (by decide : (7 : Int) ≤ 15)⟩
      refine L.nil ?_
      refine J.seq ?_
      refine J.region ?_
      refine L.va rfl (X.move (by conv => lhs; whnf)) ?_
      refine L.va rfl (X.nilCheck rfl) ?_
      refine L.va rfl (X.fieldAddr rfl Try.underlying159 rfl sz_3 (by decide)) ?_
      refine L.va rfl (X.load rfl sc_3 (by first | exact Ld.blk hb2 rfl)) ?_
      refine L.va rfl (X.assign (by conv => lhs; whnf)) ?_
      refine L.nil ?_
      refine J.ret ?_
      refine fin1 ?_
      exact ⟨rfl, k.1, (Chg.of_ext hq).trans k.2 (fun _ _ => id)⟩
    · have e : rdE zs s = s.2 := by unfold rdE; rw [if_neg (fun hh => by omega)]
      rw [e]
      refine J.skip ?_
      refine J.seq ?_
      refine J.region ?_
      refine L.va rfl (X.move (by conv => lhs; whnf)) ?_
      refine L.va rfl (X.nilCheck rfl) ?_
      refine L.va rfl (X.fieldAddr rfl Try.underlying159 rfl sz_3 (by decide)) ?_
      refine L.va rfl (X.load rfl sc_3 (by first | exact Ld.blk hb rfl)) ?_
      refine L.va rfl (X.assign (by conv => lhs; whnf)) ?_
      refine L.nil ?_
      refine J.ret ?_
      refine fin1 ?_
      exact ⟨rfl, h1, .of_ext hq⟩
  · have hs : s.2 ≠ 0 := by simpa using hs
    have e : rdE zs s = s.2 := by unfold rdE; rw [if_neg (fun hh => hs hh.1)]
    rw [e]
    refine Qt.no rfl ?_
    refine Qt.no rfl ?_
    refine Qt.no rfl ?_
    refine Qt.no rfl ?_
    refine Qt.no rfl ?_
    refine Qt.no rfl ?_
    refine Qt.no rfl ?_
    refine Qt.no rfl ?_
    refine Qt.no rfl ?_
    refine Qt.no rfl ?_
    refine Qt.va rfl (fun w' hw => X.pickF rfl (by conv => lhs; whnf)) ?_
    refine Qt.nil (fun w1 hq => ?_)
    replace hb := hb.ext hq
    refine J.iteF rfl ?_
    have h1 := h.ext hq
    refine J.skip ?_
    refine J.seq ?_
    refine J.region ?_
    refine L.va rfl (X.move (by conv => lhs; whnf)) ?_
    refine L.va rfl (X.nilCheck rfl) ?_
    refine L.va rfl (X.fieldAddr rfl Try.underlying159 rfl sz_3 (by decide)) ?_
    refine L.va rfl (X.load rfl sc_3 (by first | exact Ld.blk hb rfl)) ?_
    refine L.va rfl (X.assign (by conv => lhs; whnf)) ?_
    refine L.nil ?_
    refine J.ret ?_
    refine fin1 ?_
    exact ⟨rfl, h1, .of_ext hq⟩
end RdB
end Go.Proofs.Ytlipeplfjkgamaa
namespace Go.Proofs.Ytlipeplfjkgamaa
set_option maxRecDepth 100000
open Go.RowKit H
set_option linter.unusedVariables false
theorem rqcheck {s : Sch} {q : Qu} {w : World} (H : s.Here w) (hq : q.At w.heap.size w) : Calls Try.prog 36 #[s.val, q.val] w fun e w' => e = .returned (.int .i64 (qcode s q)) ∧ Ext w w' := by
  have hle := H.hle
  have hg := hq.g
  have lc := hq.lc
  have mc := hq.mc
  have lo := hq.lo
  have mo := hq.mo
  unfold maxLen at mc mo
  refine enter Try.func36 rfl (by kernel_rfl) ?_
  refine J.seq ?_
  refine J.region ?_
  refine L.boxA (l := [_, _, _, _]) rfl rfl ?_
  intro b1 w1 hb1 hs1 hk1 he1
  refine L.boxA (l := [_, _, _, _, _]) rfl rfl ?_
  intro b2 w2 hb2 hs2 hk2 he2
  have hk12 := hk1.ext he2
  have he02 := he1.trans he2
  have H2 := H.ext he02
  have hk2 : Blk w2 b2 54 q.vs.toArray := hk2
  refine L.va rfl (X.assign (by conv => lhs; whnf)) ?_
  refine L.nil ?_
  refine J.seq ?_
  refine J.seq ?_
  refine J.region ?_
  refine L.va rfl ((by first | exact X.loadAgg rfl (range_l hk2) Try.underlying49 rfl (by kernel_rfl) | exact X.loadAgg rfl (range_blk hk2) Try.underlying49 rfl (by kernel_rfl) | exact X.loadAgg rfl (range_l hk12) Try.underlying49 rfl (by kernel_rfl) | exact X.loadAgg rfl (range_blk hk12) Try.underlying49 rfl (by kernel_rfl))) ?_
  refine L.call rfl en_97 rfl (H2.rcheck) ?_
  rintro e w3 ⟨rfl, he3⟩
  refine ⟨_, rfl, ?_⟩
  have he03 := he02.trans he3
  have H3 := H.ext he03
  replace hk2 := hk2.ext he3
  replace hk12 := hk12.ext he3
  refine L.va rfl (X.neq rfl rfl) ?_
  refine L.nil ?_
  refine J.ndec rfl (fun hc => ?_) (fun hc => ?_)
  · rw [qc_1 hc]
    refine J.seq ?_
    refine J.region ?_
    refine L.va rfl (X.assign (by conv => lhs; whnf)) ?_
    refine L.nil ?_
    refine J.ret ?_
    refine thn_ret <| ?_
    refine fin1 ?_
    exact ⟨rfl, he03⟩
  refine J.skip ?_
  refine J.seq ?_
  refine J.seq ?_
  refine J.quiet mixed (by kernel_rfl) ?_
  refine Qt.va rfl (fun w' hw => X.fieldAddr rfl Try.underlying54 rfl sz_50 (by decide)) ?_
  refine Qt.va rfl (fun w' hw => X.load rfl sc_50 (by first | exact Ld.blk (hk2.ext hw) rfl | exact Ld.blk (hk12.ext hw) rfl)) ?_
  refine Qt.va rfl (fun w' hw => (by first | exact X.loadAgg rfl (range_l (hk2.ext hw)) Try.underlying49 rfl (by kernel_rfl) | exact X.loadAgg rfl (range_blk (hk2.ext hw)) Try.underlying49 rfl (by kernel_rfl) | exact X.loadAgg rfl (range_l (hk12.ext hw)) Try.underlying49 rfl (by kernel_rfl) | exact X.loadAgg rfl (range_blk (hk12.ext hw)) Try.underlying49 rfl (by kernel_rfl))) ?_
  refine Qt.call rfl en_51 rfl (fun w' hw => calls_ext hw ((H3.ext hw).rfull hc)) ?_
  refine Qt.call rfl en_98 rfl (fun w' hw => calls_same hw (Sch.Here.rsub (w := w') hc hg)) ?_
  refine Qt.va rfl (fun w' hw => X.not rfl) ?_
  refine Qt.nil (fun w4 hq4 => ?_)
  replace hk2 := hk2.ext hq4
  replace hk12 := hk12.ext hq4
  have he04 := he03.trans hq4
  have H4 := H.ext he04
  by_cases h2 : (q.g : Int) ≤ s.F
  · rw [decide_eq_true h2]
    refine J.iteF rfl ?_
    have q4 := (hq.ext he04).more he04.le
    refine J.skip ?_
    refine J.seq ?_
    refine J.seq ?_
    refine J.region ?_
    refine L.va rfl ((by first | exact X.loadAgg rfl (range_l hk2) Try.underlying49 rfl (by kernel_rfl) | exact X.loadAgg rfl (range_blk hk2) Try.underlying49 rfl (by kernel_rfl) | exact X.loadAgg rfl (range_l hk12) Try.underlying49 rfl (by kernel_rfl) | exact X.loadAgg rfl (range_blk hk12) Try.underlying49 rfl (by kernel_rfl))) ?_
    refine L.va rfl (X.fieldAddr rfl Try.underlying54 rfl sz_51 (by decide)) ?_
    refine L.va rfl (X.load rfl sc_51 (by first | exact Ld.blk hk2 rfl | exact Ld.blk hk12 rfl)) ?_
    refine L.call rfl en_99 rfl (rfcheck H4 q4.f) ?_
    rintro e w5 ⟨rfl, he5⟩
    refine ⟨_, rfl, ?_⟩
    have he05 := he04.trans he5
    replace hk2 := hk2.ext he5
    replace hk12 := hk12.ext he5
    refine L.va rfl (X.assign (by conv => lhs; whnf)) ?_
    refine L.nil ?_
    refine J.seq ?_
    refine J.region ?_
    refine L.va rfl (X.move (by conv => lhs; whnf)) ?_
    refine L.va rfl (X.neq rfl rfl) ?_
    refine L.nil ?_
    refine J.ndec rfl (fun h3 => ?_) (fun h3 => ?_)
    · rw [qc_f hc h2 h3]
      refine J.seq ?_
      refine J.region ?_
      refine L.va rfl (X.move (by conv => lhs; whnf)) ?_
      refine L.va rfl (X.assign (by conv => lhs; whnf)) ?_
      refine L.nil ?_
      refine J.ret ?_
      refine thn_ret <| ?_
      refine fin1 ?_
      exact ⟨rfl, he05⟩
    refine J.skip ?_
    refine J.seq ?_
    refine J.seq ?_
    refine J.region ?_
    refine L.va rfl (X.fieldAddr rfl Try.underlying54 rfl sz_52 (by decide)) ?_
    refine L.va rfl (X.load rfl sc_52 (by first | exact Ld.blk hk2 rfl | exact Ld.blk hk12 rfl)) ?_
    refine L.va rfl (X.len rfl Try.underlying52) ?_
    refine L.va rfl (X.lss rfl rfl) ?_
    refine L.va rfl (X.move (by conv => lhs; whnf)) ?_
    refine L.caseDec (k := 28) rfl (fun h4 => ?_) (fun h4 => ?_)
    · refine L.no rfl ?_
      refine L.no rfl ?_
      refine L.no rfl ?_
      refine L.no rfl ?_
      refine L.va rfl (X.pickT rfl (by conv => lhs; whnf)) ?_
      refine L.va rfl (X.move (by conv => lhs; whnf)) ?_
      refine L.no rfl ?_
      refine L.no rfl ?_
      refine L.no rfl ?_
      refine L.no rfl ?_
      refine L.va rfl (X.pickT rfl (by conv => lhs; whnf)) ?_
      refine L.nil ?_
      refine J.iteT rfl ?_
      rw [qc_3 hc h2 h3 (by omega)]
      refine J.seq ?_
      refine J.region ?_
      refine L.va rfl (X.assign (by conv => lhs; whnf)) ?_
      refine L.nil ?_
      refine J.ret ?_
      refine thn_ret <| ?_
      refine fin1 ?_
      exact ⟨rfl, he05⟩
    refine L.va rfl (X.fieldAddr rfl Try.underlying54 rfl sz_52 (by decide)) ?_
    refine L.va rfl (X.load rfl sc_52 (by first | exact Ld.blk hk2 rfl | exact Ld.blk hk12 rfl)) ?_
    refine L.va rfl (X.len rfl Try.underlying52) ?_
    refine L.va rfl (X.gtr rfl rfl) ?_
    refine L.va rfl (X.pickF rfl (by conv => lhs; whnf)) ?_
    refine L.va rfl (X.move (by conv => lhs; whnf)) ?_
    refine L.caseDec (k := 34) rfl (fun h5 => ?_) (fun h5 => ?_)
    · refine L.no rfl ?_
      refine L.no rfl ?_
      refine L.no rfl ?_
      refine L.no rfl ?_
      refine L.va rfl (X.pickT rfl (by conv => lhs; whnf)) ?_
      refine L.nil ?_
      refine J.iteT rfl ?_
      rw [qc_3 hc h2 h3 (by omega)]
      refine J.seq ?_
      refine J.region ?_
      refine L.va rfl (X.assign (by conv => lhs; whnf)) ?_
      refine L.nil ?_
      refine J.ret ?_
      refine thn_ret <| ?_
      refine fin1 ?_
      exact ⟨rfl, he05⟩
    refine L.va rfl (X.fieldAddr rfl Try.underlying54 rfl sz_22 (by decide)) ?_
    refine L.va rfl (X.load rfl sc_22 (by first | exact Ld.blk hk2 rfl | exact Ld.blk hk12 rfl)) ?_
    refine L.va rfl (X.len rfl Try.underlying22) ?_
    refine L.va rfl (X.gtr rfl rfl) ?_
    refine L.va rfl (X.pickF rfl (by conv => lhs; whnf)) ?_
    refine L.nil ?_
    refine J.dec rfl (fun h6 => ?_) (fun h6 => ?_)
    · rw [qc_3 hc h2 h3 (by omega)]
      refine J.seq ?_
      refine J.region ?_
      refine L.va rfl (X.assign (by conv => lhs; whnf)) ?_
      refine L.nil ?_
      refine J.ret ?_
      refine thn_ret <| ?_
      refine fin1 ?_
      exact ⟨rfl, he05⟩
    have z5 := he05.le
    refine J.skip ?_
    refine J.seq ?_
    refine J.seq ?_
    refine J.region ?_
    refine L.va rfl (X.assign (by conv => lhs; whnf)) ?_
    refine L.nil ?_
    refine J.block ?_
    refine J.loop (X := Nat) [4, 6, 40, 41, 42, 43, 44, 45, 46, 47, 48, 49, 50, 51, 52, 53, 54] (fun i => [(6, .int .i64 (i : Int))]) (fun i w' => i ≤ q.nc ∧ (∀ j, j < i → colOk s (q.c.getD j c0)) ∧ Ext w5 w') (fun i => q.nc - i) (0) (At1 (by first | rfl | exact at_int rfl (by omega) | exact at_slice rfl (by omega) | exact at_int rfl (by simp))) ?_ ?_
    · exact ⟨Nat.zero_le _, fun j hj => absurd hj (by omega), Ext.refl _⟩
    · rintro i g w6 ⟨hi, hP, he6⟩
      have he06 := he05.trans he6
      have z6 := he6.le
      have hk6 := hk2.ext he6
      have hk16 := hk12.ext he6
      have c6 := hq.c.ext he06
      refine J.seq ?_
      refine J.seq ?_
      refine J.region ?_
      refine L.va rfl (X.move (by conv => lhs; whnf)) ?_
      refine L.va rfl (X.fieldAddr rfl Try.underlying54 rfl sz_52 (by decide)) ?_
      refine L.va rfl (X.load rfl sc_52 (by first | exact Ld.blk hk6 rfl | exact Ld.blk hk16 rfl)) ?_
      refine L.va rfl (X.len rfl Try.underlying52) ?_
      refine L.va rfl (X.lss rfl rfl) ?_
      refine L.nil ?_
      refine J.dec rfl (fun hlt => ?_) (fun hlt => ?_)
      · have hin : i < q.nc := by omega
        have hA := c6.some_ (by omega)
        obtain ⟨k, m, hkm⟩ : ∃ k m, q.c.getD i c0 = (k, m) := ⟨_, _, rfl⟩
        have hgt := gtC (l := q.c) (i := i) (by omega)
        rw [hkm] at hgt
        refine J.skip ?_
        refine J.seq ?_
        refine J.block ?_
        refine J.seq ?_
        refine J.quiet mixed (by kernel_rfl) ?_
        refine Qt.va rfl (fun w' hw => (by first | exact X.loadAgg rfl (range_l (hk6.ext hw)) Try.underlying49 rfl (by kernel_rfl) | exact X.loadAgg rfl (range_blk (hk6.ext hw)) Try.underlying49 rfl (by kernel_rfl) | exact X.loadAgg rfl (range_l (hk16.ext hw)) Try.underlying49 rfl (by kernel_rfl) | exact X.loadAgg rfl (range_blk (hk16.ext hw)) Try.underlying49 rfl (by kernel_rfl))) ?_
        refine Qt.va rfl (fun w' hw => X.fieldAddr rfl Try.underlying54 rfl sz_52 (by decide)) ?_
        refine Qt.va rfl (fun w' hw => X.load rfl sc_52 (by first | exact Ld.blk (hk6.ext hw) rfl | exact Ld.blk (hk16.ext hw) rfl | exact hA)) ?_
        refine Qt.va rfl (fun w' hw => X.move (by conv => lhs; whnf)) ?_
        refine Qt.va rfl (fun w' hw => (by first | exact X.indexAddrn rfl rfl Try.underlying52 sz_130 (by first | exact Option.some_ne_none _ | exact hA) (by omega) | exact X.indexAddr rfl rfl Try.underlying52 sz_130 (by first | exact Option.some_ne_none _ | exact hA) (by omega))) ?_
        refine Qt.va rfl (fun w' hw => X.loadRow (cs := cV (k, m)) rfl (c6.ext hw) (fun r u hu => flat_row cV_len hgt r u hu) (Nat.zero_lt_succ _) Try.underlying130 rfl (by kernel_rfl)) ?_
        refine Qt.call rfl en_100 rfl (fun w' hw => calls_ext hw (rcolumn k m ((H.ext he06).ext hw))) ?_
        refine Qt.va rfl (fun w' hw => X.not rfl) ?_
        refine Qt.nil (fun w7 hq7 => ?_)
        replace hk6 := hk6.ext hq7
        replace hk16 := hk16.ext hq7
        by_cases hok : colOk s (k, m)
        · rw [decide_eq_true hok]
          refine J.iteF rfl ?_
          refine J.skip ?_
          refine J.region ?_
          refine L.va rfl (X.move (by conv => lhs; whnf)) ?_
          refine L.va rfl (X.add rfl rfl (by omega)) ?_
          refine L.va rfl (X.assign (by conv => lhs; whnf)) ?_
          refine L.nil ?_
          refine ⟨i + 1, At1 (by first | rfl | exact at_int rfl (by omega) | exact at_slice rfl (by omega) | exact at_int rfl (by simp)), (by (iterate 16 refine Agr.lk rfl ?_); exact Agr.lk rfl (Agr.hav rfl Agr.rfl')), ?_⟩
          refine ⟨⟨by omega, fun j hj => ?_, he6.trans hq7⟩, by omega⟩
          rcases Nat.lt_or_ge j i with h | h
          · exact hP j h
          · obtain rfl : j = i := by omega
            rw [hkm]; exact hok
        · rw [decide_eq_false hok, qc_2 hc h2 h3 (by omega) (.inl ⟨i, hin, by rw [hkm]; exact hok⟩)]
          refine J.iteT rfl ?_
          refine J.seq ?_
          refine J.region ?_
          refine L.va rfl (X.assign (by conv => lhs; whnf)) ?_
          refine L.nil ?_
          refine J.ret ?_
          refine inB_ret <|  thn_ret <|  thn_ret <|  inB_ret <|  thn_ret <| ?_
          refine fin1 ?_
          exact ⟨rfl, he06.trans hq7⟩
      · refine J.exit ?_
        refine J.seq ?_
        refine J.seq ?_
        refine J.region ?_
        refine L.va rfl (X.assign (by conv => lhs; whnf)) ?_
        refine L.nil ?_
        refine J.block ?_
        refine J.loop (X := Nat) [4, 7, 55, 56, 57, 58, 59, 60, 61, 62, 63, 64, 65, 66, 67, 68, 69, 70, 71, 72, 73, 74, 75, 76, 77, 78, 79, 80] (fun i => [(7, .int .i64 (i : Int))]) (fun i w' => i ≤ q.no ∧ (∀ j, j < i → q.oOk (q.o.getD j o0)) ∧ Ext w5 w') (fun i => q.no - i) (0) (At1 (by first | rfl | exact at_int rfl (by omega) | exact at_slice rfl (by omega) | exact at_int rfl (by simp))) ?_ ?_
        · exact ⟨Nat.zero_le _, fun j hj => absurd hj (by omega), he6⟩
        · rintro j g w7 ⟨hj, hQ, he7⟩
          have he07 := he05.trans he7
          have z7 := he7.le
          have hk7 := hk2.ext he7
          have o7 := hq.o.ext he07
          refine J.seq ?_
          refine J.seq ?_
          refine J.region ?_
          refine L.va rfl (X.move (by conv => lhs; whnf)) ?_
          refine L.va rfl (X.fieldAddr rfl Try.underlying54 rfl sz_22 (by decide)) ?_
          refine L.va rfl (X.load rfl sc_22 (by first | exact Ld.blk hk7 rfl)) ?_
          refine L.va rfl (X.len rfl Try.underlying22) ?_
          refine L.va rfl (X.lss rfl rfl) ?_
          refine L.nil ?_
          refine J.dec rfl (fun hlt2 => ?_) (fun hlt2 => ?_)
          · have hjn : j < q.no := by omega
            have hA := o7.some_ (by omega)
            obtain ⟨k, m, hkm⟩ : ∃ k m, q.o.getD j o0 = (k, m) := ⟨_, _, rfl⟩
            have hgt := gtO (l := q.o) (i := j) (by omega)
            rw [hkm] at hgt
            have hld := fun (w' : World) (hw : Ext w7 w') => Ld.flat2 oV_len (o7.ext hw) hgt (r := 0) rfl
            refine J.skip ?_
            refine J.seq ?_
            refine J.block ?_
            refine J.seq ?_
            refine J.quiet mixed (by kernel_rfl) ?_
            refine Qt.va rfl (fun w' hw => X.fieldAddr rfl Try.underlying54 rfl sz_22 (by decide)) ?_
            refine Qt.va rfl (fun w' hw => X.load rfl sc_22 (by first | exact Ld.blk (hk7.ext hw) rfl | exact hA | exact hld w' hw)) ?_
            refine Qt.va rfl (fun w' hw => X.move (by conv => lhs; whnf)) ?_
            refine Qt.va rfl (fun w' hw => (by first | exact X.indexAddrn rfl rfl Try.underlying22 sz_98 (by first | exact Option.some_ne_none _ | exact hA | exact hld w' hw) (by omega) | exact X.indexAddr rfl rfl Try.underlying22 sz_98 (by first | exact Option.some_ne_none _ | exact hA | exact hld w' hw) (by omega))) ?_
            refine Qt.va rfl (fun w' hw => X.fieldP rfl Try.underlying98 rfl sz_3 (by decide) (by first | exact Option.some_ne_none _ | exact hA | exact hld w' hw)) ?_
            refine Qt.va rfl (fun w' hw => X.load rfl sc_3 (by first | exact Ld.blk (hk7.ext hw) rfl | exact hA | exact hld w' hw)) ?_
            refine Qt.va rfl (fun w' hw => X.lss rfl rfl) ?_
            refine Qt.va rfl (fun w' hw => X.move (by conv => lhs; whnf)) ?_
            refine Qt.caseDec (k := 69) rfl (fun h7 => ?_) (fun h7 => ?_)
            · refine Qt.no rfl ?_
              refine Qt.no rfl ?_
              refine Qt.no rfl ?_
              refine Qt.no rfl ?_
              refine Qt.no rfl ?_
              refine Qt.no rfl ?_
              refine Qt.no rfl ?_
              refine Qt.no rfl ?_
              refine Qt.no rfl ?_
              refine Qt.no rfl ?_
              refine Qt.va rfl (fun w' hw => X.pickT rfl (by conv => lhs; whnf)) ?_
              refine Qt.nil (fun w8 hq8 => ?_)
              replace hk7 := hk7.ext hq8
              refine J.iteT rfl ?_
              rw [qc_2 hc h2 h3 (by omega) (.inr (.inl ⟨j, hjn, by rw [hkm]; unfold Qu.oOk; dsimp only; omega⟩))]
              refine J.seq ?_
              refine J.region ?_
              refine L.va rfl (X.assign (by conv => lhs; whnf)) ?_
              refine L.nil ?_
              refine J.ret ?_
              refine inB_ret <|  thn_ret <|  thn_ret <|  inB_ret <|  thn_ret <| ?_
              refine fin1 ?_
              exact ⟨rfl, he07.trans hq8⟩
            refine Qt.va rfl (fun w' hw => X.fieldAddr rfl Try.underlying54 rfl sz_22 (by decide)) ?_
            refine Qt.va rfl (fun w' hw => X.load rfl sc_22 (by first | exact Ld.blk (hk7.ext hw) rfl | exact hA | exact hld w' hw)) ?_
            refine Qt.va rfl (fun w' hw => X.move (by conv => lhs; whnf)) ?_
            refine Qt.va rfl (fun w' hw => (by first | exact X.indexAddrn rfl rfl Try.underlying22 sz_98 (by first | exact Option.some_ne_none _ | exact hA | exact hld w' hw) (by omega) | exact X.indexAddr rfl rfl Try.underlying22 sz_98 (by first | exact Option.some_ne_none _ | exact hA | exact hld w' hw) (by omega))) ?_
            refine Qt.va rfl (fun w' hw => X.fieldP rfl Try.underlying98 rfl sz_3 (by decide) (by first | exact Option.some_ne_none _ | exact hA | exact hld w' hw)) ?_
            refine Qt.va rfl (fun w' hw => X.load rfl sc_3 (by first | exact Ld.blk (hk7.ext hw) rfl | exact hA | exact hld w' hw)) ?_
            refine Qt.va rfl (fun w' hw => X.fieldAddr rfl Try.underlying54 rfl sz_52 (by decide)) ?_
            refine Qt.va rfl (fun w' hw => X.load rfl sc_52 (by first | exact Ld.blk (hk7.ext hw) rfl | exact hA | exact hld w' hw)) ?_
            refine Qt.va rfl (fun w' hw => X.len rfl Try.underlying52) ?_
            refine Qt.va rfl (fun w' hw => X.geq rfl rfl) ?_
            refine Qt.va rfl (fun w' hw => X.pickF rfl (by conv => lhs; whnf)) ?_
            refine Qt.nil (fun w8 hq8 => ?_)
            replace hk7 := hk7.ext hq8
            refine J.dec rfl (fun h8 => ?_) (fun h8 => ?_)
            · rw [qc_2 hc h2 h3 (by omega) (.inr (.inl ⟨j, hjn, by rw [hkm]; unfold Qu.oOk; dsimp only; omega⟩))]
              refine J.seq ?_
              refine J.region ?_
              refine L.va rfl (X.assign (by conv => lhs; whnf)) ?_
              refine L.nil ?_
              refine J.ret ?_
              refine inB_ret <|  thn_ret <|  thn_ret <|  inB_ret <|  thn_ret <| ?_
              refine fin1 ?_
              exact ⟨rfl, he07.trans hq8⟩
            refine J.skip ?_
            refine J.region ?_
            refine L.va rfl (X.move (by conv => lhs; whnf)) ?_
            refine L.va rfl (X.add rfl rfl (by omega)) ?_
            refine L.va rfl (X.assign (by conv => lhs; whnf)) ?_
            refine L.nil ?_
            refine ⟨j + 1, At1 (by first | rfl | exact at_int rfl (by omega) | exact at_slice rfl (by omega) | exact at_int rfl (by simp)), (by (iterate 28 refine Agr.lk rfl ?_); exact Agr.lk rfl (Agr.hav rfl Agr.rfl')), ?_⟩
            refine ⟨⟨by omega, fun j' hj' => ?_, he7.trans hq8⟩, by omega⟩
            rcases Nat.lt_or_ge j' j with h | h
            · exact hQ j' h
            · obtain rfl : j' = j := by omega
              rw [hkm]; exact ⟨by dsimp only; omega, by dsimp only; omega⟩
          · refine J.exit ?_
            refine J.seq ?_
            refine J.seq ?_
            refine J.region ?_
            refine L.va rfl (X.fieldAddr rfl Try.underlying54 rfl sz_3 (by decide)) ?_
            refine L.va rfl (X.load rfl sc_3 (by first | exact Ld.blk hk7 rfl)) ?_
            refine L.va rfl (X.lss rfl rfl) ?_
            refine L.nil ?_
            refine J.dec rfl (fun h9 => ?_) (fun h9 => ?_)
            · rw [qc_2 hc h2 h3 (by omega) (.inr (.inr h9))]
              refine J.seq ?_
              refine J.region ?_
              refine L.va rfl (X.assign (by conv => lhs; whnf)) ?_
              refine L.nil ?_
              refine J.ret ?_
              refine thn_ret <| ?_
              refine fin1 ?_
              exact ⟨rfl, he07⟩
            · rw [qc_0 hc h2 h3 (by omega) (fun i hi => hP i (by omega)) (fun i hi => hQ i (by omega)) h9]
              refine J.skip ?_
              refine J.seq ?_
              refine J.region ?_
              refine L.va rfl (X.assign (by conv => lhs; whnf)) ?_
              refine L.nil ?_
              refine J.ret ?_
              refine fin1 ?_
              exact ⟨rfl, he07⟩
  · rw [decide_eq_false h2, qc_11 hc h2]
    refine J.iteT rfl ?_
    refine J.seq ?_
    refine J.region ?_
    refine L.va rfl (X.assign (by conv => lhs; whnf)) ?_
    refine L.nil ?_
    refine J.ret ?_
    refine thn_ret <| ?_
    refine fin1 ?_
    exact ⟨rfl, he04⟩
end Go.Proofs.Ytlipeplfjkgamaa
namespace Go.Proofs.Ytlipeplfjkgamaa
set_option maxRecDepth 100000
open Go.RowKit H
open Byts Cod
set_option linter.unusedVariables false
theorem RdB.grw {w w' : World} {b : Nat} {A : Option Addr} {n c : Nat} {zs : List Int} {s : RS} {row : Option Nat} (h : RdB w b A n c zs s) (hg : w.grownBy w' row) (hr : ∀ g, row = some g → b < g) : RdB w' b A n c zs s :=
  h.below ⟨hg.os, hg.tape, hg.output, hg.size, fun i hi => hg.block i (by have := h.hk.lt; omega) (fun e => by have := hr i e.symm; omega)⟩
theorem rqget {s : Sch} {A : Option Addr} {n c : Nat} {zs : List Int} {w : World} (H : s.Here w) (hr : Reads w w.heap.size 1 A n (nums .u8 zs)) (hz : ∀ z ∈ zs, 0 ≤ z ∧ z < 256) (hn : n ≤ 1000000) (hnc : n ≤ c) : Calls Try.prog 41 #[s.val, .slice A n c] w fun e w' => ∃ (r : Qu) (x : Int), e = .returned (.tuple #[r.val, .int .i64 x]) ∧ r.At w'.heap.size w' ∧ Got s zs r x ∧ Ext w w' := by
  have f0 := h0_fit hz
  have fn1 := n1_fit hz
  obtain ⟨gn, hgn⟩ : ∃ gn : Nat, (rdU zs 2147483647 (0, 0)).1 = (gn : Int) := ⟨_, (Int.toNat_of_nonneg f0.2.1).symm⟩
  have hg32 : gn ≤ 2147483647 := by have : (rdU zs 2147483647 (0, 0)).1 ≤ 2147483647 := f0.2.2; omega
  obtain ⟨k1, hk1n⟩ : ∃ k1 : Nat, (rdU zs 20 (rdU zs 2147483647 (0, 0)).2).1 = (k1 : Int) := ⟨_, (Int.toNat_of_nonneg fn1.2.1).symm⟩
  have ek1 : (n1 zs).1.toNat = k1 := by show (rdU zs 20 (rdU zs 2147483647 (0, 0)).2).1.toNat = k1; rw [hk1n]; rfl
  have hk1b : k1 ≤ 20 := by have : (rdU zs 20 (rdU zs 2147483647 (0, 0)).2).1 ≤ 20 := fn1.2.2; omega
  refine enter Try.func41 rfl (by kernel_rfl) ?_
  refine J.seq ?_
  refine J.region ?_
  refine L.boxA (l := [_, _, _, _]) rfl rfl ?_
  intro b1 w1 hb1 hs1 hk1 he1
  refine L.alloc rfl zr_54 ?_
  intro b2 w2 hb2 hs2 hk2 he2
  have hk12 := hk1.ext he2
  have he02 := he1.trans he2
  have hk2 : Blk w2 b2 54 Q0v := hk2
  have y1 := he1.le
  refine L.va rfl (X.assign (by conv => lhs; whnf)) ?_
  refine L.nil ?_
  refine J.seq ?_
  refine J.seq ?_
  refine J.region ?_
  refine L.va rfl ((by first | exact X.loadAgg rfl (range_l hk12) Try.underlying49 rfl (by kernel_rfl) | exact X.loadAgg rfl (range_blk hk12) Try.underlying49 rfl (by kernel_rfl))) ?_
  refine L.call rfl en_97 rfl ((H.ext he02).rcheck) ?_
  rintro e w3 ⟨rfl, he3⟩
  refine ⟨_, rfl, ?_⟩
  have hk23 := hk2.ext he3
  have he03 := he02.trans he3
  have z3 := he03.le
  have y2 := he02.le
  replace hk12 := hk12.ext he3
  refine L.va rfl (X.neq rfl rfl) ?_
  refine L.nil ?_
  refine J.ndec rfl (fun hs0 => ?_) (fun hs0 => ?_)
  · skip
    refine J.seq ?_
    refine J.region ?_
    refine L.va rfl (X.build (l := [_, _, _, _, _]) Evs.nil (bld_run Try.underlying54 (bp_54 Try.underlying54) zr_54 rfl)) ?_
    refine L.storeAgg (vs := [_, _, _, _, _]) rfl rfl rfl rfl sz_54 (hk23) rfl ?_
    intro w4 hk4 hg4 hs4
    refine L.va rfl (X.assign (by conv => lhs; whnf)) ?_
    refine L.nil ?_
    refine J.ret ?_
    refine thn_ret <| ?_
    refine finCT rfl (run_cell hk4 Try.underlying54 rfl (by kernel_rfl)) ?_
    exact ⟨q0, 1, rfl, q0_at, ⟨fun _ => ⟨rfl, rfl⟩, fun h => absurd h hs0, fun h => absurd h hs0⟩, he03.grw hg4 (by intro g hg; injection hg with hg; omega)⟩
  have hs0 : s.code = 0 := by simpa using hs0
  refine J.skip ?_
  refine J.seq ?_
  refine J.region ?_
  refine L.va rfl (X.move (by conv => lhs; whnf)) ?_
  refine L.va rfl (X.build (l := [_, _, _]) (Evs.cons (by conv => lhs; whnf) Evs.nil) (bld_run Try.underlying159 (bp_159 Try.underlying159) zr_159 rfl)) ?_
  refine L.boxA (l := [_, _, _]) rfl rfl ?_
  intro bR w4 hbR hsR hkR heR
  have hkR : Blk w4 bR 159 #[.slice A n c, .int .i64 ((0 : Nat) : Int), .int .i64 0] := hkR
  have he04 := he03.trans heR
  have hR4 : RdB w4 bR A n c zs (0, 0) := ⟨hkR, (hr.ext he04).more (by omega), hnc, hz, hn, Nat.zero_le _, Int.le_refl _, by decide⟩
  have hl4 : bR < w4.heap.size := hkR.lt
  have hk24 := hk23.ext heR
  have hk14 := hk12.ext heR
  have hd1 : b1 ≠ bR := by have := hk12.lt; omega
  have hd2 : b2 ≠ bR := by have := hk23.lt; omega
  refine L.va rfl (X.assign (by conv => lhs; whnf)) ?_
  refine L.nil ?_
  refine J.seq ?_
  refine J.region ?_
  refine L.va rfl (X.assign (by conv => lhs; whnf)) ?_
  refine L.nil ?_
  refine J.seq ?_
  refine J.region ?_
  refine L.va rfl (X.move (by conv => lhs; whnf)) ?_
  refine L.va rfl (X.move (by conv => lhs; whnf)) ?_
  refine L.call rfl en_111 rfl (hR4.rU 2147483647 (by decide)) ?_
  rintro e w5 ⟨rfl, hR5, hc5⟩
  refine ⟨_, rfl, ?_⟩
  rw [hgn]
  have z5 := hc5.size
  refine L.va rfl ((by first | exact X.conv32 rfl is_90 Try.underlying50 (by omega) | exact X.convw rfl is_90 Try.underlying50)) ?_
  refine L.va rfl (X.build (l := [_, _, _, _, _]) (Evs.cons (by conv => lhs; whnf) Evs.nil) (bld_run Try.underlying54 (bp_54 Try.underlying54) zr_54 rfl)) ?_
  refine L.alloc rfl zr_54 ?_
  intro bQ w6 hbQ hsQ hkQ heQ
  refine L.storeAgg (vs := [_, _, _, _, _]) rfl rfl rfl rfl sz_54 (hkQ) rfl ?_
  intro w7 hk7 hg7 hs7
  have he57 : Ext w5 w7 := heQ.grw hg7 (by intro g hg; injection hg with hg; omega)
  have hk7 : Blk w7 bQ 54 #[.int .u32 (gn : Int), .slice none 0 0, .slice none 0 0, .slice none 0 0, .int .i64 0] := hk7
  have hR7 := RdB.ext hR5 he57
  have c47 := hc5.trans (Chg.of_ext (S := (· = bR)) he57) (fun _ _ => id)
  have lQ : w4.heap.size ≤ bQ := by omega
  refine L.nil ?_
  refine J.seq ?_
  refine J.region ?_
  refine L.va rfl (X.move (by conv => lhs; whnf)) ?_
  refine L.call rfl en_111 rfl (hR7.rU 20 (by decide)) ?_
  rintro e w8 ⟨rfl, hR8, hc8⟩
  refine ⟨_, rfl, ?_⟩
  rw [hk1n]
  have hT8 := TCh.one hc8 hR7.hk
  have hk8 := hT8.blk hk7 (by decide)
  have c48 := c47.trans hc8 (fun _ _ => id)
  refine L.va rfl ((by first | exact X.convI rfl is_90 Try.underlying3 (by omega) | exact X.convw rfl is_90 Try.underlying3)) ?_
  refine L.va rfl (X.assign (by conv => lhs; whnf)) ?_
  refine L.nil ?_
  refine J.cut (X := Fis) [10, 11, 12, 13, 34, 35, 36, 37, 38, 39, 40, 41, 42, 43, 44, 45, 46, 47, 48, 49, 50, 51, 52, 53, 54, 55, 56, 57, 58, 59, 60, 61, 62, 63, 64, 65, 66, 67, 68, 69, 70, 71, 72, 73, 74, 75, 76, 77, 78, 79, 80] (fun _ => []) (fun r w' => RdB w' bR A n c zs (h1 zs).2 ∧ FisOwn r w4.heap.size w' ∧ ((h1 zs).2.2 = 0 → r.l.map Fi.key = (h1 zs).1) ∧ Blk w' bQ 54 #[.int .u32 (gn : Int), r.val, .slice none 0 0, .slice none 0 0, .int .i64 0] ∧ Chg (· = bR) w4 w') ?_ ?_
  · skip
    refine J.seq ?_
    refine J.region ?_
    refine L.va rfl (X.assign (by conv => lhs; whnf)) ?_
    refine L.nil ?_
    refine J.block ?_
    refine J.loop (X := Nat × Fis) [10, 11, 12, 13, 34, 35, 36, 37, 38, 39, 40, 41, 42, 43, 44, 45, 46, 47, 48, 49, 50, 51, 52, 53, 54, 55, 56, 57, 58, 59, 60, 61, 62, 63, 64, 65, 66, 67, 68, 69, 70, 71, 72, 73, 74, 75, 76, 77, 78, 79, 80] (fun (i, r) => [(10, .int .i64 (i : Int))]) (fun (i, r) w' => i ≤ k1 ∧ RdB w' bR A n c zs (rdL (rF zs) i (n1 zs).2).2 ∧ FisOwn r w4.heap.size w' ∧ r.n ≤ i ∧ ((rdL (rF zs) i (n1 zs).2).2.2 = 0 → r.l.map Fi.key = (rdL (rF zs) i (n1 zs).2).1) ∧ Blk w' bQ 54 #[.int .u32 (gn : Int), r.val, .slice none 0 0, .slice none 0 0, .int .i64 0] ∧ Chg (· = bR) w4 w') (fun (i, _) => k1 - i) ((0, ⟨none, 0, 0, []⟩)) (At1 (by first | rfl | exact at_int rfl (by omega) | exact at_slice rfl (by omega) | exact at_int rfl (by simp))) ?_ ?_
    · exact ⟨Nat.zero_le _, hR8, ⟨own_nil _ _ _ _, (fun x hx => by cases hx), rfl⟩, Nat.le_refl _, fun _ => rfl, hk8, c48⟩
    · rintro ⟨i, r⟩ g w9 ⟨hi, hR9, hr9, hrn, hrk, hk9, c49⟩
      have z9 := c49.size
      have hkr9 := hR9.hk
      refine J.seq ?_
      refine J.seq ?_
      refine J.region ?_
      refine L.va rfl (X.move (by conv => lhs; whnf)) ?_
      refine L.va rfl (X.move (by conv => lhs; whnf)) ?_
      refine L.va rfl (X.lss rfl rfl) ?_
      refine L.va rfl (X.move (by conv => lhs; whnf)) ?_
      refine L.caseDec (k := 37) rfl (fun hlt => ?_) (fun hlt => ?_)
      · have hik : i < k1 := by omega
        refine L.va rfl (X.move (by conv => lhs; whnf)) ?_
        refine L.va rfl (X.nilCheck rfl) ?_
        refine L.va rfl (X.fieldAddr rfl Try.underlying159 rfl sz_3 (by decide)) ?_
        refine L.va rfl (X.load rfl sc_3 (by first | exact Ld.blk hkr9 rfl)) ?_
        refine L.va rfl (X.eql rfl rfl) ?_
        refine L.va rfl (X.pickT rfl (by conv => lhs; whnf)) ?_
        refine L.nil ?_
        refine J.dec rfl (fun hE => ?_) (fun hE => ?_)
        · obtain ⟨st, hst⟩ : ∃ st, st = (rdL (rF zs) i (n1 zs).2).2 := ⟨_, rfl⟩
          have hnx : rdL (rF zs) (i + 1) (n1 zs).2 = ((rdL (rF zs) i (n1 zs).2).1 ++ [(rF zs st).1], (rF zs st).2) := by rw [hst]; rfl
          rw [← hst] at hR9 hrk hE
          have hrk0 := hrk hE
          have fS := rS_fit hz st hR9.hf
          have fS2 : 0 ≤ (rdU zs 2147483647 st).1 ∧ (rdU zs 2147483647 st).1 ≤ 2147483647 := fS.2
          have fM := rdU_fit hz 4096 (by decide) fS.1
          obtain ⟨k2, hk2n⟩ : ∃ k2 : Nat, (rdU zs 4096 (rdU zs 2147483647 st).2).1 = (k2 : Int) := ⟨_, (Int.toNat_of_nonneg fM.2.1).symm⟩
          have hk2b : k2 ≤ 4096 := by have : (rdU zs 4096 (rdU zs 2147483647 st).2).1 ≤ 4096 := fM.2.2; omega
          have eF' : rF zs st = (((rS zs st).1, (rdL (rS zs) k2 (rdU zs 4096 (rS zs st).2).2).1), (rdL (rS zs) k2 (rdU zs 4096 (rS zs st).2).2).2) := by
            unfold rF
            rw [show rdU zs 4096 (rS zs st).2 = ((k2 : Int), (rdU zs 4096 (rdU zs 2147483647 st).2).2) from Prod.ext hk2n rfl]
            rfl
          refine J.skip ?_
          refine J.seq ?_
          refine J.block ?_
          refine J.seq ?_
          refine J.region ?_
          refine L.va rfl (X.move (by conv => lhs; whnf)) ?_
          refine L.va rfl (X.move (by conv => lhs; whnf)) ?_
          refine L.call rfl en_111 rfl (hR9.rU 2147483647 (by decide)) ?_
          rintro e wa ⟨rfl, hRa, hca⟩
          refine ⟨_, rfl, ?_⟩
          have hTa := TCh.one hca hR9.hk
          have hka := hTa.blk hk9 (by decide)
          have hra := hr9.tch hTa (by decide) (by decide)
          have c4a := c49.trans hca (fun _ _ => id)
          have za := c4a.size
          refine L.va rfl ((by first | exact X.convI rfl is_90 Try.underlying3 (by omega) | exact X.convw rfl is_90 Try.underlying3)) ?_
          refine L.va rfl (X.build (l := [_, _]) (Evs.cons (by conv => lhs; whnf) Evs.nil) (bld_run Try.underlying150 (bp_150 Try.underlying150) zr_150 rfl)) ?_
          refine L.alloc rfl zr_150 ?_
          intro bF wb hbF hsF hkF heF
          refine L.storeAgg (vs := [_, _]) rfl rfl rfl rfl sz_150 (hkF) rfl ?_
          intro wc hkc hgc hsc
          have heac : Ext wa wc := heF.grw hgc (by intro g hg; injection hg with hg; omega)
          have hkc : Blk wc bF 150 #[.int .i64 (rS zs st).1, .slice none 0 0] := hkc
          have hRc := RdB.ext hRa heac
          have hkQc := hka.ext heac
          have hrc := hra.ext heac
          have c4c := c4a.trans (Chg.of_ext (S := (· = bR)) heac) (fun _ _ => id)
          have zc := c4c.size
          have nFQ : bF ≠ bQ := by have := hka.lt; omega
          have hneF : (Value.slice r.A r.n r.c).ownBlock ≠ some bF := fun e => by have := (hra.o.lt bF e).2; omega
          refine L.nil ?_
          refine J.seq ?_
          refine J.region ?_
          refine L.va rfl (X.move (by conv => lhs; whnf)) ?_
          refine L.call rfl en_111 rfl (hRc.rU 4096 (by decide)) ?_
          rintro e wd ⟨rfl, hRd, hcd⟩
          refine ⟨_, rfl, ?_⟩
          rw [hk2n]
          have hTd := TCh.one hcd hRc.hk
          have hkFd := hTd.blk hkc (by decide)
          have hkQd := hTd.blk hkQc (by decide)
          have hrd := hrc.tch hTd (by decide) (by decide)
          have c4d := c4c.trans hcd (fun _ _ => id)
          have zd := c4d.size
          refine L.va rfl ((by first | exact X.convI rfl is_90 Try.underlying3 (by omega) | exact X.convw rfl is_90 Try.underlying3)) ?_
          refine L.va rfl (X.assign (by conv => lhs; whnf)) ?_
          refine L.nil ?_
          refine J.cut (X := Option Addr × Nat × Nat × List Int) [13, 54, 55, 56, 57, 58, 59, 60, 61, 62, 63, 64, 65, 66, 67, 68, 69, 70, 71, 72, 73, 74] (fun _ => []) (fun (A2, q2, c2, cl) w' => RdB w' bR A n c zs (rF zs st).2 ∧ w'.ownsRow wd.heap.size 3 1 (.slice A2 q2 c2) q2 (nums .i64 cl) ∧ ((rF zs st).2.2 = 0 → cl = (rF zs st).1.2) ∧ Blk w' bF 150 #[.int .i64 (rS zs st).1, .slice A2 q2 c2] ∧ Blk w' bQ 54 #[.int .u32 (gn : Int), r.val, .slice none 0 0, .slice none 0 0, .int .i64 0] ∧ Chg (fun g => g = bR ∨ g = bF) wd w' ∧ Chg (· = bR) w4 w') ?_ ?_
          · skip
            refine J.seq ?_
            refine J.region ?_
            refine L.va rfl (X.assign (by conv => lhs; whnf)) ?_
            refine L.nil ?_
            refine J.block ?_
            refine J.loop (X := Nat × Option Addr × Nat × Nat) [13, 54, 55, 56, 57, 58, 59, 60, 61, 62, 63, 64, 65, 66, 67, 68, 69, 70, 71, 72, 73, 74] (fun (k, A2, q2, c2) => [(13, .int .i64 (k : Int))]) (fun (k, A2, q2, c2) w' => k ≤ k2 ∧ q2 = k ∧ RdB w' bR A n c zs (rdL (rS zs) k (rdU zs 4096 (rS zs st).2).2).2 ∧ w'.ownsRow wd.heap.size 3 1 (.slice A2 q2 c2) q2 (nums .i64 (rdL (rS zs) k (rdU zs 4096 (rS zs st).2).2).1) ∧ Blk w' bF 150 #[.int .i64 (rS zs st).1, .slice A2 q2 c2] ∧ Blk w' bQ 54 #[.int .u32 (gn : Int), r.val, .slice none 0 0, .slice none 0 0, .int .i64 0] ∧ Chg (fun g => g = bR ∨ g = bF) wd w' ∧ Chg (· = bR) w4 w') (fun (k, _) => k2 - k) ((0, none, 0, 0)) (At1 (by first | rfl | exact at_int rfl (by omega) | exact at_slice rfl (by omega) | exact at_int rfl (by simp))) ?_ ?_
            · exact ⟨Nat.zero_le _, rfl, hRd, own_nilN _ _ _ _, hkFd, hkQd, .of_ext (.refl _), c4d⟩
            · rintro ⟨k, A2, q2, c2⟩ g we ⟨hk, hq2, hRe, hoe, hkFe, hkQe, cde, c4e⟩
              subst hq2
              have ze := c4e.size
              have zde := cde.size
              have hkre := hRe.hk
              refine J.seq ?_
              refine J.seq ?_
              refine J.region ?_
              refine L.va rfl (X.move (by conv => lhs; whnf)) ?_
              refine L.va rfl (X.move (by conv => lhs; whnf)) ?_
              refine L.va rfl (X.lss rfl rfl) ?_
              refine L.va rfl (X.move (by conv => lhs; whnf)) ?_
              refine L.caseDec (k := 57) rfl (fun hlt2 => ?_) (fun hlt2 => ?_)
              · have hkk : q2 < k2 := by omega
                refine L.va rfl (X.move (by conv => lhs; whnf)) ?_
                refine L.va rfl (X.nilCheck rfl) ?_
                refine L.va rfl (X.fieldAddr rfl Try.underlying159 rfl sz_3 (by decide)) ?_
                refine L.va rfl (X.load rfl sc_3 (by first | exact Ld.blk hkre rfl)) ?_
                refine L.va rfl (X.eql rfl rfl) ?_
                refine L.va rfl (X.pickT rfl (by conv => lhs; whnf)) ?_
                refine L.nil ?_
                refine J.dec rfl (fun hE2 => ?_) (fun hE2 => ?_)
                · obtain ⟨s2, hs2⟩ : ∃ s2, s2 = (rdL (rS zs) q2 (rdU zs 4096 (rS zs st).2).2).2 := ⟨_, rfl⟩
                  have hn2 : rdL (rS zs) (q2 + 1) (rdU zs 4096 (rS zs st).2).2 = ((rdL (rS zs) q2 (rdU zs 4096 (rS zs st).2).2).1 ++ [(rdU zs 2147483647 s2).1], (rdU zs 2147483647 s2).2) := by rw [hs2]; rfl
                  rw [← hs2] at hRe
                  obtain ⟨cl, hcl⟩ : ∃ cl, cl = (rdL (rS zs) q2 (rdU zs 4096 (rS zs st).2).2).1 := ⟨_, rfl⟩
                  rw [← hcl] at hoe hn2
                  have f2 := rdU_fit hz 2147483647 (by decide) hRe.hf
                  refine J.skip ?_
                  refine J.seq ?_
                  refine J.block ?_
                  refine J.draw (ℓ := 9) (S := (fun w' => Blk w' bF 150 #[.int .i64 (rS zs st).1, .slice A2 q2 c2])) mixed (fun wf hSE hS_h => ?_)
                  have hS : ((fun w' => Blk w' bF 150 #[.int .i64 (rS zs st).1, .slice A2 q2 c2])) wf := (hkFe.ext hSE)
                  refine D.va 0 rfl (by kernel_rfl) (fun _ _ _ h => h) rfl (fun w' hw => X.fieldAddr rfl Try.underlying150 rfl sz_23 (by decide)) hS ?_
                  refine D.va 1 rfl (by kernel_rfl) (fun _ _ _ h => h) rfl (fun w' hw => X.load rfl sc_23 (by first | exact Ld.blk hw rfl)) hS ?_
                  refine D.va 2 rfl (by kernel_rfl) (fun _ _ _ h => h) rfl (fun w' hw => X.move (by conv => lhs; whnf)) hS ?_
                  refine D.va 3 rfl (by kernel_rfl) (fun _ _ _ h => h) rfl (fun w' hw => X.move (by conv => lhs; whnf)) hS ?_
                  have hRf := RdB.ext hRe hSE
                  refine D.one 4 (by kernel_rfl) rfl ?_
                  refine L.call rfl en_111 rfl (hRf.rU 2147483647 (by decide)) ?_
                  rintro e wg ⟨rfl, hRg, hcg⟩
                  refine ⟨_, rfl, ?_⟩
                  have hS1 := (TCh.one hcg hRf.hk).blk hS (by decide)
                  refine L.nil ?_
                  refine ⟨fun _ => hS1, ?_⟩
                  have hTg := TCh.one hcg hRf.hk
                  refine D.va 5 rfl (by kernel_rfl) (fun _ _ _ h => h) rfl (fun w' hw => (by first | exact X.convI rfl is_90 Try.underlying3 (by omega) | exact X.convw rfl is_90 Try.underlying3)) hS1 ?_
                  refine D.one 6 (by kernel_rfl) rfl ?_
                  refine L.bslice (vs := [_]) rfl (Evs.cons (by conv => lhs; whnf) Evs.nil) rfl rfl rfl rfl Try.underlying23 sz_3 zr_3 (by decide) ?_
                  intro bB wh hbB hsB hkB heB
                  have hS2 := hS1.ext heB
                  refine L.nil ?_
                  refine ⟨fun _ => hS2, ?_⟩
                  have hRh := RdB.ext hRg heB
                  have hoh := World.ownsRow.ext (hTg.own (World.ownsRow.ext hoe hSE) (by decide)) heB
                  have hkQh := (hTg.blk (hkQe.ext hSE) (by decide)).ext heB
                  have c4h := ((c4e.trans (Chg.of_ext (S := (· = bR)) hSE) (fun _ _ => id)).trans hcg (fun _ _ => id)).trans (Chg.of_ext (S := (· = bR)) heB) (fun _ _ => id)
                  have zhh := c4h.size
                  have zef := hSE.le
                  have zfg := hcg.size
                  have zgh := heB.le
                  refine D.one 7 (by kernel_rfl) rfl ?_
                  refine L.appendQ (q := q2 + 1) (ys := cl ++ [(rdU zs 2147483647 s2).1]) rfl rfl rfl Try.underlying23 el_3 (hoh) (blk_reads (q := 1) (l := nums .i64 [(rdU zs 2147483647 s2).1]) hkB hkB.lt rfl) (by omega) (by simp) (by unfold maxLen; omega) (by omega) ?_
                  intro A3 c3 wi hoi hgi hbi hori
                  have hS3 := (TCh.row hoh hgi).blk hS2 (by decide)
                  refine L.nil ?_
                  refine ⟨fun _ => hS3, ?_⟩
                  have hTi := TCh.row hoh hgi
                  have hRi := hRh.grw hgi (fun g hg => by have := (own_ofT hoh hg).2; omega)
                  have hkQi := hTi.blk hkQh (by decide)
                  have c4i := c4h.new hgi (fun g hg => by have := (own_ofT hoh hg).2; omega)
                  have cdi : Chg (fun g => g = bR ∨ g = bF) wd wi := (((cde.trans (Chg.of_ext (S := (· = bR)) hSE) (fun _ _ h => .inl h)).trans hcg (fun _ _ h => .inl h)).trans (Chg.of_ext (S := (· = bR)) heB) (fun _ _ h => .inl h)).new hgi (fun g hg => (own_ofT hoh hg).2)
                  have hkFi := hS3
                  refine D.va 8 rfl (by kernel_rfl) (fun _ _ _ h => h) rfl (fun w' hw => X.fieldAddr rfl Try.underlying150 rfl sz_23 (by decide)) hS3 ?_
                  refine D.one 9 (by kernel_rfl) rfl ?_
                  refine L.store rfl rfl (by conv => lhs; whnf) rfl sz_23 (hkFi) (by first | decide | exact Nat.le_of_ble_eq_true rfl) ?_
                  intro wj hkj hgj hsj
                  refine L.nil ?_
                  refine ⟨fun h => absurd rfl h, ?_⟩
                  have hTj := TCh.put hkFi hgj
                  have hkj : Blk wj bF 150 #[.int .i64 (rS zs st).1, .slice A3 (q2 + 1) c3] := hkj
                  have hRj := hRi.grw hgj (fun g hg => by injection hg with hg; omega)
                  refine D.done (by kernel_rfl) ?_
                  refine J.region ?_
                  refine L.va rfl (X.move (by conv => lhs; whnf)) ?_
                  refine L.va rfl (X.add rfl rfl (by omega)) ?_
                  refine L.va rfl (X.assign (by conv => lhs; whnf)) ?_
                  refine L.nil ?_
                  refine ⟨(q2 + 1, A3, q2 + 1, c3), At1 (by first | rfl | exact at_int rfl (by omega) | exact at_slice rfl (by omega) | exact at_int rfl (by simp)), (by (iterate 23 refine Agr.lk rfl ?_); exact Agr.lk rfl (Agr.hav rfl Agr.rfl')), ?_⟩
                  dsimp only
                  rw [hn2]
                  exact ⟨⟨by omega, rfl, hRj, hTj.own hoi (by decide), hkj, hTj.blk hkQi (by decide), cdi.trans (Chg.of_grown (S := fun g => g = bF) hgj (fun g hg => by injection hg with hg; exact hg.symm)) (fun _ _ h => .inr h), c4i.new hgj (fun g hg => by injection hg with hg; omega)⟩, by show k2 - (q2 + 1) < k2 - q2; omega⟩
                · have e2 : (rF zs st).2 = (rdL (rS zs) q2 (rdU zs 4096 (rS zs st).2).2).2 := by
                    rw [eF']
                    exact rdL_stop' (rS_stick zs) (s := (rdU zs 4096 (rS zs st).2).2) (k := q2) (n := k2) hE2 (by omega)
                  refine J.exit ?_
                  refine ⟨(A2, q2, c2, (rdL (rS zs) q2 (rdU zs 4096 (rS zs st).2).2).1), At0 , (by (iterate 11 refine Agr.lk rfl ?_); refine Agr.lk rfl ?_; refine Agr.hav rfl ?_; (iterate 1 refine Agr.lk rfl ?_); exact Agr.rfl'), ?_⟩
                  dsimp only
                  rw [e2]
                  exact ⟨hRe, hoe, fun h => absurd h hE2, hkFe, hkQe, cde, c4e⟩
              · obtain rfl : q2 = k2 := by omega
                refine L.no rfl ?_
                refine L.no rfl ?_
                refine L.no rfl ?_
                refine L.no rfl ?_
                refine L.no rfl ?_
                refine L.va rfl (X.pickF rfl (by conv => lhs; whnf)) ?_
                refine L.nil ?_
                refine J.iteF rfl ?_
                refine J.exit ?_
                refine ⟨(A2, q2, c2, (rdL (rS zs) q2 (rdU zs 4096 (rS zs st).2).2).1), At0 , (by (iterate 11 refine Agr.lk rfl ?_); refine Agr.lk rfl ?_; refine Agr.hav rfl ?_; (iterate 1 refine Agr.lk rfl ?_); exact Agr.rfl'), ?_⟩
                dsimp only
                rw [eF']
                exact ⟨hRe, hoe, fun _ => rfl, hkFe, hkQe, cde, c4e⟩
          · rintro ⟨A2, q2, c2, cl⟩ g we ⟨hRe, hoe, hcl, hkFe, hkQe, cde, c4e⟩
            have hre : FisOwn r w4.heap.size we := hrd.chg cde (fun g hg => by
              rintro (rfl | rfl)
              · exact own_blkne hrd.o hRd.hk (by decide) hg
              · exact hneF hg) (fun g hg ht => by
              rcases hg with rfl | rfl
              · exact absurd (ht.one hRd.hk.ofT) (by decide)
              · exact absurd (ht.one hkFd.ofT) (by decide))
            have ze := c4e.size
            have zde := cde.size
            refine J.region ?_
            refine L.va rfl (X.fieldAddr rfl Try.underlying54 rfl sz_51 (by decide)) ?_
            refine L.va rfl (X.load rfl sc_51 (by first | exact Ld.blk hkQe rfl | exact Ld.blk hkFe rfl)) ?_
            refine L.va rfl ((by first | exact X.loadAgg rfl (range_l hkQe) Try.underlying150 rfl (by kernel_rfl) | exact X.loadAgg rfl (range_blk hkQe) Try.underlying150 rfl (by kernel_rfl) | exact X.loadAgg rfl (range_l hkFe) Try.underlying150 rfl (by kernel_rfl) | exact X.loadAgg rfl (range_blk hkFe) Try.underlying150 rfl (by kernel_rfl))) ?_
            refine L.bslice1 (l := [_, _]) rfl rfl rfl Try.underlying51 sz_150 zr_150 rfl ?_
            intro bB wf hbB hsB hkB heB
            have hof := hre.ext heB
            have hcf := World.ownsRow.ext hoe heB
            replace hkQe := hkQe.ext heB
            replace hkFe := hkFe.ext heB
            have hones : (([.int .i64 (rS zs st).1, .slice A2 q2 c2] : List Value).all (·.oneCell')) = true := rfl
            refine L.appendV (q := r.n + 1) (ys := r.l.flatMap Fi.vs ++ [.int .i64 (rS zs st).1, .slice A2 q2 c2]) rfl rfl rfl Try.underlying51 el_150 (hof.o) (blk_readsN (sz := 2) (q := 1) (l := [.int .i64 (rS zs st).1, .slice A2 q2 c2]) hkB hkB.lt rfl) (by first | rfl | exact strs_ones _ | assumption) (by omega) (by simp) (by unfold maxLen; omega) (by omega) ?_
            intro Ag cg wg hog hgg hbg horg
            have hTg := TCh.row hof.o hgg
            have zf := heB.le
            have hRg := (RdB.ext hRe heB).grw hgg (fun g hg => by have := (own_ofT hof.o hg).2; omega)
            have hkQg := hTg.blk hkQe (by decide)
            have hcg := hTg.own hcf (by decide)
            have hfg : ∀ x ∈ r.l, FiOwn x w4.heap.size wg := fun x hx => hTg.own (hof.h x hx) (by decide)
            have c4g := (c4e.trans (Chg.of_ext (S := (· = bR)) heB) (fun _ _ => id)).new hgg (fun g hg => (own_ofT hof.o hg).2)
            refine L.va rfl (X.fieldAddr rfl Try.underlying54 rfl sz_51 (by decide)) ?_
            refine L.store rfl rfl (by conv => lhs; whnf) rfl sz_51 (hkQg) (by first | decide | exact Nat.le_of_ble_eq_true rfl) ?_
            intro wh hkh hgh hsh
            have hTh := TCh.put hkQg hgh
            have hkh : Blk wh bQ 54 #[.int .u32 (gn : Int), .slice Ag (r.n + 1) cg, .slice none 0 0, .slice none 0 0, .int .i64 0] := hkh
            have hRh := hRg.grw hgh (fun g hg => by injection hg with hg; omega)
            refine L.nil ?_
            refine J.region ?_
            refine L.va rfl (X.move (by conv => lhs; whnf)) ?_
            refine L.va rfl (X.add rfl rfl (by omega)) ?_
            refine L.va rfl (X.assign (by conv => lhs; whnf)) ?_
            refine L.nil ?_
            refine ⟨(i + 1, Fis.mk Ag (r.n + 1) cg (r.l ++ [⟨(rS zs st).1, A2, q2, c2, cl⟩])), At1 (by first | rfl | exact at_int rfl (by omega) | exact at_slice rfl (by omega) | exact at_int rfl (by simp)), (by (iterate 9 refine Agr.lk rfl ?_); refine Agr.lk rfl ?_; refine Agr.hav rfl ?_; (iterate 21 refine Agr.lk rfl ?_); exact Agr.lk rfl (Agr.hav rfl Agr.rfl')), ?_⟩
            dsimp only
            rw [hnx]
            refine ⟨⟨by omega, hRh, ⟨?_, ?_, ?_⟩, by show r.n + 1 ≤ i + 1; omega, fun h0 => ?_, hkh, c4g.new hgh (fun g hg => by injection hg with hg; omega)⟩, by show k1 - (i + 1) < k1 - i; omega⟩
            · have := hTh.own hog (by decide)
              simpa using this
            · intro x hx
              rcases List.mem_append.1 hx with hx | hx
              · exact hTh.own (hfg x hx) (by decide)
              · rw [List.mem_singleton] at hx
                subst hx
                exact own_lower (hTh.own hcg (by decide)) (by omega)
            · show (r.l ++ [_]).length = r.n + 1
              rw [List.length_append, hre.l]; rfl
            · show (r.l ++ [_]).map Fi.key = _
              rw [List.map_append, hrk0, hcl h0]
              rfl
        · have e2 : (h1 zs).2 = (rdL (rF zs) i (n1 zs).2).2 := by
            unfold h1
            exact rdL_stop' (rF_stick zs) hE (by omega)
          refine J.exit ?_
          refine ⟨r, At0 , (by (iterate 11 refine Agr.lk rfl ?_); refine Agr.lk rfl ?_; refine Agr.hav rfl ?_; (iterate 1 refine Agr.lk rfl ?_); exact Agr.rfl'), ?_⟩
          rw [e2]
          exact ⟨hR9, hr9, fun h => absurd h hE, hk9, c49⟩
      · obtain rfl : i = k1 := by omega
        have eh1 : h1 zs = rdL (rF zs) i (n1 zs).2 := by unfold h1; rw [ek1]
        rw [← eh1] at hR9 hrk
        refine L.no rfl ?_
        refine L.no rfl ?_
        refine L.no rfl ?_
        refine L.no rfl ?_
        refine L.no rfl ?_
        refine L.va rfl (X.pickF rfl (by conv => lhs; whnf)) ?_
        refine L.nil ?_
        refine J.iteF rfl ?_
        refine J.exit ?_
        refine ⟨r, At0 , (by (iterate 11 refine Agr.lk rfl ?_); refine Agr.lk rfl ?_; refine Agr.hav rfl ?_; (iterate 1 refine Agr.lk rfl ?_); exact Agr.rfl'), ?_⟩
        exact ⟨hR9, hr9, hrk, hk9, c49⟩
  · rintro r g w9 ⟨hR9, hr9, hrk, hk9, c49⟩
    have z9 := c49.size
    have fn2 := n2_fit hz
    have fn2' : (rdU zs 16 (h1 zs).2).1 ≤ 16 := fn2.2.2
    obtain ⟨k2, hk2n⟩ : ∃ k2 : Nat, (rdU zs 16 (h1 zs).2).1 = (k2 : Int) := ⟨_, (Int.toNat_of_nonneg fn2.2.1).symm⟩
    have ek2 : (n2 zs).1.toNat = k2 := by show (rdU zs 16 (h1 zs).2).1.toNat = k2; rw [hk2n]; rfl
    refine J.seq ?_
    refine J.region ?_
    refine L.va rfl (X.move (by conv => lhs; whnf)) ?_
    refine L.call rfl en_111 rfl (hR9.rU 16 (by decide)) ?_
    rintro e wa ⟨rfl, hRa, hca⟩
    refine ⟨_, rfl, ?_⟩
    rw [hk2n]
    have hTa := TCh.one hca hR9.hk
    have hka := hTa.blk hk9 (by decide)
    have hra := hr9.tch hTa (by decide) (by decide)
    have c4a := c49.trans hca (fun _ _ => id)
    refine L.va rfl ((by first | exact X.convI rfl is_90 Try.underlying3 (by omega) | exact X.convw rfl is_90 Try.underlying3)) ?_
    refine L.va rfl (X.assign (by conv => lhs; whnf)) ?_
    refine L.nil ?_
    refine J.seq ?_
    refine J.seq ?_
    refine J.region ?_
    refine L.va rfl (X.assign (by conv => lhs; whnf)) ?_
    refine L.nil ?_
    refine J.block ?_
    refine J.loop (X := Nat × Option Addr × Nat × Nat) [14, 15, 84, 85, 86, 87, 88, 89, 90, 91, 92, 93, 94, 95, 96, 97, 98, 99, 100, 101, 102, 103] (fun (j, A2, q2, c2) => [(14, .int .i64 (j : Int))]) (fun (j, A2, q2, c2) w' => j ≤ k2 ∧ q2 = j ∧ RdB w' bR A n c zs (rdL (rC zs) j (n2 zs).2).2 ∧ FisOwn r w4.heap.size w' ∧ w'.ownsRow w4.heap.size 130 2 (.slice A2 q2 c2) q2 ((rdL (rC zs) j (n2 zs).2).1.flatMap cV) ∧ Blk w' bQ 54 #[.int .u32 (gn : Int), r.val, .slice A2 q2 c2, .slice none 0 0, .int .i64 0] ∧ Chg (· = bR) w4 w') (fun (j, _) => k2 - j) ((0, none, 0, 0)) (At1 (by first | rfl | exact at_int rfl (by omega) | exact at_slice rfl (by omega) | exact at_int rfl (by simp))) ?_ ?_
    · exact ⟨Nat.zero_le _, rfl, hRa, hra, own_nil _ _ _ _, hka, c4a⟩
    · rintro ⟨j, A2, q2, c2⟩ g wb ⟨hj, hq2, hRb, hrb, hob, hkb, c4b⟩
      subst hq2
      have zb := c4b.size
      refine J.seq ?_
      refine J.seq ?_
      refine J.region ?_
      refine L.va rfl (X.move (by conv => lhs; whnf)) ?_
      refine L.va rfl (X.move (by conv => lhs; whnf)) ?_
      refine L.va rfl (X.lss rfl rfl) ?_
      refine L.nil ?_
      refine J.dec rfl (fun hlt => ?_) (fun hlt => ?_)
      · have hjk : q2 < k2 := by omega
        obtain ⟨st, hst⟩ : ∃ st, st = (rdL (rC zs) q2 (n2 zs).2).2 := ⟨_, rfl⟩
        have hnx : rdL (rC zs) (q2 + 1) (n2 zs).2 = ((rdL (rC zs) q2 (n2 zs).2).1 ++ [((rdU zs 2147483647 st).1, (rdU zs 2147483647 (rdU zs 2147483647 st).2).1)], (rdU zs 2147483647 (rdU zs 2147483647 st).2).2) := by rw [hst]; rfl
        obtain ⟨cl, hcl⟩ : ∃ cl, cl = (rdL (rC zs) q2 (n2 zs).2).1 := ⟨_, rfl⟩
        rw [← hst] at hRb
        rw [← hcl] at hob hnx
        have fS := rdU_fit hz 2147483647 (by decide) hRb.hf
        have fS2 := rdU_fit hz 2147483647 (by decide) fS.1
        refine J.skip ?_
        refine J.seq ?_
        refine J.block ?_
        refine J.seq ?_
        refine J.region ?_
        refine L.va rfl (X.move (by conv => lhs; whnf)) ?_
        refine L.va rfl (X.move (by conv => lhs; whnf)) ?_
        refine L.call rfl en_111 rfl (hRb.rU 2147483647 (by decide)) ?_
        rintro e wc ⟨rfl, hRc, hcc⟩
        refine ⟨_, rfl, ?_⟩
        have hTc := TCh.one hcc hRb.hk
        have hkc := hTc.blk hkb (by decide)
        have hrc := hrb.tch hTc (by decide) (by decide)
        have hoc := hTc.own hob (by decide)
        have c4c := c4b.trans hcc (fun _ _ => id)
        have zc := c4c.size
        obtain ⟨v1, hv1⟩ : ∃ v1, v1 = rdU zs 2147483647 st := ⟨_, rfl⟩
        rw [← hv1] at hRc hnx fS fS2 ⊢
        refine L.va rfl ((by first | exact X.convI rfl is_90 Try.underlying3 (by omega) | exact X.convw rfl is_90 Try.underlying3)) ?_
        refine L.va rfl (X.assign (by conv => lhs; whnf)) ?_
        refine L.nil ?_
        refine J.draw (ℓ := 11) (S := (fun w' => Blk w' bQ 54 #[.int .u32 (gn : Int), r.val, .slice A2 q2 c2, .slice none 0 0, .int .i64 0])) mixed (fun wd hSE hS_h => ?_)
        have hS : ((fun w' => Blk w' bQ 54 #[.int .u32 (gn : Int), r.val, .slice A2 q2 c2, .slice none 0 0, .int .i64 0])) wd := (hkc.ext hSE)
        refine D.va 0 rfl (by kernel_rfl) (fun _ _ _ h => h) rfl (fun w' hw => X.fieldAddr rfl Try.underlying54 rfl sz_52 (by decide)) hS ?_
        refine D.va 1 rfl (by kernel_rfl) (fun _ _ _ h => h) rfl (fun w' hw => X.load rfl sc_52 (by first | exact Ld.blk hw rfl)) hS ?_
        refine D.va 2 rfl (by kernel_rfl) (fun _ _ _ h => h) rfl (fun w' hw => X.move (by conv => lhs; whnf)) hS ?_
        refine D.va 3 rfl (by kernel_rfl) (fun _ _ _ h => h) rfl (fun w' hw => X.move (by conv => lhs; whnf)) hS ?_
        refine D.va 4 rfl (by kernel_rfl) (fun _ _ _ h => h) rfl (fun w' hw => X.move (by conv => lhs; whnf)) hS ?_
        have hRd := RdB.ext hRc hSE
        refine D.one 5 (by kernel_rfl) rfl ?_
        refine L.call rfl en_111 rfl (hRd.rU 2147483647 (by decide)) ?_
        rintro e we ⟨rfl, hRe, hce⟩
        refine ⟨_, rfl, ?_⟩
        have hS1 := (TCh.one hce hRd.hk).blk hS (by decide)
        refine L.nil ?_
        refine ⟨fun _ => hS1, ?_⟩
        have hTe := TCh.one hce hRd.hk
        have hoe := hTe.own (World.ownsRow.ext hoc hSE) (by decide)
        have hre := (hrc.ext hSE).tch hTe (by decide) (by decide)
        have c4e := (c4c.trans (Chg.of_ext (S := (· = bR)) hSE) (fun _ _ => id)).trans hce (fun _ _ => id)
        obtain ⟨v2, hv2⟩ : ∃ v2, v2 = rdU zs 2147483647 v1.2 := ⟨_, rfl⟩
        rw [← hv2] at hRe hnx fS2 ⊢
        refine D.va 6 rfl (by kernel_rfl) (fun _ _ _ h => h) rfl (fun w' hw => (by first | exact X.convI rfl is_90 Try.underlying3 (by omega) | exact X.convw rfl is_90 Try.underlying3)) hS1 ?_
        refine D.va 7 rfl (by kernel_rfl) (fun _ _ _ h => h) rfl (fun w' hw => X.build (l := [_, _]) (Evs.cons (by conv => lhs; whnf) (Evs.cons (by conv => lhs; whnf) Evs.nil)) (bld_run Try.underlying130 (bp_130 Try.underlying130) zr_130 rfl)) hS1 ?_
        refine D.one 8 (by kernel_rfl) rfl ?_
        refine L.bslice1 (l := [_, _]) rfl rfl rfl Try.underlying52 sz_130 zr_130 rfl ?_
        intro bB wf hbB hsB hkB heB
        have hS2 := hS1.ext heB
        refine L.nil ?_
        refine ⟨fun _ => hS2, ?_⟩
        have hof := World.ownsRow.ext hoe heB
        have q1 := c4e.size
        have q2' := heB.le
        have hones : ((cV (v1.1, v2.1)).all (·.oneCell')) = true := rfl
        refine D.one 9 (by kernel_rfl) rfl ?_
        refine L.appendV (q := q2 + 1) (ys := cl.flatMap cV ++ cV (v1.1, v2.1)) rfl rfl rfl Try.underlying52 el_130 (hof) (blk_readsN (sz := 2) (q := 1) (l := cV (v1.1, v2.1)) hkB hkB.lt rfl) (by first | rfl | exact strs_ones _ | assumption) (by omega) (by simp) (by unfold maxLen; omega) (by omega) ?_
        intro Ag cg wg hog hgg hbg horg
        have hS3 := (TCh.row hof hgg).blk hS2 (by decide)
        refine L.nil ?_
        refine ⟨fun _ => hS3, ?_⟩
        have hTg := TCh.row hof hgg
        have hRg := (RdB.ext hRe heB).grw hgg (fun g hg => by have := (own_ofT hof hg).2; omega)
        have hrg := (hre.ext heB).tch hTg (by decide) (by decide)
        have c4g := (c4e.trans (Chg.of_ext (S := (· = bR)) heB) (fun _ _ => id)).new hgg (fun g hg => (own_ofT hof hg).2)
        have hkQg := hS3
        refine D.va 10 rfl (by kernel_rfl) (fun _ _ _ h => h) rfl (fun w' hw => X.fieldAddr rfl Try.underlying54 rfl sz_52 (by decide)) hS3 ?_
        refine D.one 11 (by kernel_rfl) rfl ?_
        refine L.store rfl rfl (by conv => lhs; whnf) rfl sz_52 (hkQg) (by first | decide | exact Nat.le_of_ble_eq_true rfl) ?_
        intro wh hkh hgh hsh
        refine L.nil ?_
        refine ⟨fun h => absurd rfl h, ?_⟩
        have hTh := TCh.put hkQg hgh
        have hkh : Blk wh bQ 54 #[.int .u32 (gn : Int), r.val, .slice Ag (q2 + 1) cg, .slice none 0 0, .int .i64 0] := hkh
        refine D.done (by kernel_rfl) ?_
        refine J.region ?_
        refine L.va rfl (X.move (by conv => lhs; whnf)) ?_
        refine L.va rfl (X.add rfl rfl (by omega)) ?_
        refine L.va rfl (X.assign (by conv => lhs; whnf)) ?_
        refine L.nil ?_
        refine ⟨(q2 + 1, Ag, q2 + 1, cg), At1 (by first | rfl | exact at_int rfl (by omega) | exact at_slice rfl (by omega) | exact at_int rfl (by simp)), (by (iterate 22 refine Agr.lk rfl ?_); exact Agr.lk rfl (Agr.hav rfl Agr.rfl')), ?_⟩
        dsimp only
        rw [hnx]
        refine ⟨⟨by omega, rfl, hRg.grw hgh (fun g hg => by injection hg with hg; omega), hrg.tch hTh (by decide) (by decide), ?_, hkh, c4g.new hgh (fun g hg => by injection hg with hg; omega)⟩, by show k2 - (q2 + 1) < k2 - q2; omega⟩
        have := hTh.own hog (by decide)
        simpa using this
      · obtain rfl : q2 = k2 := by omega
        have eh2 : h2 zs = rdL (rC zs) q2 (n2 zs).2 := by unfold h2; rw [ek2]
        rw [← eh2] at hRb hob
        have lh2 : (h2 zs).1.length = q2 := by rw [eh2, rdL_length]
        have fn3 := n3_fit hz
        have fn3' : (rdU zs 8 (h2 zs).2).1 ≤ 8 := fn3.2.2
        obtain ⟨k3, hk3n⟩ : ∃ k3 : Nat, (rdU zs 8 (h2 zs).2).1 = (k3 : Int) := ⟨_, (Int.toNat_of_nonneg fn3.2.1).symm⟩
        have ek3 : (n3 zs).1.toNat = k3 := by show (rdU zs 8 (h2 zs).2).1.toNat = k3; rw [hk3n]; rfl
        refine J.exit ?_
        refine J.seq ?_
        refine J.region ?_
        refine L.va rfl (X.move (by conv => lhs; whnf)) ?_
        refine L.call rfl en_111 rfl (hRb.rU 8 (by decide)) ?_
        rintro e wc ⟨rfl, hRc, hcc⟩
        refine ⟨_, rfl, ?_⟩
        rw [hk3n]
        have hTc := TCh.one hcc hRb.hk
        have hkc := hTc.blk hkb (by decide)
        have hrc := hrb.tch hTc (by decide) (by decide)
        have hoc := hTc.own hob (by decide)
        have c4c := c4b.trans hcc (fun _ _ => id)
        refine L.va rfl ((by first | exact X.convI rfl is_90 Try.underlying3 (by omega) | exact X.convw rfl is_90 Try.underlying3)) ?_
        refine L.va rfl (X.assign (by conv => lhs; whnf)) ?_
        refine L.nil ?_
        refine J.seq ?_
        refine J.seq ?_
        refine J.region ?_
        refine L.va rfl (X.assign (by conv => lhs; whnf)) ?_
        refine L.nil ?_
        refine J.block ?_
        refine J.loop (X := Nat × Option Addr × Nat × Nat) [16, 17, 107, 108, 109, 110, 111, 112, 113, 114, 115, 116, 117, 118, 119, 120, 121, 122, 123, 124, 125] (fun (m, A3, q3, c3) => [(16, .int .i64 (m : Int))]) (fun (m, A3, q3, c3) w' => m ≤ k3 ∧ q3 = m ∧ RdB w' bR A n c zs (rdL (rO zs) m (n3 zs).2).2 ∧ FisOwn r w4.heap.size w' ∧ w'.ownsRow w4.heap.size 130 2 (.slice A2 q2 c2) q2 ((h2 zs).1.flatMap cV) ∧ w'.ownsRow w4.heap.size 98 2 (.slice A3 q3 c3) q3 ((rdL (rO zs) m (n3 zs).2).1.flatMap oV) ∧ Blk w' bQ 54 #[.int .u32 (gn : Int), r.val, .slice A2 q2 c2, .slice A3 q3 c3, .int .i64 0] ∧ Chg (· = bR) w4 w') (fun (m, _) => k3 - m) ((0, none, 0, 0)) (At1 (by first | rfl | exact at_int rfl (by omega) | exact at_slice rfl (by omega) | exact at_int rfl (by simp))) ?_ ?_
        · exact ⟨Nat.zero_le _, rfl, hRc, hrc, hoc, own_nil _ _ _ _, hkc, c4c⟩
        · rintro ⟨m, A3, q3, c3⟩ g wd ⟨hm, hq3, hRd, hrd, hcd, hod, hkd, c4d⟩
          subst hq3
          have zd := c4d.size
          refine J.seq ?_
          refine J.seq ?_
          refine J.region ?_
          refine L.va rfl (X.move (by conv => lhs; whnf)) ?_
          refine L.va rfl (X.move (by conv => lhs; whnf)) ?_
          refine L.va rfl (X.lss rfl rfl) ?_
          refine L.nil ?_
          refine J.dec rfl (fun hlt2 => ?_) (fun hlt2 => ?_)
          · have hmk : q3 < k3 := by omega
            obtain ⟨st, hst⟩ : ∃ st, st = (rdL (rO zs) q3 (n3 zs).2).2 := ⟨_, rfl⟩
            have hnx : rdL (rO zs) (q3 + 1) (n3 zs).2 = ((rdL (rO zs) q3 (n3 zs).2).1 ++ [((rdU zs 2147483647 st).1, decide ((rdU zs 1 (rdU zs 2147483647 st).2).1 = 1))], (rdU zs 1 (rdU zs 2147483647 st).2).2) := by rw [hst]; rfl
            obtain ⟨cl, hcl⟩ : ∃ cl, cl = (rdL (rO zs) q3 (n3 zs).2).1 := ⟨_, rfl⟩
            rw [← hst] at hRd
            rw [← hcl] at hod hnx
            have fS := rdU_fit hz 2147483647 (by decide) hRd.hf
            have fS2 := rdU_fit hz 1 (by decide) fS.1
            refine J.skip ?_
            refine J.seq ?_
            refine J.block ?_
            refine J.seq ?_
            refine J.region ?_
            refine L.va rfl (X.move (by conv => lhs; whnf)) ?_
            refine L.va rfl (X.move (by conv => lhs; whnf)) ?_
            refine L.call rfl en_111 rfl (hRd.rU 2147483647 (by decide)) ?_
            rintro e we ⟨rfl, hRe, hce⟩
            refine ⟨_, rfl, ?_⟩
            have hTe := TCh.one hce hRd.hk
            have hke := hTe.blk hkd (by decide)
            have hre := hrd.tch hTe (by decide) (by decide)
            have hcde := hTe.own hcd (by decide)
            have hoe := hTe.own hod (by decide)
            have c4e := c4d.trans hce (fun _ _ => id)
            have ze := c4e.size
            obtain ⟨v1, hv1⟩ : ∃ v1, v1 = rdU zs 2147483647 st := ⟨_, rfl⟩
            rw [← hv1] at hRe hnx fS fS2 ⊢
            refine L.va rfl ((by first | exact X.convI rfl is_90 Try.underlying3 (by omega) | exact X.convw rfl is_90 Try.underlying3)) ?_
            refine L.va rfl (X.assign (by conv => lhs; whnf)) ?_
            refine L.nil ?_
            refine J.draw (ℓ := 10) (S := (fun w' => Blk w' bQ 54 #[.int .u32 (gn : Int), r.val, .slice A2 q2 c2, .slice A3 q3 c3, .int .i64 0])) mixed (fun wf hSE hS_h => ?_)
            have hS : ((fun w' => Blk w' bQ 54 #[.int .u32 (gn : Int), r.val, .slice A2 q2 c2, .slice A3 q3 c3, .int .i64 0])) wf := (hke.ext hSE)
            refine D.va 0 rfl (by kernel_rfl) (fun _ _ _ h => h) rfl (fun w' hw => X.fieldAddr rfl Try.underlying54 rfl sz_22 (by decide)) hS ?_
            refine D.va 1 rfl (by kernel_rfl) (fun _ _ _ h => h) rfl (fun w' hw => X.load rfl sc_22 (by first | exact Ld.blk hw rfl)) hS ?_
            refine D.va 2 rfl (by kernel_rfl) (fun _ _ _ h => h) rfl (fun w' hw => X.move (by conv => lhs; whnf)) hS ?_
            refine D.va 3 rfl (by kernel_rfl) (fun _ _ _ h => h) rfl (fun w' hw => X.move (by conv => lhs; whnf)) hS ?_
            have hRf := RdB.ext hRe hSE
            refine D.one 4 (by kernel_rfl) rfl ?_
            refine L.call rfl en_111 rfl (hRf.rU 1 (by decide)) ?_
            rintro e wg ⟨rfl, hRg, hcg⟩
            refine ⟨_, rfl, ?_⟩
            have hS1 := (TCh.one hcg hRf.hk).blk hS (by decide)
            refine L.nil ?_
            refine ⟨fun _ => hS1, ?_⟩
            have hTg := TCh.one hcg hRf.hk
            have hog := hTg.own (World.ownsRow.ext hoe hSE) (by decide)
            have hcdg := hTg.own (World.ownsRow.ext hcde hSE) (by decide)
            have hrg := (hre.ext hSE).tch hTg (by decide) (by decide)
            have c4g := (c4e.trans (Chg.of_ext (S := (· = bR)) hSE) (fun _ _ => id)).trans hcg (fun _ _ => id)
            obtain ⟨v2, hv2⟩ : ∃ v2, v2 = rdU zs 1 v1.2 := ⟨_, rfl⟩
            rw [← hv2] at hRg hnx fS2 ⊢
            refine D.va 5 rfl (by kernel_rfl) (fun _ _ _ h => h) rfl (fun w' hw => X.eql rfl rfl) hS1 ?_
            refine D.va 6 rfl (by kernel_rfl) (fun _ _ _ h => h) rfl (fun w' hw => X.build (l := [_, _]) (Evs.cons (by conv => lhs; whnf) (Evs.cons (by conv => lhs; whnf) Evs.nil)) (bld_run Try.underlying98 (bp_98 Try.underlying98) zr_98 rfl)) hS1 ?_
            refine D.one 7 (by kernel_rfl) rfl ?_
            refine L.bslice1 (l := [_, _]) rfl rfl rfl Try.underlying22 sz_98 zr_98 rfl ?_
            intro bB wh hbB hsB hkB heB
            have hS2 := hS1.ext heB
            refine L.nil ?_
            refine ⟨fun _ => hS2, ?_⟩
            have hoh := World.ownsRow.ext hog heB
            have q1 := c4g.size
            have q2' := heB.le
            have hones : ((oV (v1.1, decide (v2.1 = 1))).all (·.oneCell')) = true := rfl
            refine D.one 8 (by kernel_rfl) rfl ?_
            refine L.appendV (q := q3 + 1) (ys := cl.flatMap oV ++ oV (v1.1, decide (v2.1 = 1))) rfl rfl rfl Try.underlying22 el_98 (hoh) (blk_readsN (sz := 2) (q := 1) (l := oV (v1.1, decide (v2.1 = 1))) hkB hkB.lt rfl) (by first | rfl | exact strs_ones _ | assumption) (by omega) (by simp) (by unfold maxLen; omega) (by omega) ?_
            intro Ai ci wi hoi hgi hbi hori
            have hS3 := (TCh.row hoh hgi).blk hS2 (by decide)
            refine L.nil ?_
            refine ⟨fun _ => hS3, ?_⟩
            have hTi := TCh.row hoh hgi
            have hRi := (RdB.ext hRg heB).grw hgi (fun g hg => by have := (own_ofT hoh hg).2; omega)
            have hri := (hrg.ext heB).tch hTi (by decide) (by decide)
            have hcdi := hTi.own (World.ownsRow.ext hcdg heB) (by decide)
            have c4i := (c4g.trans (Chg.of_ext (S := (· = bR)) heB) (fun _ _ => id)).new hgi (fun g hg => (own_ofT hoh hg).2)
            have hkQi := hS3
            refine D.va 9 rfl (by kernel_rfl) (fun _ _ _ h => h) rfl (fun w' hw => X.fieldAddr rfl Try.underlying54 rfl sz_22 (by decide)) hS3 ?_
            refine D.one 10 (by kernel_rfl) rfl ?_
            refine L.store rfl rfl (by conv => lhs; whnf) rfl sz_22 (hkQi) (by first | decide | exact Nat.le_of_ble_eq_true rfl) ?_
            intro wj hkj hgj hsj
            refine L.nil ?_
            refine ⟨fun h => absurd rfl h, ?_⟩
            have hTj := TCh.put hkQi hgj
            have hkj : Blk wj bQ 54 #[.int .u32 (gn : Int), r.val, .slice A2 q2 c2, .slice Ai (q3 + 1) ci, .int .i64 0] := hkj
            refine D.done (by kernel_rfl) ?_
            refine J.region ?_
            refine L.va rfl (X.move (by conv => lhs; whnf)) ?_
            refine L.va rfl (X.add rfl rfl (by omega)) ?_
            refine L.va rfl (X.assign (by conv => lhs; whnf)) ?_
            refine L.nil ?_
            refine ⟨(q3 + 1, Ai, q3 + 1, ci), At1 (by first | rfl | exact at_int rfl (by omega) | exact at_slice rfl (by omega) | exact at_int rfl (by simp)), (by (iterate 21 refine Agr.lk rfl ?_); exact Agr.lk rfl (Agr.hav rfl Agr.rfl')), ?_⟩
            dsimp only
            rw [hnx]
            refine ⟨⟨by omega, rfl, hRi.grw hgj (fun g hg => by injection hg with hg; omega), hri.tch hTj (by decide) (by decide), hTj.own hcdi (by decide), ?_, hkj, c4i.new hgj (fun g hg => by injection hg with hg; omega)⟩, by show k3 - (q3 + 1) < k3 - q3; omega⟩
            have := hTj.own hoi (by decide)
            simpa using this
          · obtain rfl : q3 = k3 := by omega
            have eh3 : h3 zs = rdL (rO zs) q3 (n3 zs).2 := by unfold h3; rw [ek3]
            rw [← eh3] at hRd hod
            have lh3 : (h3 zs).1.length = q3 := by rw [eh3, rdL_length]
            have fn4 := h4_fit hz
            have fn4' : 0 ≤ (rdU zs 9223372036854775807 (h3 zs).2).1 ∧ (rdU zs 9223372036854775807 (h3 zs).2).1 ≤ 9223372036854775807 := fn4.2
            refine J.exit ?_
            refine J.seq ?_
            refine J.region ?_
            refine L.va rfl (X.move (by conv => lhs; whnf)) ?_
            refine L.call rfl en_111 rfl (hRd.rU 9223372036854775807 (by decide)) ?_
            rintro e we ⟨rfl, hRe, hce⟩
            refine ⟨_, rfl, ?_⟩
            have hTe := TCh.one hce hRd.hk
            have hke := hTe.blk hkd (by decide)
            have hre := hrd.tch hTe (by decide) (by decide)
            have hcde := hTe.own hcd (by decide)
            have hoe := hTe.own hod (by decide)
            have c4e := c4d.trans hce (fun _ _ => id)
            refine L.va rfl ((by first | exact X.convI rfl is_90 Try.underlying3 (by omega) | exact X.convw rfl is_90 Try.underlying3)) ?_
            refine L.va rfl (X.fieldAddr rfl Try.underlying54 rfl sz_3 (by decide)) ?_
            refine L.store rfl rfl (by conv => lhs; whnf) rfl sz_3 (hke) (by first | decide | exact Nat.le_of_ble_eq_true rfl) ?_
            intro wf hkf hgf hsf
            have hTf := TCh.put hke hgf
            have hkf : Blk wf bQ 54 #[.int .u32 (gn : Int), r.val, .slice A2 q2 c2, .slice A3 q3 c3, .int .i64 (h4 zs).1] := hkf
            have hRf : RdB wf bR A n c zs (h4 zs).2 := hRe.grw hgf (fun g hg => by injection hg with hg; omega)
            have hrf := hre.tch hTf (by decide) (by decide)
            have hcdf := hTf.own hcde (by decide)
            have hof := hTf.own hoe (by decide)
            have c4f := c4e.new hgf (fun g hg => by injection hg with hg; omega)
            refine L.nil ?_
            refine J.seq ?_
            refine J.seq ?_
            refine J.region ?_
            refine L.va rfl (X.move (by conv => lhs; whnf)) ?_
            refine L.call rfl en_112 rfl (hRf.End) ?_
            rintro e wg ⟨rfl, hRg, hcg⟩
            refine ⟨_, rfl, ?_⟩
            have hTg := TCh.one hcg hRf.hk
            have hkg := hTg.blk hkf (by decide)
            have c4g := c4f.trans hcg (fun _ _ => id)
            have Q : QuOwn ⟨gn, r, A2, q2, c2, (h2 zs).1, A3, q3, c3, (h3 zs).1, (h4 zs).1⟩ w4.heap.size wg := ⟨by show gn < 4294967296; omega, hrf.tch hTg (by decide) (by decide), hTg.own hcdf (by decide), lh2, hTg.own hof (by decide), lh3⟩
            obtain ⟨a, ha⟩ : ∃ a : Qu, a = ⟨gn, r, A2, q2, c2, (h2 zs).1, A3, q3, c3, (h3 zs).1, (h4 zs).1⟩ := ⟨_, rfl⟩
            rw [← ha] at Q
            have hkg : Blk wg bQ 54 a.vs.toArray := by rw [ha]; exact hkg
            have hk1g := c4g.blk hk14 hd1
            have hk2g := c4g.blk hk24 hd2
            have x4g : Ext w3 wg := heR.low (c4g.below (by omega : w3.heap.size ≤ w4.heap.size) (fun g hg => by omega)) (Nat.le_refl _)
            have he0g := he03.trans x4g
            have zg := he0g.le
            refine L.va rfl (X.neq rfl rfl) ?_
            refine L.nil ?_
            refine J.ndec rfl (fun hE => ?_) (fun hE => ?_)
            · have hE : rdE zs (h4 zs).2 ≠ 0 := hE
              have hRk := hRg.hk
              refine J.seq ?_
              refine J.draw (ℓ := 1000000) (S := (fun w' => Blk w' bR 159 #[.slice A n c, .int .i64 (((h4 zs).2.1 : Nat) : Int), .int .i64 (rdE zs (h4 zs).2)])) mixed (fun wh hSE hS_h => ?_)
              have hS : ((fun w' => Blk w' bR 159 #[.slice A n c, .int .i64 (((h4 zs).2.1 : Nat) : Int), .int .i64 (rdE zs (h4 zs).2)])) wh := (hRk.ext hSE)
              refine D.va 0 rfl (by kernel_rfl) (fun _ _ _ h => h) rfl (fun w' hw => X.build (l := [_, _, _, _, _]) Evs.nil (bld_run Try.underlying54 (bp_54 Try.underlying54) zr_54 rfl)) hS ?_
              refine D.va 1 rfl (by kernel_rfl) (fun _ _ _ h => h) rfl (fun w' hw => X.move (by conv => lhs; whnf)) hS ?_
              refine D.va 2 rfl (by kernel_rfl) (fun _ _ _ h => h) rfl (fun w' hw => X.nilCheck rfl) hS ?_
              refine D.va 3 rfl (by kernel_rfl) (fun _ _ _ h => h) rfl (fun w' hw => X.fieldAddr rfl Try.underlying159 rfl sz_3 (by decide)) hS ?_
              refine D.va 4 rfl (by kernel_rfl) (fun _ _ _ h => h) rfl (fun w' hw => X.load rfl sc_3 (by first | exact Ld.blk hw rfl)) hS ?_
              refine D.one 5 (by kernel_rfl) rfl ?_
              refine L.storeAgg (vs := [_, _, _, _, _]) rfl rfl rfl rfl sz_54 ((hk2g.ext hSE)) rfl ?_
              intro wi hki hgi hsi
              have hS1 := (TCh.put (hk2g.ext hSE) hgi).blk hS (by decide)
              refine L.nil ?_
              refine ⟨fun _ => hS1, ?_⟩
              refine D.va 6 rfl (by kernel_rfl) (fun _ _ _ h => h) rfl (fun w' hw => X.assign (by conv => lhs; whnf)) hS1 ?_
              refine D.done (by kernel_rfl) ?_
              refine J.ret ?_
              refine thn_ret <| ?_
              refine finCT rfl (run_cell hki Try.underlying54 rfl (by kernel_rfl)) ?_
              exact ⟨q0, _, rfl, q0_at, ⟨fun h => absurd hs0 h, fun _ _ => ⟨rfl, rfl⟩, fun _ h => absurd h hE⟩, (he0g.trans hSE).grw hgi (fun g hg => by injection hg with hg; omega)⟩
            · have hE : rdE zs (h4 zs).2 = 0 := by simpa using hE
              have hf0 : (h4 zs).2.2 = 0 := by
                have h2 := hE
                unfold rdE at h2
                split at h2
                · cases h2
                · exact h2
              have hf1 : (h1 zs).2.2 = 0 := Decidable.byContradiction fun h => h (by have := h4_of1 h; rw [← this]; exact hf0)
              have hS : Says a (qg zs) := by rw [ha]; exact ⟨hgn.symm, hrk hf1, rfl, rfl, rfl⟩
              refine J.skip ?_
              refine J.seq ?_
              refine J.seq ?_
              refine J.region ?_
              refine L.va rfl ((by first | exact X.loadAgg rfl (range_l hkg) Try.underlying49 rfl (by kernel_rfl) | exact X.loadAgg rfl (range_blk hkg) Try.underlying49 rfl (by kernel_rfl) | exact X.loadAgg rfl (range_l hk1g) Try.underlying49 rfl (by kernel_rfl) | exact X.loadAgg rfl (range_blk hk1g) Try.underlying49 rfl (by kernel_rfl))) ?_
              refine L.va rfl ((by first | exact X.loadAgg rfl (range_l hkg) Try.underlying54 rfl (by kernel_rfl) | exact X.loadAgg rfl (range_blk hkg) Try.underlying54 rfl (by kernel_rfl) | exact X.loadAgg rfl (range_l hk1g) Try.underlying54 rfl (by kernel_rfl) | exact X.loadAgg rfl (range_blk hk1g) Try.underlying54 rfl (by kernel_rfl))) ?_
              refine L.call rfl en_36 rfl (rqcheck (H.ext he0g) Q.at) ?_
              rintro e wh ⟨rfl, heh⟩
              refine ⟨_, rfl, ?_⟩
              have hk2h := hk2g.ext heh
              have he0h := he0g.trans heh
              have Qh := Q.ext heh
              have zh := heh.le
              replace hkg := hkg.ext heh
              replace hk1g := hk1g.ext heh
              refine L.va rfl (X.assign (by conv => lhs; whnf)) ?_
              refine L.nil ?_
              refine J.seq ?_
              refine J.region ?_
              refine L.va rfl (X.move (by conv => lhs; whnf)) ?_
              refine L.va rfl (X.neq rfl rfl) ?_
              refine L.nil ?_
              refine J.ndec rfl (fun hq => ?_) (fun hq => ?_)
              · skip
                refine J.seq ?_
                refine J.region ?_
                refine L.va rfl (X.build (l := [_, _, _, _, _]) Evs.nil (bld_run Try.underlying54 (bp_54 Try.underlying54) zr_54 rfl)) ?_
                refine L.va rfl (X.move (by conv => lhs; whnf)) ?_
                refine L.storeAgg (vs := [_, _, _, _, _]) rfl rfl rfl rfl sz_54 (hk2h) rfl ?_
                intro wi hki hgi hsi
                refine L.va rfl (X.assign (by conv => lhs; whnf)) ?_
                refine L.nil ?_
                refine J.ret ?_
                refine thn_ret <| ?_
                refine finCT rfl (run_cell hki Try.underlying54 rfl (by kernel_rfl)) ?_
                exact ⟨q0, qcode s a, rfl, q0_at, ⟨fun h => absurd hs0 h, fun _ h => absurd hE h, fun _ _ => ⟨a, hS, ⟨_, _, Q.at⟩, rfl, fun _ => rfl, fun h => absurd h hq⟩⟩, he0h.grw hgi (fun g hg => by injection hg with hg; omega)⟩
              · have hq : qcode s a = 0 := by simpa using hq
                refine J.skip ?_
                refine J.seq ?_
                refine J.region ?_
                refine L.va rfl ((by first | exact X.loadAgg rfl (range_l hkg) Try.underlying54 rfl (by kernel_rfl) | exact X.loadAgg rfl (range_blk hkg) Try.underlying54 rfl (by kernel_rfl))) ?_
                refine L.storeAgg (vs := [_, _, _, _, _]) rfl rfl rfl rfl sz_54 (hk2h) rfl ?_
                intro wi hki hgi hsi
                have hTi := TCh.put hk2h hgi
                refine L.va rfl (X.assign (by conv => lhs; whnf)) ?_
                refine L.nil ?_
                refine J.ret ?_
                refine finCT rfl (run_cell hki Try.underlying54 rfl (by kernel_rfl)) ?_
                exact ⟨a, 0, rfl, (Qh.tch hTi (by decide) (by decide) (by decide) (by decide)).at, ⟨fun h => absurd hs0 h, fun _ h => absurd hE h, fun _ _ => ⟨a, hS, ⟨_, _, Q.at⟩, hq.symm, fun h => absurd rfl h, fun _ => rfl⟩⟩, he0h.grw hgi (fun g hg => by injection hg with hg; omega)⟩
end Go.Proofs.Ytlipeplfjkgamaa
