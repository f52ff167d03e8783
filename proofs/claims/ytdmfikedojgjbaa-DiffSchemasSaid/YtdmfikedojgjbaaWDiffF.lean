/-
  The reference's lacks: what one schema holds and the other doesn't.
-/
import Derived.Test.YtdmfikedojgjbaaWDiffD
import Derived.Test.YtdmfikedojgjbaaWDiffE
namespace Go.Proofs.Ytdmfikedojgjbaa
set_option maxRecDepth 100000
open Go.RowKit H
set_option linter.unusedVariables false
def lackL (p : ByteArray) (ns q : List ByteArray) : List ByteArray := (ns.filter (fun x => !among q x)).map (p ++ ·)
theorem lackL_next {p : ByteArray} {ns q : List ByteArray} {i : Nat} (h : i < ns.length) : lackL p (ns.take (i + 1)) q = lackL p (ns.take i) q ++ (if among q (ns.getD i be0) then [] else [p ++ ns.getD i be0]) := by
  rw [take_nextS h]
  unfold lackL
  rw [List.filter_append, List.map_append]
  congr 1
  generalize ns.getD i be0 = x
  cases h : among q x <;> simp [h]
theorem lackL_len {p : ByteArray} {ns q : List ByteArray} : (lackL p ns q).length ≤ ns.length := by
  unfold lackL
  rw [List.length_map]
  exact List.length_filter_le _ _
theorem dn_getD {ds : List (ByteArray × Int)} {i : Nat} (h : i < ds.length) : (ds.map (·.1)).getD i be0 = (ds.getD i d0).1 := by
  simp [List.getD, h]
namespace Sch
/-- names of a bounded length -/
def Short (s : Sch) : Prop := ∀ x ∈ nmL s.ds s.s1 s.s2, x.size ≤ 1000
def lackR (p : ByteArray) (s t : Sch) : List ByteArray := lackL p (s.ds.map (·.1)) (t.ds.map (·.1)) ++ lackL p s.s1 t.s1 ++ lackL p s.s2 t.s2
theorem lackF (p : ByteArray) (ns q B : List ByteArray) : ∃ LA : Nat → List ByteArray, LA 0 = B ∧ (∀ i, i < ns.length → LA (i + 1) = LA i ++ (if among q (ns.getD i be0) then [] else [p ++ ns.getD i be0])) ∧ LA ns.length = B ++ lackL p ns q ∧ ∀ i, (LA i).length ≤ B.length + ns.length := by
  refine ⟨fun i => B ++ lackL p (ns.take i) q, by simp [lackL], fun i hi => ?_, by simp, fun i => ?_⟩
  · dsimp only
    rw [lackL_next hi, List.append_assoc]
  · dsimp only
    rw [List.length_append]
    have := @lackL_len p (ns.take i) q
    rw [List.length_take] at this
    omega
theorem Here.lacks {s t : Sch} {w : World} (h : s.Here w) (k : t.Here w) (hS : s.Short) (p : ByteArray) (hp : p.size ≤ 1000) : Calls Try.prog 88 #[.string p, s.val, t.val] w fun e w' => ∃ A c, e = .returned (.slice A (lackR p s t).length c) ∧ w'.ownsRow w.heap.size 9 1 (.slice A (lackR p s t).length c) (lackR p s t).length (strs (lackR p s t)) ∧ Ext w w' := by
  have q1 := h.hle
  have l1 := h.len
  have l2 := h.len1
  have l3 := h.len2
  obtain ⟨LA, va0, vas, van, val⟩ := lackF p (s.ds.map (·.1)) (t.ds.map (·.1)) []
  obtain ⟨LB, vb0, vbs, vbn, vbl⟩ := lackF p s.s1 t.s1 (LA s.nd)
  obtain ⟨LC, vc0, vcs, vcn, vcl⟩ := lackF p s.s2 t.s2 (LB s.n1)
  have ldm : (s.ds.map (·.1)).length = s.nd := by simp [l1]
  rw [ldm] at vas van val
  rw [l2] at vbs vbn vbl
  rw [l3] at vcs vcn vcl
  have val' := val s.nd
  have vbl' := vbl s.n1
  have el : ([] : List ByteArray).length = 0 := rfl
  have hfin : LC s.n2 = lackR p s t := by rw [vcn, vbn, van]; simp [lackR]
  refine enter Try.func88 rfl (by kernel_rfl) ?_
  refine J.seq ?_
  refine J.region ?_
  -- box
  refine L.boxA (l := [_, _, _, _]) rfl rfl ?_
  intro b1 w1 hb1 hs1 hk1 he1
  -- box
  refine L.boxA (l := [_, _, _, _]) rfl rfl ?_
  intro b2 w2 hb2 hs2 hk2 he2
  have gk1 := hk1.ext he2
  have gk2 := hk2
  have he02 := he1.trans he2
  have hz02 := he02.le
  have hs2 := h.ext he02
  have ht2 := k.ext he02
  refine L.va rfl (X.assign (by conv => lhs; whnf)) ?_
  refine L.nil ?_
  refine J.seq ?_
  refine J.region ?_
  refine L.va rfl (X.assign (by conv => lhs; whnf)) ?_
  refine L.nil ?_
  refine J.seq ?_
  refine J.seq ?_
  refine J.region ?_
  refine L.va rfl (X.assign (by conv => lhs; whnf)) ?_
  refine L.nil ?_
  refine J.block ?_
  -- loop
  refine J.loop (X := Nat × Option Addr × Nat × Nat) [7, 8, 11, 12, 13, 14, 15, 16, 17, 18, 19, 20, 21, 22, 23, 24, 25, 26, 27, 28, 29, 30, 31, 32, 33, 34, 35, 36, 37] (fun x => [(8, .int .i64 (x.1 : Int)), (7, .slice x.2.1 x.2.2.1 x.2.2.2)]) (fun x w' => x.1 ≤ s.nd ∧ x.2.2.1 = (LA x.1).length ∧ w'.ownsRow w2.heap.size 9 1 (.slice x.2.1 x.2.2.1 x.2.2.2) x.2.2.1 (strs (LA x.1)) ∧ Ext w2 w') (fun x => s.nd - x.1) ((0, none, 0, 0)) (At2 (by first | rfl | exact at_int rfl (by omega) | exact at_slice rfl (by omega) | exact at_int rfl (by simp)) (by first | rfl | exact at_int rfl (by omega) | exact at_slice rfl (by omega) | exact at_int rfl (by simp))) ?_ ?_
  · refine ⟨by dsimp only; omega, by dsimp only; rw [va0]; rfl, ?_, Ext.refl _⟩
    dsimp only
    rw [va0]
    exact own_nil _ _ _ _
  · rintro ⟨i, A, m, c⟩ g w3 ⟨hi, hm, ho, he⟩
    dsimp only at hi hm ho he
    have z1 : ((i, A, m, c) : Nat × Option Addr × Nat × Nat).1 = i := rfl
    have z2 : ((i, A, m, c) : Nat × Option Addr × Nat × Nat).2.2.1 = m := rfl
    have j1 := gk1.ext he
    have j2 := gk2.ext he
    have hs3 := hs2.ext he
    have ht3 := ht2.ext he
    have d1 := hs3.hd
    have al1 := val i
    refine J.seq ?_
    refine J.seq ?_
    refine J.region ?_
    refine L.va rfl (X.move (by conv => lhs; whnf)) ?_
    refine L.va rfl (X.fieldAddr rfl Try.underlying97 rfl sz_93 (by decide)) ?_
    refine L.va rfl (X.load rfl sc_93 (by first | exact Ld.blk j1 rfl | exact Ld.blk j2 rfl | exact Ld.dimS d1 (by omega) | exact Ld.dimN d1 (by omega))) ?_
    refine L.va rfl (X.len rfl Try.underlying93) ?_
    refine L.va rfl (X.lss rfl rfl) ?_
    refine L.nil ?_
    -- cond
    refine J.dec rfl (fun hlt => ?_) (fun hlt => ?_)
    · have hil : i < s.ds.length := by rw [l1]; dsimp only at hlt; omega
      have hxs : ((s.ds.getD i d0).1).size ≤ 1000 := hS _ (by exact List.mem_append_left _ (List.mem_append_left _ (dmem hil)))
      have hxs' : ((s.ds.getD ((i, A, m, c) : Nat × Option Addr × Nat × Nat).1 d0).1).size ≤ 1000 := hxs
      have hst := vas i (by omega)
      rw [dn_getD hil] at hst
      refine J.skip ?_
      refine J.seq ?_
      refine J.block ?_
      refine J.seq ?_
      -- draw
      refine J.quiet mixed (by kernel_rfl) ?_
      refine Qt.va rfl (fun w' hw => (by first | exact X.loadAgg rfl (range_l (j1.ext hw)) Try.underlying97 rfl (by kernel_rfl) | exact X.loadAgg rfl (range_blk (j1.ext hw)) Try.underlying97 rfl (by kernel_rfl) | exact X.loadAgg rfl (range_l (j2.ext hw)) Try.underlying97 rfl (by kernel_rfl) | exact X.loadAgg rfl (range_blk (j2.ext hw)) Try.underlying97 rfl (by kernel_rfl))) ?_
      refine Qt.va rfl (fun w' hw => X.fieldAddr rfl Try.underlying97 rfl sz_93 (by decide)) ?_
      refine Qt.va rfl (fun w' hw => X.load rfl sc_93 (by first | exact Ld.blk (j1.ext hw) rfl | exact Ld.blk (j2.ext hw) rfl | exact Ld.dimS (d1.ext hw) (by omega) | exact Ld.dimN (d1.ext hw) (by omega))) ?_
      refine Qt.va rfl (fun w' hw => X.move (by conv => lhs; whnf)) ?_
      refine Qt.va rfl (fun w' hw => (by first | exact X.indexAddrn rfl rfl Try.underlying93 sz_151 (by first | exact Option.some_ne_none _ | exact d1.some_ (by omega)) (by omega) | exact X.indexAddr rfl rfl Try.underlying93 sz_151 (by first | exact Option.some_ne_none _ | exact d1.some_ (by omega)) (by omega))) ?_
      refine Qt.va rfl (fun w' hw => X.fieldP rfl Try.underlying151 rfl sz_9 (by decide) (by first | exact Option.some_ne_none _ | exact d1.some_ (by omega))) ?_
      refine Qt.va rfl (fun w' hw => X.load rfl sc_9 (by first | exact Ld.blk (j1.ext hw) rfl | exact Ld.blk (j2.ext hw) rfl | exact Ld.dimS (d1.ext hw) (by omega) | exact Ld.dimN (d1.ext hw) (by omega))) ?_
      -- callfn bushel/bushelref43.kind
      refine Qt.call rfl en_121 rfl (fun w' hw => calls_ext hw ((ht3.ext hw).kind1 ((s.ds.getD i d0).1))) ?_
      refine Qt.va rfl (fun w' hw => X.not rfl) ?_
      refine Qt.nil (fun w4 hq => ?_)
      replace j1 := j1.ext hq
      replace j2 := j2.ext hq
      replace d1 := d1.ext hq
      -- cond
      cases hin : among (t.ds.map (·.1)) ((s.ds.getD i d0).1)
      · refine J.iteT rfl ?_
        refine J.region ?_
        refine L.va rfl (X.move (by conv => lhs; whnf)) ?_
        refine L.va rfl (X.move (by conv => lhs; whnf)) ?_
        refine L.va rfl (X.fieldAddr rfl Try.underlying97 rfl sz_93 (by decide)) ?_
        refine L.va rfl (X.load rfl sc_93 (by first | exact Ld.blk j1 rfl | exact Ld.blk j2 rfl | exact Ld.dimS d1 (by omega) | exact Ld.dimN d1 (by omega))) ?_
        refine L.va rfl (X.move (by conv => lhs; whnf)) ?_
        refine L.va rfl ((by first | exact X.indexAddrn rfl rfl Try.underlying93 sz_151 (by first | exact Option.some_ne_none _ | exact d1.some_ (by omega)) (by omega) | exact X.indexAddr rfl rfl Try.underlying93 sz_151 (by first | exact Option.some_ne_none _ | exact d1.some_ (by omega)) (by omega))) ?_
        refine L.va rfl (X.fieldP rfl Try.underlying151 rfl sz_9 (by decide) (by first | exact Option.some_ne_none _ | exact d1.some_ (by omega))) ?_
        refine L.va rfl (X.load rfl sc_9 (by first | exact Ld.blk j1 rfl | exact Ld.blk j2 rfl | exact Ld.dimS d1 (by omega) | exact Ld.dimN d1 (by omega))) ?_
        refine L.va rfl (X.addS rfl rfl (by omega)) ?_
        -- buildSlice
        refine L.bslice (vs := [_]) rfl (Evs.cons (by conv => lhs; whnf) Evs.nil) rfl rfl rfl rfl Try.underlying94 sz_9 zr_9 (by decide) ?_
        intro b5 w5 hb5 hs5 hk5 he5
        rw [hin] at hst
        have hst : LA (i + 1) = LA i ++ [p ++ (s.ds.getD i d0).1] := hst
        -- append
        have hzz : w2.heap.size ≤ w5.heap.size := ((he.trans hq).trans he5).le
        refine L.appendV (q := m + 1) (ys := strs (LA i) ++ strs [p ++ (s.ds.getD i d0).1]) rfl rfl rfl Try.underlying94 el_9 (ho.ext (hq.trans he5)) ((blk_reads (q := 1) (l := strs [p ++ (s.ds.getD i d0).1]) hk5 (by omega : b5 < w5.heap.size) rfl)) (by first | rfl | exact strs_ones _ | assumption) (by omega) (by simp) (by unfold maxLen; omega) (by omega) ?_
        intro A6 c6 w6 ho6 hg6 hb6 hor6
        rw [strs_append, ← hst] at ho6
        have he6 : Ext w2 w6 := ((he.trans hq).trans he5).low hb6 (Nat.le_refl _)
        refine L.va rfl (X.assign (by conv => lhs; whnf)) ?_
        refine L.nil ?_
        refine J.region ?_
        refine L.va rfl (X.move (by conv => lhs; whnf)) ?_
        refine L.va rfl (X.add rfl rfl (by omega)) ?_
        refine L.va rfl (X.assign (by conv => lhs; whnf)) ?_
        refine L.nil ?_
        -- loopend
        refine ⟨(i + 1, A6, m + 1, c6), At2 (by first | rfl | exact at_int rfl (by omega) | exact at_slice rfl (by omega) | exact at_int rfl (by simp)) (by first | rfl | exact at_int rfl (by omega) | exact at_slice rfl (by omega) | exact at_int rfl (by simp)), (by (iterate 29 refine Agr.lk rfl ?_); exact Agr.lk rfl (Agr.hav rfl Agr.rfl')), ?_⟩
        exact ⟨⟨by dsimp only; omega, by dsimp only; rw [hst, List.length_append, ← hm]; rfl, ho6, he6⟩, by dsimp only; omega⟩
      · refine J.iteF rfl ?_
        rw [hin] at hst
        have hst : LA (i + 1) = LA i := by rw [hst]; exact List.append_nil _
        refine J.skip ?_
        refine J.region ?_
        refine L.va rfl (X.move (by conv => lhs; whnf)) ?_
        refine L.va rfl (X.add rfl rfl (by omega)) ?_
        refine L.va rfl (X.assign (by conv => lhs; whnf)) ?_
        refine L.nil ?_
        -- loopend
        refine ⟨(i + 1, A, m, c), At2 (by first | rfl | exact at_int rfl (by omega) | exact at_slice rfl (by omega) | exact at_int rfl (by simp)) (by first | rfl | exact at_int rfl (by omega) | exact at_slice rfl (by omega) | exact at_int rfl (by simp)), (by (iterate 17 refine Agr.lk rfl ?_); exact Agr.lk rfl (Agr.hav rfl Agr.rfl')), ?_⟩
        exact ⟨⟨by dsimp only; omega, by dsimp only; rw [hst]; exact hm, by dsimp only; rw [hst]; exact ho.ext hq, he.trans hq⟩, by dsimp only; omega⟩
    · obtain rfl : i = s.nd := by dsimp only at hlt; omega
      refine J.exit ?_
      refine J.seq ?_
      refine J.seq ?_
      refine J.region ?_
      refine L.va rfl (X.assign (by conv => lhs; whnf)) ?_
      refine L.nil ?_
      refine J.block ?_
      -- loop
      refine J.loop (X := Nat × Option Addr × Nat × Nat) [7, 9, 38, 39, 40, 41, 42, 43, 44, 45, 46, 47, 48, 49, 50, 51, 52, 53, 54, 55, 56, 57, 58, 59, 60, 61, 62] (fun x => [(9, .int .i64 (x.1 : Int)), (7, .slice x.2.1 x.2.2.1 x.2.2.2)]) (fun x w' => x.1 ≤ s.n1 ∧ x.2.2.1 = (LB x.1).length ∧ w'.ownsRow w2.heap.size 9 1 (.slice x.2.1 x.2.2.1 x.2.2.2) x.2.2.1 (strs (LB x.1)) ∧ Ext w2 w') (fun x => s.n1 - x.1) ((0, A, m, c)) (At2 (by first | rfl | exact at_int rfl (by omega) | exact at_slice rfl (by omega) | exact at_int rfl (by simp)) (by first | rfl | exact at_int rfl (by omega) | exact at_slice rfl (by omega) | exact at_int rfl (by simp))) ?_ ?_
      · refine ⟨by dsimp only; omega, by dsimp only; rw [vb0]; exact hm, ?_, he⟩
        dsimp only
        rw [vb0]
        exact ho
      · rintro ⟨i, A, m, c⟩ g w3 ⟨hi, hm, ho, he⟩
        dsimp only at hi hm ho he
        have z1 : ((i, A, m, c) : Nat × Option Addr × Nat × Nat).1 = i := rfl
        have z2 : ((i, A, m, c) : Nat × Option Addr × Nat × Nat).2.2.1 = m := rfl
        have j1 := gk1.ext he
        have j2 := gk2.ext he
        have hs3 := hs2.ext he
        have ht3 := ht2.ext he
        have d1 := hs3.h1
        have al1 := vbl i
        refine J.seq ?_
        refine J.seq ?_
        refine J.region ?_
        refine L.va rfl (X.move (by conv => lhs; whnf)) ?_
        refine L.va rfl (X.fieldAddr rfl Try.underlying97 rfl sz_94 (by decide)) ?_
        refine L.va rfl (X.load rfl sc_94 (by first | exact Ld.blk j1 rfl | exact Ld.blk j2 rfl | exact Ld.str d1 (by omega))) ?_
        refine L.va rfl (X.len rfl Try.underlying94) ?_
        refine L.va rfl (X.lss rfl rfl) ?_
        refine L.nil ?_
        -- cond
        refine J.dec rfl (fun hlt => ?_) (fun hlt => ?_)
        · have hil : i < s.s1.length := by rw [l2]; dsimp only at hlt; omega
          have hxs : (s.s1.getD i be0).size ≤ 1000 := hS _ (by exact List.mem_append_left _ (List.mem_append_right _ (mem_at hil)))
          have hxs' : (s.s1.getD ((i, A, m, c) : Nat × Option Addr × Nat × Nat).1 be0).size ≤ 1000 := hxs
          have hst := vbs i (by omega)
          skip
          refine J.skip ?_
          refine J.seq ?_
          refine J.block ?_
          refine J.seq ?_
          -- draw
          refine J.quiet mixed (by kernel_rfl) ?_
          refine Qt.va rfl (fun w' hw => (by first | exact X.loadAgg rfl (range_l (j1.ext hw)) Try.underlying97 rfl (by kernel_rfl) | exact X.loadAgg rfl (range_blk (j1.ext hw)) Try.underlying97 rfl (by kernel_rfl) | exact X.loadAgg rfl (range_l (j2.ext hw)) Try.underlying97 rfl (by kernel_rfl) | exact X.loadAgg rfl (range_blk (j2.ext hw)) Try.underlying97 rfl (by kernel_rfl))) ?_
          refine Qt.va rfl (fun w' hw => X.fieldAddr rfl Try.underlying97 rfl sz_94 (by decide)) ?_
          refine Qt.va rfl (fun w' hw => X.load rfl sc_94 (by first | exact Ld.blk (j1.ext hw) rfl | exact Ld.blk (j2.ext hw) rfl | exact Ld.str (d1.ext hw) (by omega))) ?_
          refine Qt.va rfl (fun w' hw => X.move (by conv => lhs; whnf)) ?_
          refine Qt.va rfl (fun w' hw => (by first | exact X.index1n rfl rfl Try.underlying94 sz_9 (by first | exact Option.some_ne_none _ | exact d1.some_ (by omega)) (by omega) | exact X.index1 rfl rfl Try.underlying94 sz_9 (by first | exact Option.some_ne_none _ | exact d1.some_ (by omega)) (by omega))) ?_
          refine Qt.va rfl (fun w' hw => X.load rfl sc_9 (by first | exact Ld.blk (j1.ext hw) rfl | exact Ld.blk (j2.ext hw) rfl | exact Ld.str (d1.ext hw) (by omega))) ?_
          -- callfn bushel/bushelref43.kind
          refine Qt.call rfl en_121 rfl (fun w' hw => calls_ext hw ((ht3.ext hw).kind2 (s.s1.getD i be0))) ?_
          refine Qt.va rfl (fun w' hw => X.not rfl) ?_
          refine Qt.nil (fun w4 hq => ?_)
          replace j1 := j1.ext hq
          replace j2 := j2.ext hq
          replace d1 := d1.ext hq
          -- cond
          cases hin : among (t.s1) (s.s1.getD i be0)
          · refine J.iteT rfl ?_
            refine J.region ?_
            refine L.va rfl (X.move (by conv => lhs; whnf)) ?_
            refine L.va rfl (X.move (by conv => lhs; whnf)) ?_
            refine L.va rfl (X.fieldAddr rfl Try.underlying97 rfl sz_94 (by decide)) ?_
            refine L.va rfl (X.load rfl sc_94 (by first | exact Ld.blk j1 rfl | exact Ld.blk j2 rfl | exact Ld.str d1 (by omega))) ?_
            refine L.va rfl (X.move (by conv => lhs; whnf)) ?_
            refine L.va rfl ((by first | exact X.index1n rfl rfl Try.underlying94 sz_9 (by first | exact Option.some_ne_none _ | exact d1.some_ (by omega)) (by omega) | exact X.index1 rfl rfl Try.underlying94 sz_9 (by first | exact Option.some_ne_none _ | exact d1.some_ (by omega)) (by omega))) ?_
            refine L.va rfl (X.load rfl sc_9 (by first | exact Ld.blk j1 rfl | exact Ld.blk j2 rfl | exact Ld.str d1 (by omega))) ?_
            refine L.va rfl (X.addS rfl rfl (by omega)) ?_
            -- buildSlice
            refine L.bslice (vs := [_]) rfl (Evs.cons (by conv => lhs; whnf) Evs.nil) rfl rfl rfl rfl Try.underlying94 sz_9 zr_9 (by decide) ?_
            intro b5 w5 hb5 hs5 hk5 he5
            rw [hin] at hst
            have hst : LB (i + 1) = LB i ++ [p ++ s.s1.getD i be0] := hst
            -- append
            have hzz : w2.heap.size ≤ w5.heap.size := ((he.trans hq).trans he5).le
            refine L.appendV (q := m + 1) (ys := strs (LB i) ++ strs [p ++ s.s1.getD i be0]) rfl rfl rfl Try.underlying94 el_9 (ho.ext (hq.trans he5)) ((blk_reads (q := 1) (l := strs [p ++ s.s1.getD i be0]) hk5 (by omega : b5 < w5.heap.size) rfl)) (by first | rfl | exact strs_ones _ | assumption) (by omega) (by simp) (by unfold maxLen; omega) (by omega) ?_
            intro A6 c6 w6 ho6 hg6 hb6 hor6
            rw [strs_append, ← hst] at ho6
            have he6 : Ext w2 w6 := ((he.trans hq).trans he5).low hb6 (Nat.le_refl _)
            refine L.va rfl (X.assign (by conv => lhs; whnf)) ?_
            refine L.nil ?_
            refine J.region ?_
            refine L.va rfl (X.move (by conv => lhs; whnf)) ?_
            refine L.va rfl (X.add rfl rfl (by omega)) ?_
            refine L.va rfl (X.assign (by conv => lhs; whnf)) ?_
            refine L.nil ?_
            -- loopend
            refine ⟨(i + 1, A6, m + 1, c6), At2 (by first | rfl | exact at_int rfl (by omega) | exact at_slice rfl (by omega) | exact at_int rfl (by simp)) (by first | rfl | exact at_int rfl (by omega) | exact at_slice rfl (by omega) | exact at_int rfl (by simp)), (by (iterate 27 refine Agr.lk rfl ?_); exact Agr.lk rfl (Agr.hav rfl Agr.rfl')), ?_⟩
            exact ⟨⟨by dsimp only; omega, by dsimp only; rw [hst, List.length_append, ← hm]; rfl, ho6, he6⟩, by dsimp only; omega⟩
          · refine J.iteF rfl ?_
            rw [hin] at hst
            have hst : LB (i + 1) = LB i := by rw [hst]; exact List.append_nil _
            refine J.skip ?_
            refine J.region ?_
            refine L.va rfl (X.move (by conv => lhs; whnf)) ?_
            refine L.va rfl (X.add rfl rfl (by omega)) ?_
            refine L.va rfl (X.assign (by conv => lhs; whnf)) ?_
            refine L.nil ?_
            -- loopend
            refine ⟨(i + 1, A, m, c), At2 (by first | rfl | exact at_int rfl (by omega) | exact at_slice rfl (by omega) | exact at_int rfl (by simp)) (by first | rfl | exact at_int rfl (by omega) | exact at_slice rfl (by omega) | exact at_int rfl (by simp)), (by (iterate 16 refine Agr.lk rfl ?_); exact Agr.lk rfl (Agr.hav rfl Agr.rfl')), ?_⟩
            exact ⟨⟨by dsimp only; omega, by dsimp only; rw [hst]; exact hm, by dsimp only; rw [hst]; exact ho.ext hq, he.trans hq⟩, by dsimp only; omega⟩
        · obtain rfl : i = s.n1 := by dsimp only at hlt; omega
          refine J.exit ?_
          refine J.seq ?_
          refine J.seq ?_
          refine J.region ?_
          refine L.va rfl (X.assign (by conv => lhs; whnf)) ?_
          refine L.nil ?_
          refine J.block ?_
          -- loop
          refine J.loop (X := Nat × Option Addr × Nat × Nat) [7, 10, 63, 64, 65, 66, 67, 68, 69, 70, 71, 72, 73, 74, 75, 76, 77, 78, 79, 80, 81, 82, 83, 84, 85, 86, 87] (fun x => [(10, .int .i64 (x.1 : Int)), (7, .slice x.2.1 x.2.2.1 x.2.2.2)]) (fun x w' => x.1 ≤ s.n2 ∧ x.2.2.1 = (LC x.1).length ∧ w'.ownsRow w2.heap.size 9 1 (.slice x.2.1 x.2.2.1 x.2.2.2) x.2.2.1 (strs (LC x.1)) ∧ Ext w2 w') (fun x => s.n2 - x.1) ((0, A, m, c)) (At2 (by first | rfl | exact at_int rfl (by omega) | exact at_slice rfl (by omega) | exact at_int rfl (by simp)) (by first | rfl | exact at_int rfl (by omega) | exact at_slice rfl (by omega) | exact at_int rfl (by simp))) ?_ ?_
          · refine ⟨by dsimp only; omega, by dsimp only; rw [vc0]; exact hm, ?_, he⟩
            dsimp only
            rw [vc0]
            exact ho
          · rintro ⟨i, A, m, c⟩ g w3 ⟨hi, hm, ho, he⟩
            dsimp only at hi hm ho he
            have z1 : ((i, A, m, c) : Nat × Option Addr × Nat × Nat).1 = i := rfl
            have z2 : ((i, A, m, c) : Nat × Option Addr × Nat × Nat).2.2.1 = m := rfl
            have j1 := gk1.ext he
            have j2 := gk2.ext he
            have hs3 := hs2.ext he
            have ht3 := ht2.ext he
            have d1 := hs3.h2
            have al1 := vcl i
            refine J.seq ?_
            refine J.seq ?_
            refine J.region ?_
            refine L.va rfl (X.move (by conv => lhs; whnf)) ?_
            refine L.va rfl (X.fieldAddr rfl Try.underlying97 rfl sz_94 (by decide)) ?_
            refine L.va rfl (X.load rfl sc_94 (by first | exact Ld.blk j1 rfl | exact Ld.blk j2 rfl | exact Ld.str d1 (by omega))) ?_
            refine L.va rfl (X.len rfl Try.underlying94) ?_
            refine L.va rfl (X.lss rfl rfl) ?_
            refine L.nil ?_
            -- cond
            refine J.dec rfl (fun hlt => ?_) (fun hlt => ?_)
            · have hil : i < s.s2.length := by rw [l3]; dsimp only at hlt; omega
              have hxs : (s.s2.getD i be0).size ≤ 1000 := hS _ (by exact List.mem_append_right _ (mem_at hil))
              have hxs' : (s.s2.getD ((i, A, m, c) : Nat × Option Addr × Nat × Nat).1 be0).size ≤ 1000 := hxs
              have hst := vcs i (by omega)
              skip
              refine J.skip ?_
              refine J.seq ?_
              refine J.block ?_
              refine J.seq ?_
              -- draw
              refine J.quiet mixed (by kernel_rfl) ?_
              refine Qt.va rfl (fun w' hw => (by first | exact X.loadAgg rfl (range_l (j1.ext hw)) Try.underlying97 rfl (by kernel_rfl) | exact X.loadAgg rfl (range_blk (j1.ext hw)) Try.underlying97 rfl (by kernel_rfl) | exact X.loadAgg rfl (range_l (j2.ext hw)) Try.underlying97 rfl (by kernel_rfl) | exact X.loadAgg rfl (range_blk (j2.ext hw)) Try.underlying97 rfl (by kernel_rfl))) ?_
              refine Qt.va rfl (fun w' hw => X.fieldAddr rfl Try.underlying97 rfl sz_94 (by decide)) ?_
              refine Qt.va rfl (fun w' hw => X.load rfl sc_94 (by first | exact Ld.blk (j1.ext hw) rfl | exact Ld.blk (j2.ext hw) rfl | exact Ld.str (d1.ext hw) (by omega))) ?_
              refine Qt.va rfl (fun w' hw => X.move (by conv => lhs; whnf)) ?_
              refine Qt.va rfl (fun w' hw => (by first | exact X.index1n rfl rfl Try.underlying94 sz_9 (by first | exact Option.some_ne_none _ | exact d1.some_ (by omega)) (by omega) | exact X.index1 rfl rfl Try.underlying94 sz_9 (by first | exact Option.some_ne_none _ | exact d1.some_ (by omega)) (by omega))) ?_
              refine Qt.va rfl (fun w' hw => X.load rfl sc_9 (by first | exact Ld.blk (j1.ext hw) rfl | exact Ld.blk (j2.ext hw) rfl | exact Ld.str (d1.ext hw) (by omega))) ?_
              -- callfn bushel/bushelref43.kind
              refine Qt.call rfl en_121 rfl (fun w' hw => calls_ext hw ((ht3.ext hw).kind3 (s.s2.getD i be0))) ?_
              refine Qt.va rfl (fun w' hw => X.not rfl) ?_
              refine Qt.nil (fun w4 hq => ?_)
              replace j1 := j1.ext hq
              replace j2 := j2.ext hq
              replace d1 := d1.ext hq
              -- cond
              cases hin : among (t.s2) (s.s2.getD i be0)
              · refine J.iteT rfl ?_
                refine J.region ?_
                refine L.va rfl (X.move (by conv => lhs; whnf)) ?_
                refine L.va rfl (X.move (by conv => lhs; whnf)) ?_
                refine L.va rfl (X.fieldAddr rfl Try.underlying97 rfl sz_94 (by decide)) ?_
                refine L.va rfl (X.load rfl sc_94 (by first | exact Ld.blk j1 rfl | exact Ld.blk j2 rfl | exact Ld.str d1 (by omega))) ?_
                refine L.va rfl (X.move (by conv => lhs; whnf)) ?_
                refine L.va rfl ((by first | exact X.index1n rfl rfl Try.underlying94 sz_9 (by first | exact Option.some_ne_none _ | exact d1.some_ (by omega)) (by omega) | exact X.index1 rfl rfl Try.underlying94 sz_9 (by first | exact Option.some_ne_none _ | exact d1.some_ (by omega)) (by omega))) ?_
                refine L.va rfl (X.load rfl sc_9 (by first | exact Ld.blk j1 rfl | exact Ld.blk j2 rfl | exact Ld.str d1 (by omega))) ?_
                refine L.va rfl (X.addS rfl rfl (by omega)) ?_
                -- buildSlice
                refine L.bslice (vs := [_]) rfl (Evs.cons (by conv => lhs; whnf) Evs.nil) rfl rfl rfl rfl Try.underlying94 sz_9 zr_9 (by decide) ?_
                intro b5 w5 hb5 hs5 hk5 he5
                rw [hin] at hst
                have hst : LC (i + 1) = LC i ++ [p ++ s.s2.getD i be0] := hst
                -- append
                have hzz : w2.heap.size ≤ w5.heap.size := ((he.trans hq).trans he5).le
                refine L.appendV (q := m + 1) (ys := strs (LC i) ++ strs [p ++ s.s2.getD i be0]) rfl rfl rfl Try.underlying94 el_9 (ho.ext (hq.trans he5)) ((blk_reads (q := 1) (l := strs [p ++ s.s2.getD i be0]) hk5 (by omega : b5 < w5.heap.size) rfl)) (by first | rfl | exact strs_ones _ | assumption) (by omega) (by simp) (by unfold maxLen; omega) (by omega) ?_
                intro A6 c6 w6 ho6 hg6 hb6 hor6
                rw [strs_append, ← hst] at ho6
                have he6 : Ext w2 w6 := ((he.trans hq).trans he5).low hb6 (Nat.le_refl _)
                refine L.va rfl (X.assign (by conv => lhs; whnf)) ?_
                refine L.nil ?_
                refine J.region ?_
                refine L.va rfl (X.move (by conv => lhs; whnf)) ?_
                refine L.va rfl (X.add rfl rfl (by omega)) ?_
                refine L.va rfl (X.assign (by conv => lhs; whnf)) ?_
                refine L.nil ?_
                -- loopend
                refine ⟨(i + 1, A6, m + 1, c6), At2 (by first | rfl | exact at_int rfl (by omega) | exact at_slice rfl (by omega) | exact at_int rfl (by simp)) (by first | rfl | exact at_int rfl (by omega) | exact at_slice rfl (by omega) | exact at_int rfl (by simp)), (by (iterate 27 refine Agr.lk rfl ?_); exact Agr.lk rfl (Agr.hav rfl Agr.rfl')), ?_⟩
                exact ⟨⟨by dsimp only; omega, by dsimp only; rw [hst, List.length_append, ← hm]; rfl, ho6, he6⟩, by dsimp only; omega⟩
              · refine J.iteF rfl ?_
                rw [hin] at hst
                have hst : LC (i + 1) = LC i := by rw [hst]; exact List.append_nil _
                refine J.skip ?_
                refine J.region ?_
                refine L.va rfl (X.move (by conv => lhs; whnf)) ?_
                refine L.va rfl (X.add rfl rfl (by omega)) ?_
                refine L.va rfl (X.assign (by conv => lhs; whnf)) ?_
                refine L.nil ?_
                -- loopend
                refine ⟨(i + 1, A, m, c), At2 (by first | rfl | exact at_int rfl (by omega) | exact at_slice rfl (by omega) | exact at_int rfl (by simp)) (by first | rfl | exact at_int rfl (by omega) | exact at_slice rfl (by omega) | exact at_int rfl (by simp)), (by (iterate 16 refine Agr.lk rfl ?_); exact Agr.lk rfl (Agr.hav rfl Agr.rfl')), ?_⟩
                exact ⟨⟨by dsimp only; omega, by dsimp only; rw [hst]; exact hm, by dsimp only; rw [hst]; exact ho.ext hq, he.trans hq⟩, by dsimp only; omega⟩
            · obtain rfl : i = s.n2 := by dsimp only at hlt; omega
              refine J.exit ?_
              refine J.seq ?_
              refine J.region ?_
              refine L.va rfl (X.move (by conv => lhs; whnf)) ?_
              refine L.va rfl (X.assign (by conv => lhs; whnf)) ?_
              refine L.nil ?_
              -- ret
              refine J.ret ?_
              refine fin1 ?_
              rw [hfin] at hm ho
              subst hm
              exact ⟨A, c, rfl, ho.mono hz02, he02.trans he⟩
end Sch
end Go.Proofs.Ytdmfikedojgjbaa
