/-
  diff.things, diff.lacks: the things of a schema, and what one list of things holds and the other doesn't.
-/
import Derived.Test.YtdmfikedojgjbaaWDiffF
import Derived.Test.YtdmfikedojgjbaaMapKeys
namespace Go.Proofs.Ytdmfikedojgjbaa
set_option maxRecDepth 100000
open Go.RowKit H
open Go.MapKept Go.ChangeMaps Go.WideMaps Go.Maps
set_option linter.unusedVariables false
theorem dimsV_append (a b : List (ByteArray × Int)) : dimsV a ++ dimsV b = dimsV (a ++ b) := by simp [dimsV]
theorem thF (ns : List ByteArray) (k : Int) (B : List (ByteArray × Int)) : ∃ LA : Nat → List (ByteArray × Int), LA 0 = B ∧ (∀ i, i < ns.length → LA (i + 1) = LA i ++ [(ns.getD i be0, k)]) ∧ LA ns.length = B ++ ns.map (·, k) ∧ ∀ i, (LA i).length ≤ B.length + ns.length := by
  refine ⟨fun i => B ++ (ns.take i).map (·, k), by simp, fun i hi => ?_, by simp, fun i => ?_⟩
  · dsimp only
    rw [take_nextS hi, List.map_append, List.append_assoc]
    rfl
  · dsimp only
    simp only [List.length_append, List.length_map, List.length_take]
    omega
namespace Sch
def thL (s : Sch) : List (ByteArray × Int) := (s.ds.map (·.1)).map (·, 1) ++ s.s1.map (·, 2) ++ s.s2.map (·, 3)
theorem Here.things {s : Sch} {w : World} (h : s.Here w) : Calls Try.prog 86 #[s.val] w fun e w' => ∃ A c, e = .returned (.slice A s.thL.length c) ∧ w'.ownsRow w.heap.size 202 2 (.slice A s.thL.length c) s.thL.length (dimsV s.thL) ∧ Ext w w' := by
  have q1 := h.hle
  have l1 := h.len
  have l2 := h.len1
  have l3 := h.len2
  obtain ⟨LA, va0, vas, van, val⟩ := thF (s.ds.map (·.1)) 1 []
  obtain ⟨LB, vb0, vbs, vbn, vbl⟩ := thF s.s1 2 (LA s.nd)
  obtain ⟨LC, vc0, vcs, vcn, vcl⟩ := thF s.s2 3 (LB s.n1)
  have ldm : (s.ds.map (·.1)).length = s.nd := by simp [l1]
  rw [ldm] at vas van val
  rw [l2] at vbs vbn vbl
  rw [l3] at vcs vcn vcl
  have val' := val s.nd
  have vbl' := vbl s.n1
  have el : ([] : List (ByteArray × Int)).length = 0 := rfl
  have hfin : LC s.n2 = s.thL := by rw [vcn, vbn, van]; rfl
  refine enter Try.func86 rfl (by kernel_rfl) ?_
  refine J.seq ?_
  refine J.region ?_
  -- box
  refine L.boxA (l := [_, _, _, _]) rfl rfl ?_
  intro b1 w2 hb1 hs1 hk1 he02
  have gk1 := hk1
  have hz02 := he02.le
  have hs2 := h.ext he02
  refine L.va rfl (X.assign (by conv => lhs; whnf)) ?_
  refine L.nil ?_
  refine J.seq ?_
  refine J.region ?_
  refine L.va rfl (X.assign (by conv => lhs; whnf)) ?_
  refine L.nil ?_
  -- until
  refine J.seq ?_
  refine J.seq ?_
  refine J.region ?_
  refine L.va rfl (X.fieldAddr rfl Try.underlying97 rfl sz_93 (by decide)) ?_
  refine L.va rfl (X.load rfl sc_93 (by first | exact Ld.blk hk1 rfl)) ?_
  refine L.va rfl (X.len rfl Try.underlying93) ?_
  refine L.va rfl (X.move (by conv => lhs; whnf)) ?_
  refine L.nil ?_
  refine J.block ?_
  -- loop
  refine J.loop (X := Nat × Option Addr × Nat × Nat) [3, 5, 13, 14, 15, 16, 17, 18, 19, 20, 21, 22, 23] (fun x => [(13, .int .i64 (x.1 : Int)), (3, .slice x.2.1 x.2.2.1 x.2.2.2)]) (fun x w' => x.1 ≤ s.nd ∧ x.2.2.1 = (LA x.1).length ∧ w'.ownsRow w2.heap.size 202 2 (.slice x.2.1 x.2.2.1 x.2.2.2) x.2.2.1 (dimsV (LA x.1)) ∧ Ext w2 w') (fun x => s.nd - x.1) ((0, none, 0, 0)) (At2 (by first | rfl | exact at_int rfl (by omega) | exact at_slice rfl (by omega) | exact at_int rfl (by simp)) (by first | rfl | exact at_int rfl (by omega) | exact at_slice rfl (by omega) | exact at_int rfl (by simp))) ?_ ?_
  · refine ⟨by dsimp only; omega, by dsimp only; rw [va0]; rfl, ?_, Ext.refl _⟩
    dsimp only
    rw [va0]
    exact own_nil _ _ _ _
  · rintro ⟨i, A, m, c⟩ g w3 ⟨hi, hm, ho, he⟩
    dsimp only at hi hm ho he
    have z1 : ((i, A, m, c) : Nat × Option Addr × Nat × Nat).1 = i := rfl
    have z2 : ((i, A, m, c) : Nat × Option Addr × Nat × Nat).2.2.1 = m := rfl
    have j1 := gk1.ext he
    have hs3 := hs2.ext he
    have d1 := hs3.hd
    have al1 := val i
    refine J.seq ?_
    refine J.region ?_
    refine L.va rfl (X.lss rfl rfl) ?_
    refine L.nil ?_
    refine J.seq ?_
    -- cond
    refine J.dec rfl (fun hlt => ?_) (fun hlt => ?_)
    · have hil : i < s.ds.length := by rw [l1]; dsimp only at hlt; omega
      have hst := vas i (by omega)
      rw [dn_getD hil] at hst
      -- t16
      refine J.skip ?_
      refine J.seq ?_
      refine J.block ?_
      refine J.seq ?_
      refine J.region ?_
      refine L.va rfl ((by first | exact X.indexAddrn rfl rfl Try.underlying93 sz_151 (by first | exact Option.some_ne_none _ | exact d1.some_ (by omega)) (by omega) | exact X.indexAddr rfl rfl Try.underlying93 sz_151 (by first | exact Option.some_ne_none _ | exact d1.some_ (by omega)) (by omega))) ?_
      refine L.va rfl (X.loadRow (cs := [.string (s.ds.getD i d0).1, .int .i64 (s.ds.getD i d0).2]) rfl d1 (dims_row hil) (Nat.zero_lt_succ _) Try.underlying151 rfl (by kernel_rfl)) ?_
      -- alloc
      refine L.alloc rfl zr_151 ?_
      intro b3 w4 hb3 hs4 hk3 he3
      -- store
      refine L.storeAgg (vs := [_, _]) rfl rfl rfl rfl sz_151 (hk3) rfl ?_
      intro w5 hk5 hg5 hs5
      have ho5 := (ho.ext he3).kept hg5 (.inr (own_blk_ne (ho.ext he3) hk3 (by decide)))
      have he5 : Ext w2 w5 := (he.trans he3).grw hg5 (by intro g hg; injection hg with hg; have := he.le; omega)
      refine L.nil ?_
      refine J.region ?_
      refine L.va rfl (X.move (by conv => lhs; whnf)) ?_
      refine L.va rfl (X.fieldAddr rfl Try.underlying151 rfl sz_9 (by decide)) ?_
      refine L.va rfl (X.load rfl sc_9 (by first | exact Ld.blk hk5 rfl)) ?_
      refine L.va rfl (X.build (l := [_, _]) (Evs.cons (by conv => lhs; whnf) (Evs.cons (by conv => lhs; whnf) Evs.nil)) (bld_run Try.underlying202 (bp_202 Try.underlying202) zr_202 rfl)) ?_
      -- buildSlice
      refine L.bslice1 (l := [_, _]) rfl rfl rfl Try.underlying155 sz_202 zr_202 rfl ?_
      intro b6 w6 hb6 hs6 hk6 he6
      have he06 := he5.trans he6
      have hzz : w2.heap.size ≤ w6.heap.size := he06.le
      -- append
      refine L.appendV (q := m + 1) (ys := dimsV (LA i) ++ [.string ((s.ds.getD i d0).1), .int .i64 1]) rfl rfl rfl Try.underlying155 el_202 (ho5.ext he6) ((blk_readsN (sz := 2) (q := 1) (l := [.string ((s.ds.getD i d0).1), .int .i64 1]) hk6 hk6.lt rfl)) (by first | rfl | exact strs_ones _ | assumption) (by omega) (by simp) (by unfold maxLen; omega) (by omega) ?_
      intro A6 c6 w7 ho7 hg7 hb7 hor7
      rw [show dimsV (LA i) ++ [Value.string ((s.ds.getD i d0).1), Value.int .i64 1] = dimsV (LA (i + 1)) by rw [hst, ← dimsV_append]; rfl] at ho7
      have he7 : Ext w2 w7 := he06.low hb7 (Nat.le_refl _)
      refine L.va rfl (X.assign (by conv => lhs; whnf)) ?_
      refine L.nil ?_
      refine J.region ?_
      refine L.va rfl (X.add rfl rfl (by omega)) ?_
      refine L.va rfl (X.move (by conv => lhs; whnf)) ?_
      refine L.nil ?_
      -- loopend
      refine ⟨(i + 1, A6, m + 1, c6), At2 (by first | rfl | exact at_int rfl (by omega) | exact at_slice rfl (by omega) | exact at_int rfl (by simp)) (by first | rfl | exact at_int rfl (by omega) | exact at_slice rfl (by omega) | exact at_int rfl (by simp)), (by (iterate 13 refine Agr.lk rfl ?_); exact Agr.lk rfl (Agr.hav rfl Agr.rfl')), ?_⟩
      exact ⟨⟨by dsimp only; omega, by dsimp only; rw [hst, List.length_append, ← hm]; rfl, ho7, he7⟩, by dsimp only; omega⟩
    · obtain rfl : i = s.nd := by dsimp only at hlt; omega
      refine J.exit ?_
      refine J.seq ?_
      refine J.seq ?_
      refine J.region ?_
      refine L.va rfl (X.fieldAddr rfl Try.underlying97 rfl sz_94 (by decide)) ?_
      refine L.va rfl (X.load rfl sc_94 (by first | exact Ld.blk j1 rfl)) ?_
      refine L.va rfl (X.len rfl Try.underlying94) ?_
      refine L.va rfl (X.move (by conv => lhs; whnf)) ?_
      refine L.nil ?_
      refine J.block ?_
      -- loop
      refine J.loop (X := Nat × Option Addr × Nat × Nat) [3, 7, 27, 28, 29, 30, 31, 32, 33, 34, 35, 36] (fun x => [(27, .int .i64 (x.1 : Int)), (3, .slice x.2.1 x.2.2.1 x.2.2.2)]) (fun x w' => x.1 ≤ s.n1 ∧ x.2.2.1 = (LB x.1).length ∧ w'.ownsRow w2.heap.size 202 2 (.slice x.2.1 x.2.2.1 x.2.2.2) x.2.2.1 (dimsV (LB x.1)) ∧ Ext w2 w') (fun x => s.n1 - x.1) ((0, A, m, c)) (At2 (by first | rfl | exact at_int rfl (by omega) | exact at_slice rfl (by omega) | exact at_int rfl (by simp)) (by first | rfl | exact at_int rfl (by omega) | exact at_slice rfl (by omega) | exact at_int rfl (by simp))) ?_ ?_
      · refine ⟨by dsimp only; omega, by dsimp only; rw [vb0]; exact hm, ?_, he⟩
        dsimp only
        rw [vb0]
        exact ho
      · rintro ⟨i, A, m, c⟩ g w3 ⟨hi, hm, ho, he⟩
        dsimp only at hi hm ho he
        have z1 : ((i, A, m, c) : Nat × Option Addr × Nat × Nat).1 = i := rfl
        have z2 : ((i, A, m, c) : Nat × Option Addr × Nat × Nat).2.2.1 = m := rfl
        have j1 := gk1.ext he
        have hs3 := hs2.ext he
        have d1 := hs3.h1
        have al1 := vbl i
        refine J.seq ?_
        refine J.region ?_
        refine L.va rfl (X.lss rfl rfl) ?_
        refine L.nil ?_
        refine J.seq ?_
        -- cond
        refine J.dec rfl (fun hlt => ?_) (fun hlt => ?_)
        · have hil : i < s.s1.length := by rw [l2]; dsimp only at hlt; omega
          have hst := vbs i (by omega)
          skip
          refine J.skip ?_
          refine J.seq ?_
          refine J.block ?_
          refine J.seq ?_
          refine J.region ?_
          refine L.va rfl ((by first | exact X.index1n rfl rfl Try.underlying94 sz_9 (by first | exact Option.some_ne_none _ | exact d1.some_ (by omega)) (by omega) | exact X.index1 rfl rfl Try.underlying94 sz_9 (by first | exact Option.some_ne_none _ | exact d1.some_ (by omega)) (by omega))) ?_
          refine L.va rfl (X.load rfl sc_9 (by first | exact Ld.str d1 (by omega))) ?_
          refine L.va rfl (X.assign (by conv => lhs; whnf)) ?_
          refine L.nil ?_
          refine J.region ?_
          refine L.va rfl (X.move (by conv => lhs; whnf)) ?_
          refine L.va rfl (X.move (by conv => lhs; whnf)) ?_
          refine L.va rfl (X.build (l := [_, _]) (Evs.cons (by conv => lhs; whnf) (Evs.cons (by conv => lhs; whnf) Evs.nil)) (bld_run Try.underlying202 (bp_202 Try.underlying202) zr_202 rfl)) ?_
          -- buildSlice
          have he5 := he
          have ho5 := ho
          refine L.bslice1 (l := [_, _]) rfl rfl rfl Try.underlying155 sz_202 zr_202 rfl ?_
          intro b6 w6 hb6 hs6 hk6 he6
          have he06 := he5.trans he6
          have hzz : w2.heap.size ≤ w6.heap.size := he06.le
          skip
          -- append
          refine L.appendV (q := m + 1) (ys := dimsV (LB i) ++ [.string (s.s1.getD i be0), .int .i64 2]) rfl rfl rfl Try.underlying155 el_202 (ho5.ext he6) ((blk_readsN (sz := 2) (q := 1) (l := [.string (s.s1.getD i be0), .int .i64 2]) hk6 hk6.lt rfl)) (by first | rfl | exact strs_ones _ | assumption) (by omega) (by simp) (by unfold maxLen; omega) (by omega) ?_
          intro A6 c6 w7 ho7 hg7 hb7 hor7
          rw [show dimsV (LB i) ++ [Value.string (s.s1.getD i be0), Value.int .i64 2] = dimsV (LB (i + 1)) by rw [hst, ← dimsV_append]; rfl] at ho7
          have he7 : Ext w2 w7 := he06.low hb7 (Nat.le_refl _)
          refine L.va rfl (X.assign (by conv => lhs; whnf)) ?_
          refine L.nil ?_
          refine J.region ?_
          refine L.va rfl (X.add rfl rfl (by omega)) ?_
          refine L.va rfl (X.move (by conv => lhs; whnf)) ?_
          refine L.nil ?_
          -- loopend
          refine ⟨(i + 1, A6, m + 1, c6), At2 (by first | rfl | exact at_int rfl (by omega) | exact at_slice rfl (by omega) | exact at_int rfl (by simp)) (by first | rfl | exact at_int rfl (by omega) | exact at_slice rfl (by omega) | exact at_int rfl (by simp)), (by (iterate 12 refine Agr.lk rfl ?_); exact Agr.lk rfl (Agr.hav rfl Agr.rfl')), ?_⟩
          exact ⟨⟨by dsimp only; omega, by dsimp only; rw [hst, List.length_append, ← hm]; rfl, ho7, he7⟩, by dsimp only; omega⟩
        · obtain rfl : i = s.n1 := by dsimp only at hlt; omega
          refine J.exit ?_
          refine J.seq ?_
          refine J.seq ?_
          refine J.region ?_
          refine L.va rfl (X.fieldAddr rfl Try.underlying97 rfl sz_94 (by decide)) ?_
          refine L.va rfl (X.load rfl sc_94 (by first | exact Ld.blk j1 rfl)) ?_
          refine L.va rfl (X.len rfl Try.underlying94) ?_
          refine L.va rfl (X.move (by conv => lhs; whnf)) ?_
          refine L.nil ?_
          refine J.block ?_
          -- loop
          refine J.loop (X := Nat × Option Addr × Nat × Nat) [3, 9, 40, 41, 42, 43, 44, 45, 46, 47, 48, 49] (fun x => [(40, .int .i64 (x.1 : Int)), (3, .slice x.2.1 x.2.2.1 x.2.2.2)]) (fun x w' => x.1 ≤ s.n2 ∧ x.2.2.1 = (LC x.1).length ∧ w'.ownsRow w2.heap.size 202 2 (.slice x.2.1 x.2.2.1 x.2.2.2) x.2.2.1 (dimsV (LC x.1)) ∧ Ext w2 w') (fun x => s.n2 - x.1) ((0, A, m, c)) (At2 (by first | rfl | exact at_int rfl (by omega) | exact at_slice rfl (by omega) | exact at_int rfl (by simp)) (by first | rfl | exact at_int rfl (by omega) | exact at_slice rfl (by omega) | exact at_int rfl (by simp))) ?_ ?_
          · refine ⟨by dsimp only; omega, by dsimp only; rw [vc0]; exact hm, ?_, he⟩
            dsimp only
            rw [vc0]
            exact ho
          · rintro ⟨i, A, m, c⟩ g w3 ⟨hi, hm, ho, he⟩
            dsimp only at hi hm ho he
            have z1 : ((i, A, m, c) : Nat × Option Addr × Nat × Nat).1 = i := rfl
            have z2 : ((i, A, m, c) : Nat × Option Addr × Nat × Nat).2.2.1 = m := rfl
            have j1 := gk1.ext he
            have hs3 := hs2.ext he
            have d1 := hs3.h2
            have al1 := vcl i
            refine J.seq ?_
            refine J.region ?_
            refine L.va rfl (X.lss rfl rfl) ?_
            refine L.nil ?_
            refine J.seq ?_
            -- cond
            refine J.dec rfl (fun hlt => ?_) (fun hlt => ?_)
            · have hil : i < s.s2.length := by rw [l3]; dsimp only at hlt; omega
              have hst := vcs i (by omega)
              skip
              refine J.skip ?_
              refine J.seq ?_
              refine J.block ?_
              refine J.seq ?_
              refine J.region ?_
              refine L.va rfl ((by first | exact X.index1n rfl rfl Try.underlying94 sz_9 (by first | exact Option.some_ne_none _ | exact d1.some_ (by omega)) (by omega) | exact X.index1 rfl rfl Try.underlying94 sz_9 (by first | exact Option.some_ne_none _ | exact d1.some_ (by omega)) (by omega))) ?_
              refine L.va rfl (X.load rfl sc_9 (by first | exact Ld.str d1 (by omega))) ?_
              refine L.va rfl (X.assign (by conv => lhs; whnf)) ?_
              refine L.nil ?_
              refine J.region ?_
              refine L.va rfl (X.move (by conv => lhs; whnf)) ?_
              refine L.va rfl (X.move (by conv => lhs; whnf)) ?_
              refine L.va rfl (X.build (l := [_, _]) (Evs.cons (by conv => lhs; whnf) (Evs.cons (by conv => lhs; whnf) Evs.nil)) (bld_run Try.underlying202 (bp_202 Try.underlying202) zr_202 rfl)) ?_
              -- buildSlice
              have he5 := he
              have ho5 := ho
              refine L.bslice1 (l := [_, _]) rfl rfl rfl Try.underlying155 sz_202 zr_202 rfl ?_
              intro b6 w6 hb6 hs6 hk6 he6
              have he06 := he5.trans he6
              have hzz : w2.heap.size ≤ w6.heap.size := he06.le
              skip
              -- append
              refine L.appendV (q := m + 1) (ys := dimsV (LC i) ++ [.string (s.s2.getD i be0), .int .i64 3]) rfl rfl rfl Try.underlying155 el_202 (ho5.ext he6) ((blk_readsN (sz := 2) (q := 1) (l := [.string (s.s2.getD i be0), .int .i64 3]) hk6 hk6.lt rfl)) (by first | rfl | exact strs_ones _ | assumption) (by omega) (by simp) (by unfold maxLen; omega) (by omega) ?_
              intro A6 c6 w7 ho7 hg7 hb7 hor7
              rw [show dimsV (LC i) ++ [Value.string (s.s2.getD i be0), Value.int .i64 3] = dimsV (LC (i + 1)) by rw [hst, ← dimsV_append]; rfl] at ho7
              have he7 : Ext w2 w7 := he06.low hb7 (Nat.le_refl _)
              refine L.va rfl (X.assign (by conv => lhs; whnf)) ?_
              refine L.nil ?_
              refine J.region ?_
              refine L.va rfl (X.add rfl rfl (by omega)) ?_
              refine L.va rfl (X.move (by conv => lhs; whnf)) ?_
              refine L.nil ?_
              -- loopend
              refine ⟨(i + 1, A6, m + 1, c6), At2 (by first | rfl | exact at_int rfl (by omega) | exact at_slice rfl (by omega) | exact at_int rfl (by simp)) (by first | rfl | exact at_int rfl (by omega) | exact at_slice rfl (by omega) | exact at_int rfl (by simp)), (by (iterate 12 refine Agr.lk rfl ?_); exact Agr.lk rfl (Agr.hav rfl Agr.rfl')), ?_⟩
              exact ⟨⟨by dsimp only; omega, by dsimp only; rw [hst, List.length_append, ← hm]; rfl, ho7, he7⟩, by dsimp only; omega⟩
            · obtain rfl : i = s.n2 := by dsimp only at hlt; omega
              refine J.exit ?_
              refine J.seq ?_
              refine J.region ?_
              refine L.va rfl (X.move (by conv => lhs; whnf)) ?_
              refine L.va rfl (X.assign (by conv => lhs; whnf)) ?_
              refine L.nil ?_
              -- ret
              refine J.ret ?_
              refine fin1 ?_
              rw [hfin] at hm ho
              subst hm
              exact ⟨A, c, rfl, ho.mono hz02, he02.trans he⟩
end Sch
end Go.Proofs.Ytdmfikedojgjbaa
