/-
  The reference's Schema, walked.
-/
import Derived.Test.YtdmfikedojgjbaaDiffPlain
namespace Go.Proofs.Ytdmfikedojgjbaa
set_option maxRecDepth 100000
open Go.RowKit H
set_option linter.unusedVariables false
namespace Sch
set_option maxHeartbeats 600000 in
theorem Here.rschema {s t : Sch} {w : World} (h : s.Here w) (k : t.Here w) (hS : s.Short) (kS : t.Short) (hU : Uniq t.ds) : Calls Try.prog 52 #[s.val, t.val] w fun e w' => ∃ A c, e = .returned (.slice A (dif s t).length c) ∧ w'.ownsRow w.heap.size 9 1 (.slice A (dif s t).length c) (dif s t).length (strs (dif s t)) ∧ Ext w w' := by
  have q1 := h.hle
  have q2 := k.hle
  have l1 := h.len
  have k1 := k.len
  have m1 : (dif1 s t).length ≤ s.thL.length := ltL_len sMinus s.thL t.thL
  have m2 := ltL_len sPlus t.thL s.thL
  have m3 : (dif2 s t).length = (dif1 s t).length + (ltL sPlus t.thL s.thL).length := by simp [dif2]
  have sm1 := small_th h hS
  have sm2 := small_th k kS
  obtain ⟨LA, va0, vas, van, val⟩ := flF (chg t.ds) sTilde s.ds (dif2 s t)
  rw [l1] at vas van
  have van : LA s.nd = dif3 s t := van
  have vd3 : (dif3 s t).length ≤ (dif2 s t).length + s.ds.length := by rw [← van]; exact val s.nd
  have vd4 : (dif4 s t).length ≤ (dif3 s t).length + 1 := by
    unfold dif4
    split <;> simp
  have n1 := sm1.1
  have n2 := sm2.1
  have r1 : lackR sMinus s t = dif1 s t := lackR_eq sMinus s t
  have r2 := lackR_eq sPlus t s
  refine enter Try.func52 rfl (by kernel_rfl) ?_
  refine J.seq ?_
  refine J.region ?_
  -- box
  refine L.boxA (l := [_, _, _, _]) rfl rfl ?_
  intro b1 w1 hb1 hs1 hk1 he1
  -- box
  refine L.boxA (l := [_, _, _, _]) rfl rfl ?_
  intro b2 w2 hb2 hs2 hk2 he2
  have gk1 := hk1.ext he2
  have gk2 := hk2
  have he02 := he1.trans he2
  have hz02 := he02.le
  have hs2 := h.ext he02
  have ht2 := k.ext he02
  refine L.va rfl (X.assign (by conv => lhs; whnf)) ?_
  refine L.nil ?_
  -- until
  refine J.cut (X := Option Addr × Nat) [5, 8, 9, 10, 11, 12, 13, 14] (fun x => [(5, .slice x.1 (dif2 s t).length x.2)]) (fun x w' => w'.ownsRow w2.heap.size 9 1 (.slice x.1 (dif2 s t).length x.2) (dif2 s t).length (strs (dif2 s t)) ∧ Ext w2 w') ?_ ?_
  · -- draw
    refine J.draw (ℓ := 1000000) (S := Ext w2) mixed (fun w3 hS3 hS3_h => ?_)
    refine D.va 0 rfl (by kernel_rfl) (fun _ _ _ h => h) rfl (fun w' hw => (by first | exact X.loadAgg rfl (range_l (gk1.ext hw)) Try.underlying97 rfl (by kernel_rfl) | exact X.loadAgg rfl (range_blk (gk1.ext hw)) Try.underlying97 rfl (by kernel_rfl) | exact X.loadAgg rfl (range_l (gk2.ext hw)) Try.underlying97 rfl (by kernel_rfl) | exact X.loadAgg rfl (range_blk (gk2.ext hw)) Try.underlying97 rfl (by kernel_rfl))) hS3 ?_
    refine D.va 1 rfl (by kernel_rfl) (fun _ _ _ h => h) rfl (fun w' hw => (by first | exact X.loadAgg rfl (range_l (gk1.ext hw)) Try.underlying97 rfl (by kernel_rfl) | exact X.loadAgg rfl (range_blk (gk1.ext hw)) Try.underlying97 rfl (by kernel_rfl) | exact X.loadAgg rfl (range_l (gk2.ext hw)) Try.underlying97 rfl (by kernel_rfl) | exact X.loadAgg rfl (range_blk (gk2.ext hw)) Try.underlying97 rfl (by kernel_rfl))) hS3 ?_
    refine D.va 3 rfl (by kernel_rfl) (fun _ _ _ h => h) rfl (fun w' hw => (by first | exact X.loadAgg rfl (range_l (gk1.ext hw)) Try.underlying97 rfl (by kernel_rfl) | exact X.loadAgg rfl (range_blk (gk1.ext hw)) Try.underlying97 rfl (by kernel_rfl) | exact X.loadAgg rfl (range_l (gk2.ext hw)) Try.underlying97 rfl (by kernel_rfl) | exact X.loadAgg rfl (range_blk (gk2.ext hw)) Try.underlying97 rfl (by kernel_rfl))) hS3 ?_
    refine D.va 4 rfl (by kernel_rfl) (fun _ _ _ h => h) rfl (fun w' hw => (by first | exact X.loadAgg rfl (range_l (gk1.ext hw)) Try.underlying97 rfl (by kernel_rfl) | exact X.loadAgg rfl (range_blk (gk1.ext hw)) Try.underlying97 rfl (by kernel_rfl) | exact X.loadAgg rfl (range_l (gk2.ext hw)) Try.underlying97 rfl (by kernel_rfl) | exact X.loadAgg rfl (range_blk (gk2.ext hw)) Try.underlying97 rfl (by kernel_rfl))) hS3 ?_
    -- callfn bushel/bushelref43.lacks
    have hz10 := (hS3).le
    have cA := (hs2.ext hS3).lacks (ht2.ext hS3) hS sMinus (by decide)
    rw [r1] at cA
    refine D.one 2 (by kernel_rfl) rfl ?_
    refine L.call rfl en_88 rfl (cA) ?_
    rintro e wA ⟨A1, c1, rfl, ho1, hx1⟩
    refine ⟨_, rfl, ?_⟩
    have hS4 := (hS3).trans hx1
    refine L.nil ?_
    refine ⟨fun _ => hS4, ?_⟩
    have hx1 : Ext _ wA := hx1
    replace ho1 := ho1.mono hz10
    try replace ho2 := ho2.ext hx1
    have hz13 := (hS4).le
    have cB := (ht2.ext hS4).lacks (hs2.ext hS4) kS sPlus (by decide)
    rw [r2] at cB
    refine D.one 5 (by kernel_rfl) rfl ?_
    refine L.call rfl en_88 rfl (cB) ?_
    rintro e wB ⟨A2, c2, rfl, ho2, hx2⟩
    refine ⟨_, rfl, ?_⟩
    have hS5 := (hS4).trans hx2
    refine L.nil ?_
    refine ⟨fun _ => hS5, ?_⟩
    have hx2 : Ext _ wB := hx2
    try replace ho1 := ho1.ext hx2
    have hz14 := (hS5).le
    refine D.one 6 (by kernel_rfl) rfl ?_
    refine L.appendV (q := (dif2 s t).length) (ys := strs (dif1 s t) ++ strs (ltL sPlus t.thL s.thL)) rfl rfl rfl Try.underlying94 el_9 (ho1) ((Reads.of_own ho2)) (by first | rfl | exact strs_ones _ | assumption) (by omega) (by simp) (by unfold maxLen; omega) (by omega) ?_
    intro A4 c4 w5 ho4 hg4 hb4 hor4
    have hS6 := (hS5).low hb4 (Nat.le_refl _)
    refine L.nil ?_
    refine ⟨fun _ => hS6, ?_⟩
    rw [strs_append] at ho4
    refine D.va 7 rfl (by kernel_rfl) (fun _ _ _ h => h) rfl (fun w' hw => X.assign (by conv => lhs; whnf)) hS6 ?_
    refine D.done (by kernel_rfl) ?_
    replace gk1 := gk1.ext hS6
    replace gk2 := gk2.ext hS6
    refine ⟨(A4, c4), At1 (by first | rfl | exact at_int rfl (by omega) | exact at_slice rfl (by omega) | exact at_int rfl (by simp)), (by (iterate 8 refine Agr.lk rfl ?_); exact Agr.rfl'), ?_⟩
    exact ⟨ho4, hS6⟩
  · rintro ⟨A1, c1⟩ g w4 ⟨ho1, he4⟩
    dsimp only at ho1
    -- until
    refine J.seq ?_
    refine J.seq ?_
    refine J.region ?_
    refine L.va rfl (X.assign (by conv => lhs; whnf)) ?_
    refine L.nil ?_
    refine J.block ?_
    -- loop
    refine J.loop (X := Nat × Option Addr × Nat × Nat) [5, 6, 7, 15, 16, 17, 18, 19, 20, 21, 22, 23, 24, 25, 26, 27, 28, 29, 30, 31, 32, 33, 34, 35, 36, 37, 38, 39, 40, 41, 42, 43, 44, 45, 46, 47, 48, 49, 50, 51, 52, 53, 54, 55, 56, 57, 58, 59, 60, 61, 62, 63, 64, 65, 66] (fun x => [(6, .int .i64 (x.1 : Int)), (5, .slice x.2.1 x.2.2.1 x.2.2.2)]) (fun x w' => x.1 ≤ s.nd ∧ x.2.2.1 = (LA x.1).length ∧ w'.ownsRow w2.heap.size 9 1 (.slice x.2.1 x.2.2.1 x.2.2.2) x.2.2.1 (strs (LA x.1)) ∧ Ext w2 w') (fun x => s.nd - x.1) ((0, A1, (dif2 s t).length, c1)) (At2 (by first | rfl | exact at_int rfl (by omega) | exact at_slice rfl (by omega) | exact at_int rfl (by simp)) (by first | rfl | exact at_int rfl (by omega) | exact at_slice rfl (by omega) | exact at_int rfl (by simp))) ?_ ?_
    · refine ⟨by dsimp only; omega, by dsimp only; rw [va0], ?_, he4⟩
      dsimp only
      rw [va0]
      exact ho1
    · rintro ⟨i, A, m, c⟩ g w7 ⟨hi, hm, ho, he⟩
      dsimp only at hi hm ho
      have z1 : ((i, A, m, c) : Nat × Option Addr × Nat × Nat).1 = i := rfl
      have j1 := gk1.ext he
      have j2 := gk2.ext he
      have al1 := val i
      refine J.seq ?_
      refine J.seq ?_
      refine J.region ?_
      refine L.va rfl (X.move (by conv => lhs; whnf)) ?_
      refine L.va rfl (X.fieldAddr rfl Try.underlying97 rfl sz_93 (by decide)) ?_
      refine L.va rfl (X.load rfl sc_93 (by first | exact Ld.blk j1 rfl | exact Ld.blk j2 rfl)) ?_
      refine L.va rfl (X.len rfl Try.underlying93) ?_
      refine L.va rfl (X.lss rfl rfl) ?_
      refine L.nil ?_
      -- cond
      refine J.dec rfl (fun hlt => ?_) (fun hlt => ?_)
      · have hil : i < s.ds.length := by dsimp only at hlt; omega
        have hst := vas i (by omega)
        have hxs : (s.ds.getD i d0).1.size ≤ 1000 := hS _ (List.mem_append_left _ (List.mem_append_left _ (dmem hil)))
        obtain ⟨LD, vb0, vbs, vbn, vbl⟩ := mF hU (s.ds.getD i d0) (LA i)
        rw [k1] at vbs vbn
        rw [← hst] at vbn
        refine J.skip ?_
        refine J.seq ?_
        refine J.block ?_
        refine J.seq ?_
        refine J.region ?_
        refine L.va rfl (X.assign (by conv => lhs; whnf)) ?_
        refine L.nil ?_
        refine J.block ?_
        -- loop
        refine J.loop (X := Nat × Option Addr × Nat × Nat) [5, 7, 22, 23, 24, 25, 26, 27, 28, 29, 30, 31, 32, 33, 34, 35, 36, 37, 38, 39, 40, 41, 42, 43, 44, 45, 46, 47, 48, 49, 50, 51, 52, 53, 54, 55, 56, 57, 58, 59, 60, 61, 62, 63, 64, 65, 66] (fun x => [(7, .int .i64 (x.1 : Int)), (5, .slice x.2.1 x.2.2.1 x.2.2.2)]) (fun x w' => x.1 ≤ t.nd ∧ x.2.2.1 = (LD x.1).length ∧ w'.ownsRow w2.heap.size 9 1 (.slice x.2.1 x.2.2.1 x.2.2.2) x.2.2.1 (strs (LD x.1)) ∧ Ext w2 w') (fun x => t.nd - x.1) ((0, A, m, c)) (At2 (by first | rfl | exact at_int rfl (by omega) | exact at_slice rfl (by omega) | exact at_int rfl (by simp)) (by first | rfl | exact at_int rfl (by omega) | exact at_slice rfl (by omega) | exact at_int rfl (by simp))) ?_ ?_
        · refine ⟨by dsimp only; omega, by dsimp only; rw [vb0]; exact hm, ?_, he⟩
          dsimp only
          rw [vb0]
          exact ho
        · rintro ⟨j, A', m', c'⟩ g w8 ⟨hj, hm', ho', he'⟩
          dsimp only at hj hm' ho'
          have y1 : ((j, A', m', c') : Nat × Option Addr × Nat × Nat).1 = j := rfl
          have y2 : ((j, A', m', c') : Nat × Option Addr × Nat × Nat).2.2.1 = m' := rfl
          have j3 := gk1.ext he'
          have j4 := gk2.ext he'
          have e1 := (hs2.ext he').hd
          have e2 := (ht2.ext he').hd
          have bl1 := vbl j
          refine J.seq ?_
          refine J.seq ?_
          refine J.region ?_
          refine L.va rfl (X.move (by conv => lhs; whnf)) ?_
          refine L.va rfl (X.fieldAddr rfl Try.underlying97 rfl sz_93 (by decide)) ?_
          refine L.va rfl (X.load rfl sc_93 (by first | exact Ld.blk j3 rfl | exact Ld.blk j4 rfl | exact Ld.dimS e1 (by omega) | exact Ld.dimN e1 (by omega) | exact Ld.dimS e2 (by omega) | exact Ld.dimN e2 (by omega))) ?_
          refine L.va rfl (X.len rfl Try.underlying93) ?_
          refine L.va rfl (X.lss rfl rfl) ?_
          refine L.nil ?_
          -- cond
          refine J.dec rfl (fun hlt2 => ?_) (fun hlt2 => ?_)
          · have hjl : j < t.ds.length := by dsimp only at hlt2; omega
            have hsd := vbs j (by omega)
            have hxs' : (s.ds.getD ((i, A, m, c) : Nat × Option Addr × Nat × Nat).1 d0).1.size ≤ 1000 := hxs
            refine J.skip ?_
            refine J.seq ?_
            refine J.block ?_
            refine J.seq ?_
            -- draw
            refine J.quiet mixed (by kernel_rfl) ?_
            refine Qt.va rfl (fun w' hw => X.fieldAddr rfl Try.underlying97 rfl sz_93 (by decide)) ?_
            refine Qt.va rfl (fun w' hw => X.load rfl sc_93 (by first | exact Ld.blk (j3.ext hw) rfl | exact Ld.blk (j4.ext hw) rfl | exact Ld.dimS (e1.ext hw) (by omega) | exact Ld.dimN (e1.ext hw) (by omega) | exact Ld.dimS (e2.ext hw) (by omega) | exact Ld.dimN (e2.ext hw) (by omega))) ?_
            refine Qt.va rfl (fun w' hw => X.move (by conv => lhs; whnf)) ?_
            refine Qt.va rfl (fun w' hw => (by first | exact X.indexAddrn rfl rfl Try.underlying93 sz_151 (by first | exact Option.some_ne_none _ | exact e1.some_ (by omega) | exact e2.some_ (by omega)) (by omega) | exact X.indexAddr rfl rfl Try.underlying93 sz_151 (by first | exact Option.some_ne_none _ | exact e1.some_ (by omega) | exact e2.some_ (by omega)) (by omega))) ?_
            refine Qt.va rfl (fun w' hw => X.fieldP rfl Try.underlying151 rfl sz_9 (by decide) (by first | exact Option.some_ne_none _ | exact e1.some_ (by omega) | exact e2.some_ (by omega))) ?_
            refine Qt.va rfl (fun w' hw => X.load rfl sc_9 (by first | exact Ld.blk (j3.ext hw) rfl | exact Ld.blk (j4.ext hw) rfl | exact Ld.dimS (e1.ext hw) (by omega) | exact Ld.dimN (e1.ext hw) (by omega) | exact Ld.dimS (e2.ext hw) (by omega) | exact Ld.dimN (e2.ext hw) (by omega))) ?_
            refine Qt.va rfl (fun w' hw => X.fieldAddr rfl Try.underlying97 rfl sz_93 (by decide)) ?_
            refine Qt.va rfl (fun w' hw => X.load rfl sc_93 (by first | exact Ld.blk (j3.ext hw) rfl | exact Ld.blk (j4.ext hw) rfl | exact Ld.dimS (e1.ext hw) (by omega) | exact Ld.dimN (e1.ext hw) (by omega) | exact Ld.dimS (e2.ext hw) (by omega) | exact Ld.dimN (e2.ext hw) (by omega))) ?_
            refine Qt.va rfl (fun w' hw => X.move (by conv => lhs; whnf)) ?_
            refine Qt.va rfl (fun w' hw => (by first | exact X.indexAddrn rfl rfl Try.underlying93 sz_151 (by first | exact Option.some_ne_none _ | exact e1.some_ (by omega) | exact e2.some_ (by omega)) (by omega) | exact X.indexAddr rfl rfl Try.underlying93 sz_151 (by first | exact Option.some_ne_none _ | exact e1.some_ (by omega) | exact e2.some_ (by omega)) (by omega))) ?_
            refine Qt.va rfl (fun w' hw => X.fieldP rfl Try.underlying151 rfl sz_9 (by decide) (by first | exact Option.some_ne_none _ | exact e1.some_ (by omega) | exact e2.some_ (by omega))) ?_
            refine Qt.va rfl (fun w' hw => X.load rfl sc_9 (by first | exact Ld.blk (j3.ext hw) rfl | exact Ld.blk (j4.ext hw) rfl | exact Ld.dimS (e1.ext hw) (by omega) | exact Ld.dimN (e1.ext hw) (by omega) | exact Ld.dimS (e2.ext hw) (by omega) | exact Ld.dimN (e2.ext hw) (by omega))) ?_
            refine Qt.va rfl (fun w' hw => X.eqlS rfl rfl) ?_
            refine Qt.va rfl (fun w' hw => X.move (by conv => lhs; whnf)) ?_
            -- case t42
            by_cases hn : (s.ds.getD i d0).1 = (t.ds.getD j d0).1
            · refine Qt.caseDecT (k := 42) rfl (by exact hn) ?_
              refine Qt.va rfl (fun w' hw => X.fieldAddr rfl Try.underlying97 rfl sz_93 (by decide)) ?_
              refine Qt.va rfl (fun w' hw => X.load rfl sc_93 (by first | exact Ld.blk (j3.ext hw) rfl | exact Ld.blk (j4.ext hw) rfl | exact Ld.dimS (e1.ext hw) (by omega) | exact Ld.dimN (e1.ext hw) (by omega) | exact Ld.dimS (e2.ext hw) (by omega) | exact Ld.dimN (e2.ext hw) (by omega))) ?_
              refine Qt.va rfl (fun w' hw => X.move (by conv => lhs; whnf)) ?_
              refine Qt.va rfl (fun w' hw => (by first | exact X.indexAddrn rfl rfl Try.underlying93 sz_151 (by first | exact Option.some_ne_none _ | exact e1.some_ (by omega) | exact e2.some_ (by omega)) (by omega) | exact X.indexAddr rfl rfl Try.underlying93 sz_151 (by first | exact Option.some_ne_none _ | exact e1.some_ (by omega) | exact e2.some_ (by omega)) (by omega))) ?_
              refine Qt.va rfl (fun w' hw => X.fieldP rfl Try.underlying151 rfl sz_3 (by decide) (by first | exact Option.some_ne_none _ | exact e1.some_ (by omega) | exact e2.some_ (by omega))) ?_
              refine Qt.va rfl (fun w' hw => X.load rfl sc_3 (by first | exact Ld.blk (j3.ext hw) rfl | exact Ld.blk (j4.ext hw) rfl | exact Ld.dimS (e1.ext hw) (by omega) | exact Ld.dimN (e1.ext hw) (by omega) | exact Ld.dimS (e2.ext hw) (by omega) | exact Ld.dimN (e2.ext hw) (by omega))) ?_
              refine Qt.va rfl (fun w' hw => X.fieldAddr rfl Try.underlying97 rfl sz_93 (by decide)) ?_
              refine Qt.va rfl (fun w' hw => X.load rfl sc_93 (by first | exact Ld.blk (j3.ext hw) rfl | exact Ld.blk (j4.ext hw) rfl | exact Ld.dimS (e1.ext hw) (by omega) | exact Ld.dimN (e1.ext hw) (by omega) | exact Ld.dimS (e2.ext hw) (by omega) | exact Ld.dimN (e2.ext hw) (by omega))) ?_
              refine Qt.va rfl (fun w' hw => X.move (by conv => lhs; whnf)) ?_
              refine Qt.va rfl (fun w' hw => (by first | exact X.indexAddrn rfl rfl Try.underlying93 sz_151 (by first | exact Option.some_ne_none _ | exact e1.some_ (by omega) | exact e2.some_ (by omega)) (by omega) | exact X.indexAddr rfl rfl Try.underlying93 sz_151 (by first | exact Option.some_ne_none _ | exact e1.some_ (by omega) | exact e2.some_ (by omega)) (by omega))) ?_
              refine Qt.va rfl (fun w' hw => X.fieldP rfl Try.underlying151 rfl sz_3 (by decide) (by first | exact Option.some_ne_none _ | exact e1.some_ (by omega) | exact e2.some_ (by omega))) ?_
              refine Qt.va rfl (fun w' hw => X.load rfl sc_3 (by first | exact Ld.blk (j3.ext hw) rfl | exact Ld.blk (j4.ext hw) rfl | exact Ld.dimS (e1.ext hw) (by omega) | exact Ld.dimN (e1.ext hw) (by omega) | exact Ld.dimS (e2.ext hw) (by omega) | exact Ld.dimN (e2.ext hw) (by omega))) ?_
              refine Qt.va rfl (fun w' hw => X.neq rfl rfl) ?_
              refine Qt.va rfl (fun w' hw => X.pickT rfl (by conv => lhs; whnf)) ?_
              refine Qt.nil (fun w9 hq => ?_)
              replace j3 := j3.ext hq
              replace j4 := j4.ext hq
              replace e1 := e1.ext hq
              replace e2 := e2.ext hq
              -- cond
              by_cases hv : (s.ds.getD i d0).2 = (t.ds.getD j d0).2
              · rw [show mm (s.ds.getD i d0) (t.ds.getD j d0) = false by simp only [mm, hn, hv]; simp] at hsd
                have hsd : LD (j + 1) = LD j := by rw [hsd]; exact List.append_nil _
                refine J.ndecF rfl (by exact hv) ?_
                refine J.skip ?_
                refine J.region ?_
                refine L.va rfl (X.move (by conv => lhs; whnf)) ?_
                refine L.va rfl (X.add rfl rfl (by omega)) ?_
                refine L.va rfl (X.assign (by conv => lhs; whnf)) ?_
                refine L.nil ?_
                -- loopend
                refine ⟨(j + 1, A', m', c'), At2 (by first | rfl | exact at_int rfl (by omega) | exact at_slice rfl (by omega) | exact at_int rfl (by simp)) (by first | rfl | exact at_int rfl (by omega) | exact at_slice rfl (by omega) | exact at_int rfl (by simp)), (by (iterate 37 refine Agr.lk rfl ?_); exact Agr.lk rfl (Agr.hav rfl Agr.rfl')), ?_⟩
                exact ⟨⟨by dsimp only; omega, by dsimp only; rw [hsd]; exact hm', by dsimp only; rw [hsd]; exact ho'.ext hq, he'.trans hq⟩, by dsimp only; omega⟩
              · rw [show mm (s.ds.getD i d0) (t.ds.getD j d0) = true by simp only [mm, decide_eq_true hn, decide_eq_false hv]; rfl] at hsd
                have hsd : LD (j + 1) = LD j ++ [sTilde ++ (s.ds.getD i d0).1] := hsd
                refine J.ndecT rfl (by exact hv) ?_
                have hsT : sTilde.size = 1 := rfl
                have hsT' : (ByteArray.mk #[126]).size = 1 := rfl
                refine J.region ?_
                refine L.va rfl (X.move (by conv => lhs; whnf)) ?_
                refine L.va rfl (X.fieldAddr rfl Try.underlying97 rfl sz_93 (by decide)) ?_
                refine L.va rfl (X.load rfl sc_93 (by first | exact Ld.blk j3 rfl | exact Ld.blk j4 rfl | exact Ld.dimS e1 (by omega) | exact Ld.dimN e1 (by omega) | exact Ld.dimS e2 (by omega) | exact Ld.dimN e2 (by omega))) ?_
                refine L.va rfl (X.move (by conv => lhs; whnf)) ?_
                refine L.va rfl ((by first | exact X.indexAddrn rfl rfl Try.underlying93 sz_151 (by first | exact Option.some_ne_none _ | exact e1.some_ (by omega) | exact e2.some_ (by omega)) (by omega) | exact X.indexAddr rfl rfl Try.underlying93 sz_151 (by first | exact Option.some_ne_none _ | exact e1.some_ (by omega) | exact e2.some_ (by omega)) (by omega))) ?_
                refine L.va rfl (X.fieldP rfl Try.underlying151 rfl sz_9 (by decide) (by first | exact Option.some_ne_none _ | exact e1.some_ (by omega) | exact e2.some_ (by omega))) ?_
                refine L.va rfl (X.load rfl sc_9 (by first | exact Ld.blk j3 rfl | exact Ld.blk j4 rfl | exact Ld.dimS e1 (by omega) | exact Ld.dimN e1 (by omega) | exact Ld.dimS e2 (by omega) | exact Ld.dimN e2 (by omega))) ?_
                refine L.va rfl (X.addS rfl rfl (by omega)) ?_
                -- buildSlice
                refine L.bslice (vs := [_]) rfl (Evs.cons (by conv => lhs; whnf) Evs.nil) rfl rfl rfl rfl Try.underlying94 sz_9 zr_9 (by decide) ?_
                intro b10 w10 hb10 hs10 hk10 he10
                have hzz : w2.heap.size ≤ w10.heap.size := ((he'.trans hq).trans he10).le
                -- append
                refine L.appendV (q := m' + 1) (ys := strs (LD j) ++ strs [sTilde ++ (s.ds.getD i d0).1]) rfl rfl rfl Try.underlying94 el_9 (ho'.ext (hq.trans he10)) ((blk_reads (q := 1) (l := strs [sTilde ++ (s.ds.getD i d0).1]) hk10 (by omega : b10 < w10.heap.size) rfl)) (by first | rfl | exact strs_ones _ | assumption) (by omega) (by simp) (by unfold maxLen; omega) (by omega) ?_
                intro A11 c11 w11 ho11 hg11 hb11 hor11
                rw [strs_append, ← hsd] at ho11
                refine L.va rfl (X.assign (by conv => lhs; whnf)) ?_
                refine L.nil ?_
                refine J.region ?_
                refine L.va rfl (X.move (by conv => lhs; whnf)) ?_
                refine L.va rfl (X.add rfl rfl (by omega)) ?_
                refine L.va rfl (X.assign (by conv => lhs; whnf)) ?_
                refine L.nil ?_
                -- loopend
                refine ⟨(j + 1, A11, m' + 1, c11), At2 (by first | rfl | exact at_int rfl (by omega) | exact at_slice rfl (by omega) | exact at_int rfl (by simp)) (by first | rfl | exact at_int rfl (by omega) | exact at_slice rfl (by omega) | exact at_int rfl (by simp)), (by (iterate 48 refine Agr.lk rfl ?_); exact Agr.lk rfl (Agr.hav rfl Agr.rfl')), ?_⟩
                exact ⟨⟨by dsimp only; omega, by dsimp only; rw [hsd, List.length_append, ← hm']; rfl, ho11, ((he'.trans hq).trans he10).low hb11 (Nat.le_refl _)⟩, by dsimp only; omega⟩
            · rw [show mm (s.ds.getD i d0) (t.ds.getD j d0) = false by simp only [mm, decide_eq_false hn]; rfl] at hsd
              have hsd : LD (j + 1) = LD j := by rw [hsd]; exact List.append_nil _
              refine Qt.caseDecF (k := 42) rfl (by exact hn) ?_
              refine Qt.no rfl ?_
              refine Qt.no rfl ?_
              refine Qt.no rfl ?_
              refine Qt.no rfl ?_
              refine Qt.no rfl ?_
              refine Qt.no rfl ?_
              refine Qt.no rfl ?_
              refine Qt.no rfl ?_
              refine Qt.no rfl ?_
              refine Qt.no rfl ?_
              refine Qt.no rfl ?_
              refine Qt.no rfl ?_
              refine Qt.no rfl ?_
              refine Qt.va rfl (fun w' hw => X.pickF rfl (by conv => lhs; whnf)) ?_
              refine Qt.nil (fun w9 hq => ?_)
              replace j3 := j3.ext hq
              replace j4 := j4.ext hq
              replace e1 := e1.ext hq
              replace e2 := e2.ext hq
              -- cond
              refine J.iteF rfl ?_
              refine J.skip ?_
              refine J.region ?_
              refine L.va rfl (X.move (by conv => lhs; whnf)) ?_
              refine L.va rfl (X.add rfl rfl (by omega)) ?_
              refine L.va rfl (X.assign (by conv => lhs; whnf)) ?_
              refine L.nil ?_
              -- loopend
              refine ⟨(j + 1, A', m', c'), At2 (by first | rfl | exact at_int rfl (by omega) | exact at_slice rfl (by omega) | exact at_int rfl (by simp)) (by first | rfl | exact at_int rfl (by omega) | exact at_slice rfl (by omega) | exact at_int rfl (by simp)), (by (iterate 37 refine Agr.lk rfl ?_); exact Agr.lk rfl (Agr.hav rfl Agr.rfl')), ?_⟩
              exact ⟨⟨by dsimp only; omega, by dsimp only; rw [hsd]; exact hm', by dsimp only; rw [hsd]; exact ho'.ext hq, he'.trans hq⟩, by dsimp only; omega⟩
          · obtain rfl : j = t.nd := by dsimp only at hlt2; omega
            rw [vbn] at hm' ho'
            refine J.exit ?_
            refine J.region ?_
            refine L.va rfl (X.move (by conv => lhs; whnf)) ?_
            refine L.va rfl (X.add rfl rfl (by omega)) ?_
            refine L.va rfl (X.assign (by conv => lhs; whnf)) ?_
            refine L.nil ?_
            -- loopend
            refine ⟨(i + 1, A', m', c'), At2 (by first | rfl | exact at_int rfl (by omega) | exact at_slice rfl (by omega) | exact at_int rfl (by simp)) (by first | rfl | exact at_int rfl (by omega) | exact at_slice rfl (by omega) | exact at_int rfl (by simp)), (by (iterate 8 refine Agr.lk rfl ?_); refine Agr.lk rfl ?_; refine Agr.hav rfl ?_; (iterate 6 refine Agr.lk rfl ?_); exact Agr.lk rfl (Agr.hav rfl Agr.rfl')), ?_⟩
            exact ⟨⟨by dsimp only; omega, hm', ho', he'⟩, by dsimp only; omega⟩
      · obtain rfl : i = s.nd := by dsimp only at hlt; omega
        rw [van] at hm ho
        subst hm
        have hs7 := hs2.ext he
        have ht7 := ht2.ext he
        have j9 := j1
        have j10 := j2
        refine J.exit ?_
        -- until
        refine J.cut (X := Option Addr × Nat) [5, 67, 68, 69, 70, 71, 72, 73, 74, 75] (fun x => [(5, .slice x.1 (dif4 s t).length x.2)]) (fun x w' => w'.ownsRow w2.heap.size 9 1 (.slice x.1 (dif4 s t).length x.2) (dif4 s t).length (strs (dif4 s t)) ∧ Ext w2 w') ?_ ?_
        · refine J.seq ?_
          refine J.region ?_
          refine L.va rfl (X.fieldAddr rfl Try.underlying97 rfl sz_95 (by decide)) ?_
          refine L.va rfl (X.load rfl sc_95 (by first | exact Ld.blk j1 rfl | exact Ld.blk j2 rfl)) ?_
          refine L.va rfl (X.fieldAddr rfl Try.underlying97 rfl sz_95 (by decide)) ?_
          refine L.va rfl (X.load rfl sc_95 (by first | exact Ld.blk j1 rfl | exact Ld.blk j2 rfl)) ?_
          -- callfn bushel/bushelref11.Masks
          refine L.call rfl en_89 rfl (rmasks_any s.Av s.nv s.cv t.Av t.nv t.cv s.zs t.zs _ hs7.hv ht7.hv (by omega) (by omega)) ?_
          rintro e w8 ⟨rfl, he8⟩
          refine ⟨_, rfl, ?_⟩
          have he8 : Ext w7 w8 := he8
          have ho8 := ho.ext he8
          have he28 := he.trans he8
          refine L.va rfl (X.not rfl) ?_
          refine L.nil ?_
          -- cond
          by_cases hzs : s.zs = t.zs
          · have e4 : dif4 s t = dif3 s t := by simp [dif4, hzs]
            rw [e4]
            rw [show decide (s.zs = t.zs) = true from decide_eq_true hzs]
            refine J.iteF rfl ?_
            refine J.skip ?_
            -- cutend
            refine ⟨(A, c), At1 (by first | rfl | exact at_int rfl (by omega) | exact at_slice rfl (by omega) | exact at_int rfl (by simp)), (by (iterate 6 refine Agr.lk rfl ?_); exact Agr.rfl'), ?_⟩
            exact ⟨ho8, he28⟩
          · have e4 : dif4 s t = dif3 s t ++ [sViews] := by simp [dif4, hzs]
            rw [show decide (s.zs = t.zs) = false from decide_eq_false hzs]
            refine J.iteT rfl ?_
            refine J.region ?_
            refine L.va rfl (X.move (by conv => lhs; whnf)) ?_
            -- buildSlice
            refine L.bslice (vs := [_]) rfl (Evs.cons (by conv => lhs; whnf) Evs.nil) rfl rfl rfl rfl Try.underlying94 sz_9 zr_9 (by decide) ?_
            intro b9 w9 hb9 hs9 hk9 he9
            have hzz : w2.heap.size ≤ w9.heap.size := (he28.trans he9).le
            have hl4 : (dif4 s t).length = (dif3 s t).length + 1 := by rw [e4]; simp
            -- append
            refine L.appendV (q := (dif4 s t).length) (ys := strs (dif3 s t) ++ strs [sViews]) rfl rfl rfl Try.underlying94 el_9 (ho8.ext he9) ((blk_reads (q := 1) (l := strs [sViews]) hk9 (by omega : b9 < w9.heap.size) rfl)) (by first | rfl | exact strs_ones _ | assumption) (by omega) (by simp) (by unfold maxLen; omega) (by omega) ?_
            intro A10 c10 w10 ho10 hg10 hb10 hor10
            rw [strs_append, ← e4] at ho10
            refine L.va rfl (X.assign (by conv => lhs; whnf)) ?_
            refine L.nil ?_
            -- cutend
            refine ⟨(A10, c10), At1 (by first | rfl | exact at_int rfl (by omega) | exact at_slice rfl (by omega) | exact at_int rfl (by simp)), (by (iterate 10 refine Agr.lk rfl ?_); exact Agr.rfl'), ?_⟩
            exact ⟨ho10, (he28.trans he9).low hb10 (Nat.le_refl _)⟩
        · rintro ⟨A, c⟩ g w8 ⟨ho, he⟩
          dsimp only at ho
          have j11 := gk1.ext he
          have j12 := gk2.ext he
          have hs8 := hs2.ext he
          have ht8 := ht2.ext he
          refine J.seq ?_
          refine J.seq ?_
          refine J.region ?_
          refine L.va rfl (X.move (by conv => lhs; whnf)) ?_
          refine L.va rfl (X.len rfl Try.underlying94) ?_
          refine L.va rfl (X.eql rfl rfl) ?_
          refine L.va rfl (X.move (by conv => lhs; whnf)) ?_
          -- case t79
          by_cases h0 : (dif4 s t).length = 0
          · refine L.caseDecT (k := 79) rfl (by omega) ?_
            refine L.va rfl ((by first | exact X.loadAgg rfl (range_l j11) Try.underlying97 rfl (by kernel_rfl) | exact X.loadAgg rfl (range_blk j11) Try.underlying97 rfl (by kernel_rfl) | exact X.loadAgg rfl (range_l j12) Try.underlying97 rfl (by kernel_rfl) | exact X.loadAgg rfl (range_blk j12) Try.underlying97 rfl (by kernel_rfl))) ?_
            refine L.va rfl ((by first | exact X.loadAgg rfl (range_l j11) Try.underlying97 rfl (by kernel_rfl) | exact X.loadAgg rfl (range_blk j11) Try.underlying97 rfl (by kernel_rfl) | exact X.loadAgg rfl (range_l j12) Try.underlying97 rfl (by kernel_rfl) | exact X.loadAgg rfl (range_blk j12) Try.underlying97 rfl (by kernel_rfl))) ?_
            -- callfn bushel/bushelref11.Same
            refine L.call rfl en_53 rfl ((hs8.rsame ht8)) ?_
            rintro e w9 ⟨rfl, he9⟩
            refine ⟨_, rfl, ?_⟩
            have he9 : Ext w8 w9 := he9
            have ho9 := ho.ext he9
            have he29 := he.trans he9
            refine L.va rfl (X.not rfl) ?_
            refine L.va rfl (X.pickT rfl (by conv => lhs; whnf)) ?_
            refine L.nil ?_
            -- cond
            by_cases hq : s.eqv t
            · have e5 : dif s t = dif4 s t := by simp [dif, hq]
              rw [show decide (s.eqv t) = true from decide_eq_true hq]
              refine J.iteF rfl ?_
              refine J.skip ?_
              refine J.seq ?_
              refine J.region ?_
              refine L.va rfl (X.move (by conv => lhs; whnf)) ?_
              refine L.va rfl (X.assign (by conv => lhs; whnf)) ?_
              refine L.nil ?_
              -- ret
              refine J.ret ?_
              refine fin1 ?_
              rw [e5]
              exact ⟨A, c, rfl, ho9.mono hz02, he02.trans he29⟩
            · have e5 : dif s t = dif4 s t ++ [sOrder] := by unfold dif; rw [if_pos ⟨h0, hq⟩]
              rw [show decide (s.eqv t) = false from decide_eq_false hq]
              refine J.iteT rfl ?_
              refine J.region ?_
              refine L.va rfl (X.move (by conv => lhs; whnf)) ?_
              -- buildSlice
              refine L.bslice (vs := [_]) rfl (Evs.cons (by conv => lhs; whnf) Evs.nil) rfl rfl rfl rfl Try.underlying94 sz_9 zr_9 (by decide) ?_
              intro b10 w10 hb10 hs10 hk10 he10
              have hzz : w2.heap.size ≤ w10.heap.size := (he29.trans he10).le
              have hl5 : (dif s t).length = (dif4 s t).length + 1 := by rw [e5]; simp
              -- append
              refine L.appendV (q := (dif s t).length) (ys := strs (dif4 s t) ++ strs [sOrder]) rfl rfl rfl Try.underlying94 el_9 (ho9.ext he10) ((blk_reads (q := 1) (l := strs [sOrder]) hk10 (by omega : b10 < w10.heap.size) rfl)) (by first | rfl | exact strs_ones _ | assumption) (by omega) (by simp) (by unfold maxLen; omega) (by omega) ?_
              intro A11 c11 w11 ho11 hg11 hb11 hor11
              rw [strs_append, ← e5] at ho11
              refine L.va rfl (X.assign (by conv => lhs; whnf)) ?_
              refine L.nil ?_
              refine J.seq ?_
              refine J.region ?_
              refine L.va rfl (X.move (by conv => lhs; whnf)) ?_
              refine L.va rfl (X.assign (by conv => lhs; whnf)) ?_
              refine L.nil ?_
              -- ret
              refine J.ret ?_
              refine fin1 ?_
              exact ⟨A11, c11, rfl, ho11.mono hz02, he02.trans ((he29.trans he10).low hb11 (Nat.le_refl _))⟩
          · have e5 : dif s t = dif4 s t := by simp [dif, h0]
            refine L.caseDecF (k := 79) rfl (by omega) ?_
            refine L.no rfl ?_
            refine L.no rfl ?_
            refine L.no rfl ?_
            refine L.no rfl ?_
            refine L.va rfl (X.pickF rfl (by conv => lhs; whnf)) ?_
            refine L.nil ?_
            -- cond
            refine J.iteF rfl ?_
            refine J.skip ?_
            refine J.seq ?_
            refine J.region ?_
            refine L.va rfl (X.move (by conv => lhs; whnf)) ?_
            refine L.va rfl (X.assign (by conv => lhs; whnf)) ?_
            refine L.nil ?_
            -- ret
            refine J.ret ?_
            refine fin1 ?_
            rw [e5]
            exact ⟨A, c, rfl, ho.mono hz02, he02.trans he⟩
end Sch
end Go.Proofs.Ytdmfikedojgjbaa
