/-
  Tourneys: Least, walked.
-/
import Derived.Test.YtmnlaekcojblkaaWTouA
namespace Go.Proofs.Ytmnlaekcojblkaa
set_option maxRecDepth 100000
open Go.RowKit H
open Odr Tou HeapK
set_option linter.unusedVariables false
theorem tleast (s : Bys) (k : Int) (w : World) (hs : s.At w.heap.size w) (hn : s.n ≤ 900000) : Calls Try.prog 29 #[s.val, .int .i64 k] w fun e w' => ∃ A m c o, e = .returned (.slice A m c) ∧ w'.ownsRow w.heap.size 3 1 (.slice A m c) m (nums .i64 o) ∧ Firsts (ahL s.ks) s.n m o ∧ m = min s.n k.toNat ∧ Ext w w' := by
  have hR := ahL_ord s.ks
  refine enter Try.func29 rfl (by kernel_rfl) ?_
  refine J.seq ?_
  refine J.region ?_
  refine L.va rfl (X.assign (by conv => lhs; whnf)) ?_
  refine L.nil ?_
  refine J.seq ?_
  refine J.seq ?_
  refine J.region ?_
  refine L.va rfl (X.move (by conv => lhs; whnf)) ?_
  refine L.va rfl (X.lss rfl rfl) ?_
  refine L.nil ?_
  -- cond
  refine J.dec rfl (fun hk => ?_) (fun hk => ?_)
  · refine J.seq ?_
    refine J.region ?_
    refine L.va rfl (X.assign (by conv => lhs; whnf)) ?_
    refine L.nil ?_
    -- ret
    refine J.ret ?_
    refine thn_ret <| ?_
    refine fin1 ?_
    exact ⟨none, 0, 0, [], rfl, own_nil _ _ _ _, ⟨rfl, fun j hj => absurd hj (by omega)⟩, by omega, Ext.refl _⟩
  · obtain ⟨q, rfl⟩ := Int.eq_ofNat_of_zero_le (show 0 ≤ k by omega)
    refine J.skip ?_
    refine J.seq ?_
    refine J.region ?_
    refine L.va rfl (X.move (by conv => lhs; whnf)) ?_
    refine L.va rfl (X.build (l := [_, _]) (Evs.cons (by conv => lhs; whnf) Evs.nil) (bld_run Try.underlying112 (bp_112 Try.underlying112) zr_112 rfl)) ?_
    -- box
    refine L.boxA (l := [_, _]) rfl rfl ?_
    intro d w1 hd1 hs1 hk1 he1
    have B1 : Bq s w.heap.size d (none, 0) w1 [] := ⟨hk1, own_nil _ _ _ _, hs.ext he1, by omega, (fun x hx => by cases hx), hn, Nat.zero_le _⟩
    have hx := B1.tch_ge
    refine L.va rfl (X.assign (by conv => lhs; whnf)) ?_
    refine L.nil ?_
    refine J.seq ?_
    refine J.seq ?_
    refine J.region ?_
    refine L.va rfl (X.move (by conv => lhs; whnf)) ?_
    refine L.va rfl (X.len rfl Try.underlying38) ?_
    refine L.va rfl (X.move (by conv => lhs; whnf)) ?_
    refine L.nil ?_
    refine J.block ?_
    -- loop
    refine J.loop (X := Nat × List Int × (Option Addr × Nat)) [6, 16, 17, 18, 19, 20, 21, 22, 23, 24, 25, 26, 27, 28, 29, 30, 31, 32, 33, 34, 35, 36, 37, 38, 39, 40, 41, 42, 43, 44, 45, 46] (fun (i, l, a) => [(16, .int .i64 (i : Int))]) (fun (i, l, a) w' => i ≤ s.n ∧ In1 (ahL s.ks) s.n i q l ∧ Bq s w.heap.size d a w' l ∧ Below w.heap.size w w') (fun (i, _) => s.n - i) ((0, [], (none, 0))) (At1 (by first | rfl | exact at_int rfl (by omega) | exact at_slice rfl (by omega) | exact at_int rfl (by simp))) ?_ ?_
    · exact ⟨Nat.zero_le _, In1.nil _ _, B1, he1⟩
    · rintro ⟨i, l, a⟩ g w2 ⟨hi, hI, H, hB⟩
      refine J.seq ?_
      refine J.region ?_
      refine L.va rfl (X.lss rfl rfl) ?_
      refine L.nil ?_
      refine J.seq ?_
      -- cond
      refine J.dec rfl (fun hlt => ?_) (fun hlt => ?_)
      · have hin : i < s.n := by omega
        have hln := hI.ln
        have c1 := H.len_
        refine J.skip ?_
        refine J.seq ?_
        refine J.block ?_
        refine J.seq ?_
        refine J.region ?_
        refine L.va rfl (X.move (by conv => lhs; whnf)) ?_
        refine L.va rfl (X.assign (by conv => lhs; whnf)) ?_
        refine L.nil ?_
        refine J.seq ?_
        refine J.region ?_
        refine L.va rfl (X.move (by conv => lhs; whnf)) ?_
        -- callfn (*bushel/tourney.best).Len
        refine L.call rfl en_86 rfl (c1) ?_
        rintro e _ ⟨rfl, rfl⟩
        refine ⟨_, rfl, ?_⟩
        refine L.va rfl (X.move (by conv => lhs; whnf)) ?_
        refine L.va rfl (X.lss rfl rfl) ?_
        refine L.nil ?_
        -- cond
        refine J.dec rfl (fun hq => ?_) (fun hq => ?_)
        · refine J.region ?_
          refine L.va rfl (X.move (by conv => lhs; whnf)) ?_
          refine L.va rfl (X.mkI rfl Try.underlying110 rfl) ?_
          refine L.va rfl (X.move (by conv => lhs; whnf)) ?_
          refine L.va rfl (X.mkI rfl Try.underlying3 rfl) ?_
          -- callfn container/heap.Push
          refine L.call rfl en_87 rfl (H.hpush (by omega) (x := (i : Int)) (by omega)) ?_
          rintro e w3 ⟨rfl, a', H3, hC, _⟩
          refine ⟨_, rfl, ?_⟩
          refine L.nil ?_
          refine J.region ?_
          refine L.va rfl (X.add rfl rfl (by omega)) ?_
          refine L.va rfl (X.move (by conv => lhs; whnf)) ?_
          refine L.nil ?_
          -- loopend
          refine ⟨(i + 1, siftUk (kap (ahL s.ks) s.n) (l.length + 1) (l ++ [(i : Int)]) l.length, a'), At1 (by first | rfl | exact at_int rfl (by omega) | exact at_slice rfl (by omega) | exact at_int rfl (by simp)), (by (iterate 14 refine Agr.lk rfl ?_); exact Agr.lk rfl (Agr.hav rfl Agr.rfl')), ?_⟩
          exact ⟨⟨by omega, hI.add (by omega), H3, hB.trans (hC.below H.lo H.tch_ge)⟩, by show s.n - (i + 1) < s.n - i; omega⟩
        · have hlq : l.length = q := by have := hI.ln; omega
          have h0 := H.at_ (i := 0) (by omega)
          have hr := Reads.of_own H.hf
          have hb := H.hb
          have hA := hr.some_ (by omega)
          refine J.seq ?_
          refine J.region ?_
          refine L.va rfl (X.move (by conv => lhs; whnf)) ?_
          refine L.va rfl (X.move (by conv => lhs; whnf)) ?_
          refine L.va rfl (X.move (by conv => lhs; whnf)) ?_
          refine L.va rfl (X.nilCheck rfl) ?_
          refine L.va rfl (X.fieldAddr rfl Try.underlying112 rfl sz_29 (by decide)) ?_
          refine L.va rfl (X.load rfl sc_29 (by first | exact Ld.blk hb rfl | exact Ld.num hr (by omega) | exact hA)) ?_
          refine L.va rfl (X.index1n (j := 0) rfl rfl Try.underlying29 sz_3 (by first | exact Option.some_ne_none _ | exact hr.some_ (by omega) | exact hA) (by omega)) ?_
          refine L.va rfl (X.load rfl sc_3 (by first | exact Ld.blk hb rfl | exact Ld.num hr (by omega) | exact hA)) ?_
          -- callfn bushel/tourney.ahead
          refine L.call rfl en_88 rfl (taheadI s (i : Int) (l.getD 0 0) w2 (H.hs.more H.lo) (by omega) h0) ?_
          rintro e w3 ⟨rfl, he3⟩
          refine ⟨_, rfl, ?_⟩
          have H3 := H.ext he3
          refine L.nil ?_
          -- cond
          cases ha : ahL s.ks (i : Int).toNat (l.getD 0 0).toNat
          · refine J.iteF rfl ?_
            refine J.skip ?_
            refine J.region ?_
            refine L.va rfl (X.add rfl rfl (by omega)) ?_
            refine L.va rfl (X.move (by conv => lhs; whnf)) ?_
            refine L.nil ?_
            -- loopend
            refine ⟨(i + 1, l, a), At1 (by first | rfl | exact at_int rfl (by omega) | exact at_slice rfl (by omega) | exact at_int rfl (by simp)), (by (iterate 18 refine Agr.lk rfl ?_); exact Agr.lk rfl (Agr.hav rfl Agr.rfl')), ?_⟩
            exact ⟨⟨by omega, hI.skip hR hin hlq (by omega) (by simpa using ha), H3, hB.trans (he3.mono H.lo)⟩, by show s.n - (i + 1) < s.n - i; omega⟩
          · have hb3 := H3.hb
            refine J.iteT rfl ?_
            refine J.seq ?_
            refine J.region ?_
            refine L.va rfl (X.move (by conv => lhs; whnf)) ?_
            refine L.va rfl (X.nilCheck rfl) ?_
            refine L.va rfl (X.fieldAddr rfl Try.underlying112 rfl sz_29 (by decide)) ?_
            refine L.va rfl (X.load rfl sc_29 (by first | exact Ld.blk hb3 rfl | exact hA)) ?_
            refine L.va rfl (X.move (by conv => lhs; whnf)) ?_
            refine L.va rfl (X.index1n (j := 0) rfl rfl Try.underlying29 sz_3 (by first | exact Option.some_ne_none _ | exact hA) (by omega)) ?_
            -- store
            refine L.storeON rfl rfl (by conv => lhs; whnf) sz_3 (H3.hf) (by omega) ?_
            intro w4 ho4 hg4 hb4 hs4
            have hls : (l.set 0 (i : Int)).length = l.length := List.length_set ..
            have hg4' : Chg (Tch d a) w3 w4 := .of_grown hg4 (fun g hg => tch_own hg)
            have hB4 := hB.trans ((he3.mono H.lo).trans (hg4'.below H3.lo H3.tch_ge))
            have H4 : Bq s w.heap.size d a w4 (l.set 0 (i : Int)) := ⟨by rw [hls]; exact hb3.grown hg4 (fun e => own_blk_ne H3.hf hb3 (by decide) e.symm), by rw [hls]; exact ho4, H3.hs.below (hg4'.below H3.lo H3.tch_ge), H.hd, (fun x hx => by
              rcases List.mem_or_eq_of_mem_set hx with hx | rfl
              · exact H.el x hx
              · omega), hn, by rw [hls]; exact H.bl⟩
            have c5 := (Bq.kit s w.heap.size d a).fix_ H4 (by omega)
            rw [hls] at c5
            refine L.nil ?_
            refine J.region ?_
            refine L.va rfl (X.move (by conv => lhs; whnf)) ?_
            refine L.va rfl (X.mkI rfl Try.underlying110 rfl) ?_
            -- callfn container/heap.Fix
            refine L.call rfl en_89 rfl (c5) ?_
            rintro e w5 ⟨rfl, H5, hC5⟩
            refine ⟨_, rfl, ?_⟩
            refine L.nil ?_
            refine J.region ?_
            refine L.va rfl (X.add rfl rfl (by omega)) ?_
            refine L.va rfl (X.move (by conv => lhs; whnf)) ?_
            refine L.nil ?_
            -- loopend
            refine ⟨(i + 1, siftDk (kap (ahL s.ks) s.n) l.length (l.set 0 (i : Int)) 0 l.length, a), At1 (by first | rfl | exact at_int rfl (by omega) | exact at_slice rfl (by omega) | exact at_int rfl (by simp)), (by (iterate 27 refine Agr.lk rfl ?_); exact Agr.lk rfl (Agr.hav rfl Agr.rfl')), ?_⟩
            exact ⟨⟨by omega, hI.put hR hin hlq (by omega) (by simpa using ha), H5, hB4.trans (hC5.below H4.lo H4.tch_ge)⟩, by show s.n - (i + 1) < s.n - i; omega⟩
      · obtain rfl : i = s.n := by omega
        have hln := hI.ln
        have I2 := hI.last hR
        have c1 := H.len_
        refine J.exit ?_
        refine J.seq ?_
        refine J.region ?_
        refine L.va rfl (X.move (by conv => lhs; whnf)) ?_
        -- callfn (*bushel/tourney.best).Len
        refine L.call rfl en_86 rfl (c1) ?_
        rintro e _ ⟨rfl, rfl⟩
        refine ⟨_, rfl, ?_⟩
        -- makeSlice
        refine L.make (q := l.length) (c := l.length) rfl rfl rfl Try.underlying29 el_3 (by omega) ?_
        intro b3 w3 hb3 hs3 hk3 he3
        rw [made_nums] at hk3
        have hlo := H.lo
        have hbl := H.bl
        have hbs : w2.heap.size = b3 := by omega
        have hlm : l.length ≤ maxLen := by unfold maxLen; omega
        have ho3 : w3.ownsRow w.heap.size 3 1 (.slice (some ⟨b3, 0, none⟩) l.length l.length) l.length (nums .i64 (List.replicate l.length 0)) := blk_own1 (q := l.length) hk3 (by omega) hlm (by simp [nums])
        have hne : ¬ Tch d a b3 := by
          rintro (e | e)
          · have := H.hb.lt; omega
          · have := (H.hf.lt b3 ((own_n _ _ _ _).trans e)).2; omega
        have H3 := H.ext he3
        have hB3 := hB.trans (he3.mono hlo)
        obtain ⟨m, hm⟩ : ∃ m, m = l.length := ⟨_, rfl⟩
        rw [← hm] at ho3 hlm hln I2
        refine L.va rfl (X.assign (by conv => lhs; whnf)) ?_
        refine L.nil ?_
        refine J.seq ?_
        refine J.seq ?_
        refine J.region ?_
        refine L.va rfl (X.move (by conv => lhs; whnf)) ?_
        refine L.va rfl (X.len rfl Try.underlying29) ?_
        refine L.va rfl (X.sub rfl rfl (by omega)) ?_
        refine L.va rfl (X.assign (by conv => lhs; whnf)) ?_
        refine L.nil ?_
        refine J.block ?_
        -- loop
        refine J.loop (X := Nat × List Int × List Int) [8, 53, 54, 55, 56, 57, 58, 59, 60, 61, 62, 63] (fun (p, l, o) => [(8, .int .i64 ((p : Int) - 1))]) (fun (p, l, o) w' => p ≤ m ∧ In2 (ahL s.ks) s.n p l ∧ Bq s w.heap.size d a w' l ∧ Below w.heap.size w w' ∧ o.length = m ∧ (∀ j, p ≤ j → j < m → 0 ≤ o.getD j 0 ∧ o.getD j 0 < (s.n : Int) ∧ pos (ahL s.ks) s.n (o.getD j 0).toNat = j) ∧ w'.ownsRow w.heap.size 3 1 (.slice (some ⟨b3, 0, none⟩) m m) m (nums .i64 o)) (fun (p, _) => p) ((m, l, List.replicate m 0)) (At1 (by first | rfl | exact at_int rfl (by omega) | exact at_slice rfl (by omega) | exact at_int rfl (by simp))) ?_ ?_
        · exact ⟨Nat.le_refl _, I2, H3, hB3, List.length_replicate .., fun j h1 h2 => by omega, ho3⟩
        · rintro ⟨p, l2, o⟩ g w4 ⟨hp, I4, H4, hB4, hol, hof, ho4⟩
          refine J.seq ?_
          refine J.seq ?_
          refine J.region ?_
          refine L.va rfl (X.move (by conv => lhs; whnf)) ?_
          refine L.va rfl (X.geq rfl rfl) ?_
          refine L.nil ?_
          -- cond
          refine J.dec rfl (fun hge => ?_) (fun hge => ?_)
          · obtain ⟨p', rfl⟩ : ∃ p', p = p' + 1 := ⟨p - 1, by omega⟩
            obtain ⟨⟨r0, r1, r2⟩, I5⟩ := I4.pop hR
            have hl2 := I4.ln
            -- t63
            refine J.skip ?_
            refine J.seq ?_
            refine J.block ?_
            refine J.region ?_
            refine L.va rfl (X.move (by conv => lhs; whnf)) ?_
            refine L.va rfl (X.move (by conv => lhs; whnf)) ?_
            refine L.va rfl (X.move (by conv => lhs; whnf)) ?_
            refine L.va rfl (X.mkI rfl Try.underlying110 rfl) ?_
            -- callfn container/heap.Pop
            refine L.call rfl en_90 rfl ((Bq.kit s w.heap.size d a).pop_ H4 (by omega)) ?_
            rintro e w5 ⟨rfl, H5, hC5⟩
            refine ⟨_, rfl, ?_⟩
            have ho5 := hC5.own ho4 (fun g hg => by injection hg with hg; subst hg; exact hne)
            have hB5 := hB4.trans (hC5.below H4.lo H4.tch_ge)
            refine L.va rfl (X.assert rfl Try.underlying3 rfl) ?_
            refine L.va rfl (X.index1n (j := p') rfl (show Value.int .i64 (((p' + 1 : Nat) : Int) - 1) = _ from by rw [show (((p' + 1 : Nat) : Int) - 1) = (p' : Int) by omega]) Try.underlying29 sz_3 (fun h => by cases h) (by omega)) ?_
            -- store
            refine L.storeON rfl rfl (by conv => lhs; whnf) sz_3 (ho5) (by omega) ?_
            intro w6 ho6 hg6 hb6 hs6
            have hC6 : Chg (fun g => g = b3) w5 w6 := .of_grown hg6 (fun g hg => by injection hg with hg; exact hg.symm)
            have hwb : w.heap.size ≤ b3 := by omega
            have H6 := H5.chg hC6 (fun g h1 h2 => hne (h2 ▸ h1)) (fun g hg => by omega)
            have hB6 := hB5.trans (hC6.below H5.lo (fun g hg => by omega))
            refine L.nil ?_
            refine J.region ?_
            refine L.va rfl (X.move (by conv => lhs; whnf)) ?_
            refine L.va rfl (X.sub rfl rfl (by omega)) ?_
            refine L.va rfl (X.assign (by conv => lhs; whnf)) ?_
            refine L.nil ?_
            -- loopend
            refine ⟨(p', (siftDk (kap (ahL s.ks) s.n) l2.length (swp l2 0 (l2.length - 1)) 0 (l2.length - 1)).take (l2.length - 1), o.set p' (l2.getD 0 0)), At1 (by first | rfl | exact at_int rfl (by omega) | exact at_slice rfl (by omega) | exact at_int rfl (by simp)), (by (iterate 12 refine Agr.lk rfl ?_); exact Agr.lk rfl (Agr.hav rfl Agr.rfl')), ?_⟩
            refine ⟨⟨by omega, I5, H6, hB6, by rw [List.length_set]; exact hol, fun j h1 h2 => ?_, ho6⟩, by show p' < p' + 1; omega⟩
            rw [getD_set _ _ _ _ (by omega)]
            by_cases e : p' = j
            · subst e
              rw [if_pos rfl]
              exact ⟨r0, r1, r2⟩
            · rw [if_neg e]
              exact hof j (by omega) h2
          · obtain rfl : p = 0 := by omega
            refine J.exit ?_
            refine J.seq ?_
            refine J.region ?_
            refine L.va rfl (X.move (by conv => lhs; whnf)) ?_
            refine L.va rfl (X.assign (by conv => lhs; whnf)) ?_
            refine L.nil ?_
            -- ret
            refine J.ret ?_
            refine fin1 ?_
            subst hm
            exact ⟨_, _, _, o, rfl, ho4, ⟨hol, fun j hj => hof j (Nat.zero_le _) hj⟩, by omega, hB4⟩
end Go.Proofs.Ytmnlaekcojblkaa
