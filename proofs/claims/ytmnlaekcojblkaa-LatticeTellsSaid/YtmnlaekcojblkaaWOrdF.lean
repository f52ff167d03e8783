/-
  Orders: order.Key, walked.
-/
import Derived.Test.YtmnlaekcojblkaaWOrdE
namespace Go.Proofs.Ytmnlaekcojblkaa
set_option maxRecDepth 100000
open Go.RowKit H
open Byts Cod Flo Odr
set_option linter.unusedVariables false
theorem okey (A : Option Addr) (n c : Nat) (o : List (Int × Bool)) (r : Rw) (w : World) (ho : Reads w w.heap.size 2 A n (o.flatMap oR)) (lo : o.length = n) (hn : n ≤ 20) (hr : r.At w.heap.size w) (hk : r.Ok) (hnc : r.nc ≤ 20) :
    Calls Try.prog 20 #[.slice A n c, r.val] w fun e w' => ∃ A' c', e = .returned (.slice A' (keyO o r).length c') ∧ w'.ownsRow w.heap.size 5 1 (.slice A' (keyO o r).length c') (keyO o r).length (nums .u8 (keyO o r)) ∧ Ext w w' := by
  have hP : ∀ i, ((o.take i).flatMap (colC r)).length ≤ 200 := fun i => by
    have h := flat_le (l := o.take i) (f := colC r) (k := 10) fun x _ => colC_len hk x
    have h2 : (o.take i).length ≤ 20 := by rw [List.length_take]; omega
    omega
  refine enter Try.func20 rfl (by kernel_rfl) ?_
  refine J.seq ?_
  refine J.region ?_
  -- box
  refine L.boxA (l := [_, _]) rfl rfl ?_
  intro b1 w1 hb1 hs1 hk1 he1
  have hk1 : Blk w1 b1 32 r.vs.toArray := hk1
  have z1 := he1.le
  refine L.va rfl (X.assign (by conv => lhs; whnf)) ?_
  refine L.nil ?_
  refine J.seq ?_
  refine J.region ?_
  refine L.va rfl (X.assign (by conv => lhs; whnf)) ?_
  refine L.nil ?_
  refine J.seq ?_
  refine J.seq ?_
  refine J.region ?_
  refine L.va rfl (X.move (by conv => lhs; whnf)) ?_
  refine L.va rfl (X.len rfl Try.underlying22) ?_
  refine L.va rfl (X.move (by conv => lhs; whnf)) ?_
  refine L.nil ?_
  refine J.block ?_
  -- loop
  refine J.loop (X := Nat × Option Addr × Nat × Nat) [5, 7, 8, 9, 10, 15, 16, 17, 18, 19, 20, 21, 22, 23, 24, 25, 26, 27, 28, 29, 30, 31, 32, 33, 34, 35, 36, 37, 38, 39, 40, 41, 42, 43, 44, 45, 46, 47, 48, 49, 50, 51, 52, 53, 54, 55, 56, 57, 58, 59, 60] (fun (i, B, m, d) => [(15, .int .i64 (i : Int)), (5, .slice B m d)]) (fun (i, B, m, d) w' => i ≤ n ∧ m = ((o.take i).flatMap (colC r)).length ∧ w'.ownsRow w1.heap.size 5 1 (.slice B m d) m (nums .u8 ((o.take i).flatMap (colC r))) ∧ Ext w1 w') (fun (i, _) => n - i) ((0, none, 0, 0)) (At2 (by first | rfl | exact at_int rfl (by omega) | exact at_slice rfl (by omega) | exact at_int rfl (by simp)) (by first | rfl | exact at_int rfl (by omega) | exact at_slice rfl (by omega) | exact at_int rfl (by simp))) ?_ ?_
  · exact ⟨Nat.zero_le _, rfl, own_nil _ _ _ _, Ext.refl _⟩
  · rintro ⟨i, B, m, d⟩ g w2 ⟨hi, hm, ho2, he2⟩
    have he02 := he1.trans he2
    have hk2 := hk1.ext he2
    have z2 := he2.le
    have hmP := hP i
    refine J.seq ?_
    refine J.region ?_
    refine L.va rfl (X.lss rfl rfl) ?_
    refine L.nil ?_
    refine J.seq ?_
    -- cond
    refine J.dec rfl (fun hlt => ?_) (fun hlt => ?_)
    · have hin : i < o.length := by omega
      obtain ⟨x, hx⟩ : ∃ x, x = o.getD i or0 := ⟨_, rfl⟩
      have hgt := gtOr hin
      rw [← hx] at hgt
      have o2 := ho.ext he02
      have hA := o2.some_ (by omega)
      -- t18
      refine J.skip ?_
      refine J.seq ?_
      refine J.block ?_
      refine J.seq ?_
      refine J.region ?_
      refine L.va rfl ((by first | exact X.indexAddrn rfl rfl Try.underlying22 sz_99 (by first | exact Option.some_ne_none _ | exact hA) (by omega) | exact X.indexAddr rfl rfl Try.underlying22 sz_99 (by first | exact Option.some_ne_none _ | exact hA) (by omega))) ?_
      refine L.va rfl (X.loadRow (cs := oR x) rfl o2 (fun r u hu => flat_row oR_len hgt r u hu) (Nat.zero_lt_succ _) Try.underlying99 rfl (by kernel_rfl)) ?_
      -- alloc
      refine L.alloc rfl zr_99 ?_
      intro b7 w3 hb7 hs7 hk7 he3
      have ho3 := ho2.ext he3
      -- store
      refine L.storeAgg (vs := [_, _]) rfl rfl rfl rfl sz_99 (hk7) rfl ?_
      intro w4 hk4 hg4 hs4
      have he24 : Ext w2 w4 := he3.grw hg4 (by intro g hg; injection hg with hg; omega)
      have hk4 : Blk w4 b7 99 (oR x).toArray := hk4
      have ho4 := ho3.kept hg4 (.inr (own_blk_ne ho3 hk7 (by decide)))
      have hk14 := hk2.ext he24
      have he14 := he2.trans he24
      have he04 := he1.trans he14
      have z4 := he14.le
      obtain ⟨v, hv⟩ : ∃ v, v = valAt r x.1 := ⟨_, rfl⟩
      have hvx := valAt_lt hr x.1
      have hvn := valAt_ok hk x.1
      rw [← hv] at hvx hvn
      have hvl := vC_len hvn
      unfold okN at hvn
      refine L.nil ?_
      refine J.seq ?_
      refine J.region ?_
      refine L.va rfl (X.move (by conv => lhs; whnf)) ?_
      refine L.va rfl (X.len rfl Try.underlying33) ?_
      refine L.va rfl (X.assign (by conv => lhs; whnf)) ?_
      refine L.nil ?_
      -- until
      refine J.cut (X := Option Addr × Nat) [5, 9, 21, 22, 23, 24, 25, 26, 27, 28, 29, 30, 31, 32, 33, 34, 35, 36, 37, 38, 39, 40] (fun (B, d) => [(5, .slice B (m + (vC v).length) d)]) (fun (B, d) w' => w'.ownsRow w1.heap.size 5 1 (.slice B (m + (vC v).length) d) (m + (vC v).length) (nums .u8 ((o.take i).flatMap (colC r) ++ vC v)) ∧ Blk w' b7 99 (oR x).toArray ∧ Ext w1 w') ?_ ?_
      · have kv := oval r x.1 w4 ((hr.ext he04).more he04.le)
        rw [← hv] at kv
        refine J.seq ?_
        refine J.region ?_
        refine L.va rfl ((by first | exact X.loadAgg rfl (range_l hk14) Try.underlying32 rfl (by kernel_rfl) | exact X.loadAgg rfl (range_blk hk14) Try.underlying32 rfl (by kernel_rfl) | exact X.loadAgg rfl (range_l hk4) Try.underlying32 rfl (by kernel_rfl) | exact X.loadAgg rfl (range_blk hk4) Try.underlying32 rfl (by kernel_rfl))) ?_
        refine L.va rfl (X.fieldAddr rfl Try.underlying99 rfl sz_3 (by decide)) ?_
        refine L.va rfl (X.load rfl sc_3 (by first | exact Ld.blk hk14 rfl | exact Ld.blk hk4 rfl | exact hA)) ?_
        -- callfn bushel/order.value
        refine L.call rfl en_74 rfl (kv) ?_
        rintro e w5 ⟨rfl, he5⟩
        refine ⟨_, rfl, ?_⟩
        have he5 : Ext w4 w5 := he5
        -- alloc
        refine L.alloc rfl zr_102 ?_
        intro b9 w6 hb9 hs9 hk9 he6
        -- store
        refine L.storeAgg (vs := [_, _, _]) rfl rfl rfl rfl sz_102 (hk9) rfl ?_
        intro w7 hk97 hg7 hs7
        have he57 : Ext w5 w7 := he6.grw hg7 (by intro g hg; injection hg with hg; omega)
        have he47 := he5.trans he57
        have he17 := he14.trans he47
        have hk97 : Blk w7 b9 102 v.vs.toArray := hk97
        have ho7 := ho4.ext he47
        have hk77 := hk4.ext he47
        refine L.nil ?_
        refine J.seq ?_
        refine J.region ?_
        refine L.va rfl (X.fieldAddr rfl Try.underlying102 rfl sz_4 (by decide)) ?_
        refine L.va rfl (X.load rfl sc_4 (by first | exact Ld.blk hk97 rfl | exact hA)) ?_
        refine L.nil ?_
        -- cond
        obtain ⟨vr, vn, vx⟩ := v
        dsimp only at hvx hvn
        cases vr
        · refine J.iteF rfl ?_
          -- draw
          have el : (vC ⟨false, vn, vx⟩).length = (cI vn).length + 1 := rfl
          refine J.draw (ℓ := 1000000) (S := (fun w' => Ext w1 w' ∧ Blk w' b9 102 (⟨false, vn, vx⟩ : Vl).vs.toArray)) mixed (fun w8 hSE hS_h => ?_)
          have hS : ((fun w' => Ext w1 w' ∧ Blk w' b9 102 (⟨false, vn, vx⟩ : Vl).vs.toArray)) w8 := ⟨he17.trans hSE, hk97.ext hSE⟩
          have hoX := ho7.ext hSE
          have hkb := hk77.ext hSE
          refine D.va 0 rfl (by kernel_rfl) (fun _ _ _ h => h) rfl (fun w' hw => X.move (by conv => lhs; whnf)) hS ?_
          refine D.va 3 rfl (by kernel_rfl) (fun _ _ _ h => h) rfl (fun w' hw => X.fieldAddr rfl Try.underlying102 rfl sz_2 (by decide)) hS ?_
          refine D.va 4 rfl (by kernel_rfl) (fun _ _ _ h => h) rfl (fun w' hw => X.load rfl sc_2 (by first | exact Ld.blk hw.2 rfl)) hS ?_
          -- buildSlice
          have qz := (hS).1.le
          refine D.one 1 (by kernel_rfl) rfl ?_
          refine L.bslice (vs := [_]) rfl (Evs.cons (by conv => lhs; whnf) Evs.nil) rfl rfl rfl rfl Try.underlying33 sz_5 zr_5 (by decide) ?_
          intro b10 wa hb10 hs10 hk10 hea
          have hS1 := And.intro ((hS).1.trans hea) ((hS).2.ext hea)
          refine L.nil ?_
          refine ⟨fun _ => hS1, ?_⟩
          replace hkb := hkb.ext hea
          try replace hoX := hoX.ext hea
          try replace hoF := hoF.ext hea
          have qy := (hS1).1.le
          refine D.one 2 (by kernel_rfl) rfl ?_
          refine L.appendQ (q := m + 1) (ys := ((o.take i).flatMap (colC r) ++ [0])) rfl rfl rfl Try.underlying33 el_5 (hoX) ((blk_reads (q := 1) (l := nums .u8 [0]) hk10 hk10.lt rfl)) (by omega) (by simp) (by unfold maxLen; omega) (by omega) ?_
          intro B2 d2 wb hoX2 hg10 hb10' hor10
          have hS2 := And.intro ((hS1).1.low hb10' (Nat.le_refl _)) ((hS1).2.grown hg10 (fun e ↦ own_blk_ne hoX (hS1).2 (by decide) e.symm))
          refine L.nil ?_
          refine ⟨fun _ => hS2, ?_⟩
          replace hkb := hkb.grown hg10 (fun e => own_blk_ne hoX hkb (by decide) e.symm)
          try replace hoF := hoF.kept hg10 hneF
          have qx := (hS2).1.le
          refine D.one 5 (by kernel_rfl) rfl ?_
          refine L.call rfl en_76 rfl (code_I vn _ hvn.1 hvn.2) ?_
          rintro e wc ⟨B3, d3, rfl, hoF, hec⟩
          refine ⟨_, rfl, ?_⟩
          have hS3 := And.intro ((hS2).1.trans hec) ((hS2).2.ext hec)
          refine L.nil ?_
          refine ⟨fun _ => hS3, ?_⟩
          try have hneF := own_later hoX hoF
          replace hkb := hkb.ext hec
          try replace hoX := hoX.ext hec
          try replace hoX2 := hoX2.ext hec
          try replace hk10 := hk10.ext hec
          have qw := (hS3).1.le
          refine D.one 6 (by kernel_rfl) rfl ?_
          refine L.appendQ (q := m + (vC ⟨false, vn, vx⟩).length) (ys := ((o.take i).flatMap (colC r) ++ 0 :: cI vn)) rfl rfl rfl Try.underlying33 el_5 (hoX2) ((Reads.of_own hoF)) (by omega) (by simp) (by unfold maxLen; omega) (by omega) ?_
          intro B4 d4 wd ho4 hg4' hb4 hor4
          have hS4 := And.intro ((hS3).1.low hb4 (Nat.le_refl _)) ((hS3).2.grown hg4' (fun e ↦ own_blk_ne hoX2 (hS3).2 (by decide) e.symm))
          refine L.nil ?_
          refine ⟨fun _ => hS4, ?_⟩
          replace hkb := hkb.grown hg4' (fun e => own_blk_ne hoX2 hkb (by decide) e.symm)
          refine D.va 7 rfl (by kernel_rfl) (fun _ _ _ h => h) rfl (fun w' hw => X.assign (by conv => lhs; whnf)) hS4 ?_
          refine D.done (by kernel_rfl) ?_
          refine ⟨(B4, d4), At1 (by first | rfl | exact at_int rfl (by omega) | exact at_slice rfl (by omega) | exact at_int rfl (by simp)), (by (iterate 15 refine Agr.lk rfl ?_); exact Agr.rfl'), ?_⟩
          exact ⟨ho4, hkb, (hS4).1⟩
        · refine J.iteT rfl ?_
          -- draw
          have el : (vC ⟨true, vn, vx⟩).length = 9 := rfl
          refine J.draw (ℓ := 1000000) (S := (fun w' => Ext w1 w' ∧ Blk w' b9 102 (⟨true, vn, vx⟩ : Vl).vs.toArray)) mixed (fun w8 hSE hS_h => ?_)
          have hS : ((fun w' => Ext w1 w' ∧ Blk w' b9 102 (⟨true, vn, vx⟩ : Vl).vs.toArray)) w8 := ⟨he17.trans hSE, hk97.ext hSE⟩
          have hoX := ho7.ext hSE
          have hkb := hk77.ext hSE
          refine D.va 0 rfl (by kernel_rfl) (fun _ _ _ h => h) rfl (fun w' hw => X.move (by conv => lhs; whnf)) hS ?_
          refine D.va 3 rfl (by kernel_rfl) (fun _ _ _ h => h) rfl (fun w' hw => X.fieldAddr rfl Try.underlying102 rfl sz_100 (by decide)) hS ?_
          refine D.va 4 rfl (by kernel_rfl) (fun _ _ _ h => h) rfl (fun w' hw => X.load rfl sc_100 (by first | exact Ld.blk hw.2 rfl)) hS ?_
          -- buildSlice
          have qz := (hS).1.le
          refine D.one 1 (by kernel_rfl) rfl ?_
          refine L.bslice (vs := [_]) rfl (Evs.cons (by conv => lhs; whnf) Evs.nil) rfl rfl rfl rfl Try.underlying33 sz_5 zr_5 (by decide) ?_
          intro b10 wa hb10 hs10 hk10 hea
          have hS1 := And.intro ((hS).1.trans hea) ((hS).2.ext hea)
          refine L.nil ?_
          refine ⟨fun _ => hS1, ?_⟩
          replace hkb := hkb.ext hea
          try replace hoX := hoX.ext hea
          try replace hoF := hoF.ext hea
          have qy := (hS1).1.le
          refine D.one 2 (by kernel_rfl) rfl ?_
          refine L.appendQ (q := m + 1) (ys := ((o.take i).flatMap (colC r) ++ [1])) rfl rfl rfl Try.underlying33 el_5 (hoX) ((blk_reads (q := 1) (l := nums .u8 [1]) hk10 hk10.lt rfl)) (by omega) (by simp) (by unfold maxLen; omega) (by omega) ?_
          intro B2 d2 wb hoX2 hg10 hb10' hor10
          have hS2 := And.intro ((hS1).1.low hb10' (Nat.le_refl _)) ((hS1).2.grown hg10 (fun e ↦ own_blk_ne hoX (hS1).2 (by decide) e.symm))
          refine L.nil ?_
          refine ⟨fun _ => hS2, ?_⟩
          replace hkb := hkb.grown hg10 (fun e => own_blk_ne hoX hkb (by decide) e.symm)
          try replace hoF := hoF.kept hg10 hneF
          have qx := (hS2).1.le
          refine D.one 5 (by kernel_rfl) rfl ?_
          refine L.call rfl en_75 rfl (code_F vx _ hvx) ?_
          rintro e wc ⟨B3, d3, rfl, hoF, hec⟩
          refine ⟨_, rfl, ?_⟩
          have hS3 := And.intro ((hS2).1.trans hec) ((hS2).2.ext hec)
          refine L.nil ?_
          refine ⟨fun _ => hS3, ?_⟩
          try have hneF := own_later hoX hoF
          replace hkb := hkb.ext hec
          try replace hoX := hoX.ext hec
          try replace hoX2 := hoX2.ext hec
          try replace hk10 := hk10.ext hec
          have qw := (hS3).1.le
          refine D.one 6 (by kernel_rfl) rfl ?_
          refine L.appendQ (q := m + (vC ⟨true, vn, vx⟩).length) (ys := ((o.take i).flatMap (colC r) ++ 1 :: be 8 (keyF vx))) rfl rfl rfl Try.underlying33 el_5 (hoX2) ((Reads.of_own hoF)) (by omega) (by simp) (by unfold maxLen; omega) (by omega) ?_
          intro B4 d4 wd ho4 hg4' hb4 hor4
          have hS4 := And.intro ((hS3).1.low hb4 (Nat.le_refl _)) ((hS3).2.grown hg4' (fun e ↦ own_blk_ne hoX2 (hS3).2 (by decide) e.symm))
          refine L.nil ?_
          refine ⟨fun _ => hS4, ?_⟩
          replace hkb := hkb.grown hg4' (fun e => own_blk_ne hoX2 hkb (by decide) e.symm)
          refine D.va 7 rfl (by kernel_rfl) (fun _ _ _ h => h) rfl (fun w' hw => X.assign (by conv => lhs; whnf)) hS4 ?_
          refine D.done (by kernel_rfl) ?_
          refine ⟨(B4, d4), At1 (by first | rfl | exact at_int rfl (by omega) | exact at_slice rfl (by omega) | exact at_int rfl (by simp)), (by (iterate 15 refine Agr.lk rfl ?_); exact Agr.rfl'), ?_⟩
          exact ⟨ho4, hkb, (hS4).1⟩
      · rintro ⟨B, d⟩ g w5 ⟨ho5, hk5, he5⟩
        have hk15 := hk1.ext he5
        have z5 := he5.le
        have e1 : (o.take (i + 1)).flatMap (colC r) = (o.take i).flatMap (colC r) ++ colC r x := by rw [List.take_add_one, List.flatMap_append, hgt]; simp
        have hvl' := hvl
        refine J.seq ?_
        refine J.region ?_
        refine L.va rfl (X.move (by conv => lhs; whnf)) ?_
        refine L.va rfl (X.assign (by conv => lhs; whnf)) ?_
        refine L.nil ?_
        refine J.block ?_
        -- loop
        obtain ⟨xc, xd⟩ := x
        cases xd
        · have e2 : colC r (xc, false) = vC v := by rw [hv]; rfl
          rw [e2] at e1
          refine J.loop (X := Nat) [10, 42, 43, 44, 45, 46, 47, 48, 49, 50, 51, 52, 53, 54, 55, 56, 57, 58, 59] (fun k => [(10, .int .i64 ((m + k : Nat) : Int))]) (fun k w' => k = 0 ∧ w' = w5) (fun k => 0) (0) (At1 (by first | rfl | exact at_int rfl (by omega) | exact at_slice rfl (by omega) | exact at_int rfl (by simp))) ?_ ?_
          · exact ⟨rfl, rfl⟩
          · rintro k g w6 ⟨rfl, rfl⟩
            refine J.seq ?_
            refine J.seq ?_
            refine J.region ?_
            refine L.va rfl (X.fieldAddr rfl Try.underlying99 rfl sz_4 (by decide)) ?_
            refine L.va rfl (X.load rfl sc_4 (by first | exact Ld.blk hk14 rfl | exact Ld.blk hk4 rfl | exact Ld.blk hk15 rfl | exact Ld.blk hk5 rfl | exact hA)) ?_
            refine L.va rfl (X.move (by conv => lhs; whnf)) ?_
            -- case t44
            refine L.caseBF (k := 44) rfl (by rfl) ?_
            refine L.no rfl ?_
            refine L.no rfl ?_
            refine L.no rfl ?_
            refine L.no rfl ?_
            refine L.va rfl (X.pickF rfl (by conv => lhs; whnf)) ?_
            refine L.nil ?_
            -- cond
            refine J.iteF rfl ?_
            refine J.exit ?_
            refine J.region ?_
            refine L.va rfl (X.add rfl rfl (by omega)) ?_
            refine L.va rfl (X.move (by conv => lhs; whnf)) ?_
            refine L.nil ?_
            -- loopend
            refine ⟨(i + 1, B, m + (vC v).length, d), At2 (by first | rfl | exact at_int rfl (by omega) | exact at_slice rfl (by omega) | exact at_int rfl (by simp)) (by first | rfl | exact at_int rfl (by omega) | exact at_slice rfl (by omega) | exact at_int rfl (by simp)), (by (iterate 11 refine Agr.lk rfl ?_); refine Agr.lk rfl ?_; refine Agr.hav rfl ?_; (iterate 2 refine Agr.lk rfl ?_); refine Agr.lk rfl ?_; refine Agr.hav rfl ?_; (iterate 7 refine Agr.lk rfl ?_); exact Agr.lk rfl (Agr.hav rfl Agr.rfl')), ?_⟩
            refine ⟨⟨by omega, ?_, ?_, he5⟩, by show n - (i + 1) < n - i; omega⟩
            · rw [e1, List.length_append, hm]
            · rw [e1]; exact ho5
        · have e2 : colC r (xc, true) = inv (vC v) := by rw [hv]; rfl
          rw [e2] at e1
          have hub := vC_bytes (v := v) hvn
          obtain ⟨u, hu⟩ : ∃ u, u = vC v := ⟨_, rfl⟩
          obtain ⟨p, hp⟩ : ∃ p, p = (o.take i).flatMap (colC r) := ⟨_, rfl⟩
          rw [← hu] at ho5 hub e1 hvl
          rw [← hp] at ho5 e1 hm hmP
          rw [← hu]
          subst hm
          refine J.loop (X := Nat) [10, 42, 43, 44, 45, 46, 47, 48, 49, 50, 51, 52, 53, 54, 55, 56, 57, 58, 59] (fun k => [(10, .int .i64 ((p.length + k : Nat) : Int))]) (fun k w' => k ≤ u.length ∧ w'.ownsRow w1.heap.size 5 1 (.slice B (p.length + u.length) d) (p.length + u.length) (nums .u8 (turned p u k)) ∧ Blk w' b7 99 (oR (xc, true)).toArray ∧ Ext w1 w') (fun k => u.length - k) (0) (At1 (by first | rfl | exact at_int rfl (by omega) | exact at_slice rfl (by omega) | exact at_int rfl (by simp))) ?_ ?_
          · exact ⟨Nat.zero_le _, by rw [turned_0]; exact ho5, hk5, he5⟩
          · rintro k g w6 ⟨hk', ho6, hk6, he6⟩
            refine J.seq ?_
            refine J.seq ?_
            refine J.region ?_
            refine L.va rfl (X.fieldAddr rfl Try.underlying99 rfl sz_4 (by decide)) ?_
            refine L.va rfl (X.load rfl sc_4 (by first | exact Ld.blk hk14 rfl | exact Ld.blk hk4 rfl | exact Ld.blk hk6 rfl | exact hA)) ?_
            refine L.va rfl (X.move (by conv => lhs; whnf)) ?_
            -- case t44
            refine L.caseBT (k := 44) rfl (by rfl) ?_
            refine L.va rfl (X.move (by conv => lhs; whnf)) ?_
            refine L.va rfl (X.move (by conv => lhs; whnf)) ?_
            refine L.va rfl (X.len rfl Try.underlying33) ?_
            refine L.va rfl (X.lss rfl rfl) ?_
            refine L.va rfl (X.pickT rfl (by conv => lhs; whnf)) ?_
            refine L.nil ?_
            -- cond
            refine J.dec rfl (fun hlt2 => ?_) (fun hlt2 => ?_)
            · have hku : k < u.length := by omega
              have ht := turned_at (p := p) hku
              have hb := getDb hub k
              -- t58
              refine J.skip ?_
              refine J.seq ?_
              refine J.block ?_
              refine J.region ?_
              refine L.va rfl (X.move (by conv => lhs; whnf)) ?_
              refine L.va rfl (X.move (by conv => lhs; whnf)) ?_
              refine L.va rfl (X.move (by conv => lhs; whnf)) ?_
              refine L.va rfl (X.move (by conv => lhs; whnf)) ?_
              refine L.va rfl ((by first | exact X.index1n rfl rfl Try.underlying33 sz_5 (by first | exact Option.some_ne_none _ | exact own_ne ho6 (by omega) | exact hA) (by omega) | exact X.index1 rfl rfl Try.underlying33 sz_5 (by first | exact Option.some_ne_none _ | exact own_ne ho6 (by omega) | exact hA) (by omega))) ?_
              refine L.va rfl (X.load rfl sc_5 (by first | exact Ld.blk hk14 rfl | exact Ld.blk hk4 rfl | exact Ld.blk hk6 rfl | exact Ld.own ho6 (by omega) | exact hA)) ?_
              refine L.va rfl (X.complE rfl (show bits .xor .u8 (if IntKind.u8.signed then -1 else IntKind.u8.max) ((turned p u k).getD (p.length + k) 0) = 255 - u.getD k 0 by rw [ht]; exact compl8 hb)) ?_
              refine L.va rfl ((by first | exact X.index1n rfl rfl Try.underlying33 sz_5 (by first | exact Option.some_ne_none _ | exact own_ne ho6 (by omega) | exact hA) (by omega) | exact X.index1 rfl rfl Try.underlying33 sz_5 (by first | exact Option.some_ne_none _ | exact own_ne ho6 (by omega) | exact hA) (by omega))) ?_
              -- store
              refine L.storeON rfl rfl (by conv => lhs; whnf) sz_5 (ho6) (by omega) ?_
              intro w7 ho7 hg7 hb7' hs7
              have ho7 : w7.ownsRow w1.heap.size 5 1 (.slice B (p.length + u.length) d) (p.length + u.length) (nums .u8 ((turned p u k).set (p.length + k) (255 - u.getD k 0))) := ho7
              rw [turned_set hku] at ho7
              have hk7' := hk6.grown hg7 (fun e => own_blk_ne ho6 hk6 (by decide) e.symm)
              refine L.nil ?_
              refine J.region ?_
              refine L.va rfl (X.move (by conv => lhs; whnf)) ?_
              refine L.va rfl (X.add rfl rfl (by omega)) ?_
              refine L.va rfl (X.assign (by conv => lhs; whnf)) ?_
              refine L.nil ?_
              -- loopend
              refine ⟨k + 1, At1 (by first | rfl | exact at_int rfl (by omega) | exact at_slice rfl (by omega) | exact at_int rfl (by simp)), (by (iterate 20 refine Agr.lk rfl ?_); exact Agr.lk rfl (Agr.hav rfl Agr.rfl')), ?_⟩
              exact ⟨⟨by omega, ho7, hk7', he6.low hb7' (Nat.le_refl _)⟩, by omega⟩
            · obtain rfl : k = u.length := by omega
              rw [turned_all] at ho6
              refine J.exit ?_
              refine J.region ?_
              refine L.va rfl (X.add rfl rfl (by omega)) ?_
              refine L.va rfl (X.move (by conv => lhs; whnf)) ?_
              refine L.nil ?_
              -- loopend
              refine ⟨(i + 1, B, p.length + u.length, d), At2 (by first | rfl | exact at_int rfl (by omega) | exact at_slice rfl (by omega) | exact at_int rfl (by simp)) (by first | rfl | exact at_int rfl (by omega) | exact at_slice rfl (by omega) | exact at_int rfl (by simp)), (by (iterate 11 refine Agr.lk rfl ?_); refine Agr.lk rfl ?_; refine Agr.hav rfl ?_; (iterate 2 refine Agr.lk rfl ?_); refine Agr.lk rfl ?_; refine Agr.hav rfl ?_; (iterate 7 refine Agr.lk rfl ?_); exact Agr.lk rfl (Agr.hav rfl Agr.rfl')), ?_⟩
              refine ⟨⟨by omega, ?_, ?_, he6⟩, by show n - (i + 1) < n - i; omega⟩
              · rw [e1, List.length_append, inv_length]
              · rw [e1]; exact ho6
    · obtain rfl : i = n := by omega
      have e0 : o.take i = o := by rw [← lo, List.take_length]
      have h200 := hP i
      rw [e0] at hm ho2 h200
      have lc := hr.lc
      refine J.exit ?_
      refine J.seq ?_
      refine J.seq ?_
      refine J.region ?_
      refine L.va rfl (X.fieldAddr rfl Try.underlying32 rfl sz_29 (by decide)) ?_
      refine L.va rfl (X.load rfl sc_29 (by first | exact Ld.blk hk2 rfl)) ?_
      refine L.va rfl (X.len rfl Try.underlying29) ?_
      refine L.va rfl (X.move (by conv => lhs; whnf)) ?_
      refine L.nil ?_
      refine J.block ?_
      -- loop
      refine J.loop (X := Nat × Option Addr × Nat × Nat) [5, 12, 64, 65, 66, 67, 68, 69, 70, 71, 72] (fun (j, B, m, d) => [(64, .int .i64 (j : Int)), (5, .slice B m d)]) (fun (j, B, m, d) w' => j ≤ r.nc ∧ m = (o.flatMap (colC r) ++ (r.c.take j).flatMap cI).length ∧ w'.ownsRow w1.heap.size 5 1 (.slice B m d) m (nums .u8 (o.flatMap (colC r) ++ (r.c.take j).flatMap cI)) ∧ Ext w1 w') (fun (j, _) => r.nc - j) ((0, B, m, d)) (At2 (by first | rfl | exact at_int rfl (by omega) | exact at_slice rfl (by omega) | exact at_int rfl (by simp)) (by first | rfl | exact at_int rfl (by omega) | exact at_slice rfl (by omega) | exact at_int rfl (by simp))) ?_ ?_
      · exact ⟨Nat.zero_le _, by simpa using hm, by simpa using ho2, he2⟩
      · rintro ⟨j, B3, m3, d3⟩ g w3 ⟨hj, hm3, ho3, he3⟩
        have r3 := hr.hc.ext (he1.trans he3)
        have z3 := he3.le
        have hf := flat_le (l := r.c.take j) (f := cI) (k := 9) fun z hz => cI_len (hk.2 z (List.mem_of_mem_take hz))
        have hl3 : (r.c.take j).length ≤ 20 := by rw [List.length_take]; omega
        rw [List.length_append] at hm3
        refine J.seq ?_
        refine J.region ?_
        refine L.va rfl (X.lss rfl rfl) ?_
        refine L.nil ?_
        refine J.seq ?_
        -- cond
        refine J.dec rfl (fun hlt => ?_) (fun hlt => ?_)
        · have hjc : j < r.c.length := by omega
          have hA := r3.some_ (by omega)
          have hz : okN (r.c.getD j 0) := by rw [List.getD, List.getElem?_eq_getElem hjc]; exact hk.2 _ (List.getElem_mem hjc)
          have hz9 := cI_len hz
          have e1 : (r.c.take (j + 1)).flatMap cI = (r.c.take j).flatMap cI ++ cI (r.c.getD j 0) := by rw [List.take_add_one, List.flatMap_append, List.getD, List.getElem?_eq_getElem hjc]; simp
          refine J.skip ?_
          refine J.seq ?_
          refine J.block ?_
          refine J.seq ?_
          refine J.region ?_
          refine L.va rfl ((by first | exact X.index1n rfl rfl Try.underlying29 sz_3 (by first | exact Option.some_ne_none _ | exact r3.some_ (by omega) | exact hA) (by omega) | exact X.index1 rfl rfl Try.underlying29 sz_3 (by first | exact Option.some_ne_none _ | exact r3.some_ (by omega) | exact hA) (by omega))) ?_
          refine L.va rfl (X.load rfl sc_3 (by first | exact Ld.num r3 (by omega) | exact hA)) ?_
          refine L.va rfl (X.assign (by conv => lhs; whnf)) ?_
          refine L.nil ?_
          refine J.region ?_
          refine L.va rfl (X.move (by conv => lhs; whnf)) ?_
          refine L.va rfl (X.move (by conv => lhs; whnf)) ?_
          -- callfn bushel/code.I
          refine L.call rfl en_76 rfl (code_I (r.c.getD j 0) w3 hz.1 hz.2) ?_
          rintro e w4 ⟨B4, d4, rfl, ho4, he4⟩
          refine ⟨_, rfl, ?_⟩
          have z4 := he4.le
          -- append
          refine L.appendQ (q := m3 + (cI (r.c.getD j 0)).length) (ys := ((o.flatMap (colC r) ++ (r.c.take j).flatMap cI) ++ cI (r.c.getD j 0))) rfl rfl rfl Try.underlying33 el_5 (ho3.ext he4) ((Reads.of_own ho4)) (by omega) (by simp) (by unfold maxLen; omega) (by omega) ?_
          intro B5 d5 w5 ho5 hg5 hb5 hor5
          refine L.va rfl (X.assign (by conv => lhs; whnf)) ?_
          refine L.nil ?_
          refine J.region ?_
          refine L.va rfl (X.add rfl rfl (by omega)) ?_
          refine L.va rfl (X.move (by conv => lhs; whnf)) ?_
          refine L.nil ?_
          -- loopend
          refine ⟨(j + 1, B5, m3 + (cI (r.c.getD j 0)).length, d5), At2 (by first | rfl | exact at_int rfl (by omega) | exact at_slice rfl (by omega) | exact at_int rfl (by simp)) (by first | rfl | exact at_int rfl (by omega) | exact at_slice rfl (by omega) | exact at_int rfl (by simp)), (by (iterate 11 refine Agr.lk rfl ?_); exact Agr.lk rfl (Agr.hav rfl Agr.rfl')), ?_⟩
          refine ⟨⟨by omega, ?_, ?_, (he3.trans he4).low hb5 (Nat.le_refl _)⟩, by show r.nc - (j + 1) < r.nc - j; omega⟩
          · rw [e1, List.length_append, List.length_append]; omega
          · rw [e1, ← List.append_assoc]; exact ho5
        · obtain rfl : j = r.nc := by omega
          have e2 : o.flatMap (colC r) ++ (r.c.take r.nc).flatMap cI = keyO o r := by rw [← lc, List.take_length]; rfl
          rw [← List.length_append] at hm3
          rw [e2] at ho3 hm3
          subst hm3
          refine J.exit ?_
          refine J.seq ?_
          refine J.region ?_
          refine L.va rfl (X.move (by conv => lhs; whnf)) ?_
          refine L.va rfl (X.assign (by conv => lhs; whnf)) ?_
          refine L.nil ?_
          -- ret
          refine J.ret ?_
          refine fin1 ?_
          exact ⟨B3, d3, rfl, ho3.mono z1, he1.trans he3⟩
end Go.Proofs.Ytmnlaekcojblkaa
