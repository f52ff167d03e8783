/-
  diff.Schema: how two schemas differ.
-/
import Derived.Test.YtdmfikedojgjbaaWDiffH
namespace Go.Proofs.Ytdmfikedojgjbaa
set_option maxRecDepth 100000
open Go.RowKit H
open Go.MapKept Go.ChangeMaps Go.WideMaps Go.Maps
set_option linter.unusedVariables false
/-- the first size under a name -/
def lkp (ds : List (ByteArray × Int)) (x : ByteArray) : Option Int := (ds.find? fun p => decide (p.1 = x)).map (·.2)
theorem lkp_cons (a : ByteArray × Int) (ds : List (ByteArray × Int)) (x : ByteArray) : lkp (a :: ds) x = if x = a.1 then some a.2 else lkp ds x := by
  unfold lkp
  rw [List.find?_cons]
  by_cases h : x = a.1
  · rw [if_pos h, decide_eq_true h.symm]; rfl
  · rw [if_neg h, decide_eq_false (fun e => h e.symm)]
theorem drop_prev {ds : List (ByteArray × Int)} {k : Nat} (h : k < ds.length) : ds.drop k = ds.getD k d0 :: ds.drop (k + 1) := by
  rw [List.drop_eq_getElem_cons h]
  simp [List.getD, h]
/-- a dimension whose size has changed -/
def chg (ds : List (ByteArray × Int)) (p : ByteArray × Int) : Bool := match lkp ds p.1 with
  | some v => decide (¬ v = p.2)
  | none => false
def flL (q : ByteArray × Int → Bool) (p : ByteArray) (la : List (ByteArray × Int)) : List ByteArray := (la.filter q).map fun x => p ++ x.1
theorem flF (q : ByteArray × Int → Bool) (p : ByteArray) (la : List (ByteArray × Int)) (B : List ByteArray) : ∃ LA : Nat → List ByteArray, LA 0 = B ∧ (∀ i, i < la.length → LA (i + 1) = LA i ++ (if q (la.getD i d0) then [p ++ (la.getD i d0).1] else [])) ∧ LA la.length = B ++ flL q p la ∧ ∀ i, (LA i).length ≤ B.length + la.length := by
  refine ⟨fun i => B ++ flL q p (la.take i), by simp [flL], fun i hi => ?_, by simp, fun i => ?_⟩
  · dsimp only
    rw [take_nextD hi]
    unfold flL
    rw [List.filter_append, List.map_append, List.append_assoc]
    congr 2
    generalize la.getD i d0 = x
    cases h : q x <;> simp [h]
  · dsimp only
    unfold flL
    rw [List.length_append, List.length_map]
    have := List.length_filter_le q (la.take i)
    rw [List.length_take] at this
    omega
theorem ltL_len (p : ByteArray) (la lb : List (ByteArray × Int)) : (ltL p la lb).length ≤ la.length := by
  unfold ltL
  rw [List.length_map]
  exact List.length_filter_le _ _
def sMinus : ByteArray := { data := #[45] }
def sPlus : ByteArray := { data := #[43] }
def sTilde : ByteArray := { data := #[126] }
def sViews : ByteArray := { data := #[118, 105, 101, 119, 115] }
def sOrder : ByteArray := { data := #[111, 114, 100, 101, 114] }
namespace Sch
theorem thL_len (s : Sch) : s.thL.length = s.ds.length + s.s1.length + s.s2.length := by simp [thL]; omega
theorem small_th {s : Sch} {w : World} (h : s.Here w) (hS : s.Short) : Small s.thL := by
  have q := h.hle
  have l1 := h.len
  have l2 := h.len1
  have l3 := h.len2
  refine ⟨by rw [thL_len]; omega, fun x hx => ?_⟩
  unfold thL at hx
  rw [List.mem_append, List.mem_append] at hx
  rcases hx with (hx | hx) | hx
  · obtain ⟨y, hy, rfl⟩ := List.mem_map.1 hx
    exact ⟨hS y (List.mem_append_left _ (List.mem_append_left _ hy)), (by simp only []; decide), (by simp only []; decide)⟩
  · obtain ⟨y, hy, rfl⟩ := List.mem_map.1 hx
    exact ⟨hS y (List.mem_append_left _ (List.mem_append_right _ hy)), (by simp only []; decide), (by simp only []; decide)⟩
  · obtain ⟨y, hy, rfl⟩ := List.mem_map.1 hx
    exact ⟨hS y (List.mem_append_right _ hy), (by simp only []; decide), (by simp only []; decide)⟩
/-- names away, names new -/
def dif1 (s t : Sch) : List ByteArray := ltL sMinus s.thL t.thL
def dif2 (s t : Sch) : List ByteArray := dif1 s t ++ ltL sPlus t.thL s.thL
def dif3 (s t : Sch) : List ByteArray := dif2 s t ++ flL (chg t.ds) sTilde s.ds
def dif4 (s t : Sch) : List ByteArray := dif3 s t ++ (if s.zs = t.zs then [] else [sViews])
def dif (s t : Sch) : List ByteArray := dif4 s t ++ (if (dif4 s t).length = 0 ∧ ¬ s.eqv t then [sOrder] else [])
/-- a schema of its views alone -/
def vw (s : Sch) : Sch := ⟨none, 0, 0, none, 0, 0, none, 0, 0, s.Av, s.nv, s.cv, [], [], [], s.zs⟩
theorem Here.vw {s : Sch} {w : World} (h : s.Here w) : s.vw.Here w :=
  ⟨⟨rfl, fun h => absurd h (Nat.lt_irrefl 0)⟩, ⟨rfl, fun h => absurd h (Nat.lt_irrefl 0)⟩, ⟨rfl, fun h => absurd h (Nat.lt_irrefl 0)⟩, h.hv, h.hzs, ⟨by show 0 ≤ 100; decide, by show 0 ≤ 100; decide, by show 0 ≤ 100; decide, h.hle.2.2.2⟩⟩
set_option maxHeartbeats 600000 in
theorem Here.dschema {s t : Sch} {w : World} (h : s.Here w) (k : t.Here w) (hS : s.Short) (kS : t.Short) (hR : ∀ i, i < t.nd → -9223372036854775808 ≤ (t.ds.getD i d0).2 ∧ (t.ds.getD i d0).2 ≤ 9223372036854775807) : Calls Try.prog 50 #[s.val, t.val] w fun e w' => ∃ A c, e = .returned (.slice A (dif s t).length c) ∧ w'.ownsRow w.heap.size 9 1 (.slice A (dif s t).length c) (dif s t).length (strs (dif s t)) ∧ Ext w w' := by
  have q1 := h.hle
  have q2 := k.hle
  have l1 := h.len
  have k1 := k.len
  have m1 : (dif1 s t).length ≤ s.thL.length := ltL_len sMinus s.thL t.thL
  have m2 := ltL_len sPlus t.thL s.thL
  have m3 : (dif2 s t).length = (dif1 s t).length + (ltL sPlus t.thL s.thL).length := by simp [dif2]
  have sm1 := small_th h hS
  have sm2 := small_th k kS
  obtain ⟨LA, va0, vas, van, val⟩ := flF (chg t.ds) sTilde s.ds (dif2 s t)
  rw [l1] at vas van
  have van : LA s.nd = dif3 s t := van
  have vd3 : (dif3 s t).length ≤ (dif2 s t).length + s.ds.length := by rw [← van]; exact val s.nd
  have vd4 : (dif4 s t).length ≤ (dif3 s t).length + 1 := by
    unfold dif4
    split <;> simp
  have n1 := sm1.1
  have n2 := sm2.1
  have hz : ∀ w' : World, (zeroValue 3).run Try.prog w' = .ok (.int .i64 0) w' := fun w' => rfl
  refine enter Try.func50 rfl (by kernel_rfl) ?_
  refine J.seq ?_
  refine J.region ?_
  -- box
  refine L.boxA (l := [_, _, _, _]) rfl rfl ?_
  intro b1 w1 hb1 hs1 hk1 he1
  -- box
  refine L.boxA (l := [_, _, _, _]) rfl rfl ?_
  intro b2 w2 hb2 hs2 hk2 he2
  have gk1 := hk1.ext he2
  have gk2 := hk2
  have he02 := he1.trans he2
  have hz02 := he02.le
  have hs2 := h.ext he02
  have ht2 := k.ext he02
  refine L.va rfl (X.assign (by conv => lhs; whnf)) ?_
  refine L.nil ?_
  -- until
  refine J.cut (X := Option Addr × Nat) [5, 12, 13, 14, 15, 16] (fun x => [(5, .slice x.1 (dif1 s t).length x.2)]) (fun x w' => w'.ownsRow w2.heap.size 9 1 (.slice x.1 (dif1 s t).length x.2) (dif1 s t).length (strs (dif1 s t)) ∧ Ext w2 w') ?_ ?_
  · -- draw
    refine J.draw (ℓ := 1000000) (S := Ext w2) mixed (fun w3 hS3 hS3_h => ?_)
    refine D.va 0 rfl (by kernel_rfl) (fun _ _ _ h => h) rfl (fun w' hw => (by first | exact X.loadAgg rfl (range_l (gk1.ext hw)) Try.underlying97 rfl (by kernel_rfl) | exact X.loadAgg rfl (range_blk (gk1.ext hw)) Try.underlying97 rfl (by kernel_rfl) | exact X.loadAgg rfl (range_l (gk2.ext hw)) Try.underlying97 rfl (by kernel_rfl) | exact X.loadAgg rfl (range_blk (gk2.ext hw)) Try.underlying97 rfl (by kernel_rfl))) hS3 ?_
    refine D.va 2 rfl (by kernel_rfl) (fun _ _ _ h => h) rfl (fun w' hw => (by first | exact X.loadAgg rfl (range_l (gk1.ext hw)) Try.underlying97 rfl (by kernel_rfl) | exact X.loadAgg rfl (range_blk (gk1.ext hw)) Try.underlying97 rfl (by kernel_rfl) | exact X.loadAgg rfl (range_l (gk2.ext hw)) Try.underlying97 rfl (by kernel_rfl) | exact X.loadAgg rfl (range_blk (gk2.ext hw)) Try.underlying97 rfl (by kernel_rfl))) hS3 ?_
    -- callfn bushel/diff.things
    refine D.one 1 (by kernel_rfl) rfl ?_
    refine L.call rfl en_86 rfl (((hs2.ext hS3).things)) ?_
    rintro e wA ⟨A1, c1, rfl, ho1, hx1⟩
    refine ⟨_, rfl, ?_⟩
    have hS4 := (hS3).trans hx1
    refine L.nil ?_
    refine ⟨fun _ => hS4, ?_⟩
    have hx1 : Ext _ wA := hx1
    try replace ho2 := ho2.ext hx1
    refine D.one 3 (by kernel_rfl) rfl ?_
    refine L.call rfl en_86 rfl (((ht2.ext hS4).things)) ?_
    rintro e wB ⟨A2, c2, rfl, ho2, hx2⟩
    refine ⟨_, rfl, ?_⟩
    have hS5 := (hS4).trans hx2
    refine L.nil ?_
    refine ⟨fun _ => hS5, ?_⟩
    have hx2 : Ext _ wB := hx2
    try replace ho1 := ho1.ext hx2
    have hzS := (hS5).le
    refine D.one 4 (by kernel_rfl) rfl ?_
    refine L.call rfl en_85 rfl ((lacks_any sMinus _ _ _ _ _ _ s.thL t.thL _ (Reads.of_own ho1) (Reads.of_own ho2) (by decide) sm1 sm2)) ?_
    rintro e wC ⟨A3, c3, rfl, ho3, hx3⟩
    refine ⟨_, rfl, ?_⟩
    have hS6 := (hS5).trans hx3
    refine L.nil ?_
    refine ⟨fun _ => hS6, ?_⟩
    have hx3 : Ext _ wC := hx3
    refine D.va 5 rfl (by kernel_rfl) (fun _ _ _ h => h) rfl (fun w' hw => X.assign (by conv => lhs; whnf)) hS6 ?_
    refine D.done (by kernel_rfl) ?_
    replace gk1 := gk1.ext hS6
    replace gk2 := gk2.ext hS6
    refine ⟨(A3, c3), At1 (by first | rfl | exact at_int rfl (by omega) | exact at_slice rfl (by omega) | exact at_int rfl (by simp)), (by (iterate 6 refine Agr.lk rfl ?_); exact Agr.rfl'), ?_⟩
    exact ⟨ho3.mono hzS, hS6⟩
  · rintro ⟨A0, c0⟩ g w3 ⟨ho0, he3⟩
    dsimp only at ho0
    have hs3 := hs2.ext he3
    have ht3 := ht2.ext he3
    have j1 := gk1.ext he3
    have j2 := gk2.ext he3
    -- until
    refine J.cut (X := Option Addr × Nat) [5, 17, 18, 19, 20, 21, 22, 23] (fun x => [(5, .slice x.1 (dif2 s t).length x.2)]) (fun x w' => w'.ownsRow w2.heap.size 9 1 (.slice x.1 (dif2 s t).length x.2) (dif2 s t).length (strs (dif2 s t)) ∧ Ext w2 w') ?_ ?_
    · -- draw
      refine J.draw (ℓ := 1000000) (S := (fun w' => Ext w2 w')) mixed (fun w4 hS4E hS4_h => ?_)
      have hS4 : ((fun w' => Ext w2 w')) w4 := (he3.trans hS4E)
      have ho0 := ho0.ext hS4E
      refine D.va 0 rfl (by kernel_rfl) (fun _ _ _ h => h) rfl (fun w' hw => X.move (by conv => lhs; whnf)) hS4 ?_
      refine D.va 1 rfl (by kernel_rfl) (fun _ _ _ h => h) rfl (fun w' hw => (by first | exact X.loadAgg rfl (range_l (gk1.ext hw)) Try.underlying97 rfl (by kernel_rfl) | exact X.loadAgg rfl (range_blk (gk1.ext hw)) Try.underlying97 rfl (by kernel_rfl) | exact X.loadAgg rfl (range_l (gk2.ext hw)) Try.underlying97 rfl (by kernel_rfl) | exact X.loadAgg rfl (range_blk (gk2.ext hw)) Try.underlying97 rfl (by kernel_rfl))) hS4 ?_
      refine D.va 3 rfl (by kernel_rfl) (fun _ _ _ h => h) rfl (fun w' hw => (by first | exact X.loadAgg rfl (range_l (gk1.ext hw)) Try.underlying97 rfl (by kernel_rfl) | exact X.loadAgg rfl (range_blk (gk1.ext hw)) Try.underlying97 rfl (by kernel_rfl) | exact X.loadAgg rfl (range_l (gk2.ext hw)) Try.underlying97 rfl (by kernel_rfl) | exact X.loadAgg rfl (range_blk (gk2.ext hw)) Try.underlying97 rfl (by kernel_rfl))) hS4 ?_
      -- callfn bushel/diff.things
      refine D.one 2 (by kernel_rfl) rfl ?_
      refine L.call rfl en_86 rfl (((ht2.ext hS4).things)) ?_
      rintro e wA ⟨A1, c1, rfl, ho1, hx1⟩
      refine ⟨_, rfl, ?_⟩
      have hS5 := (hS4).trans hx1
      refine L.nil ?_
      refine ⟨fun _ => hS5, ?_⟩
      have hx1 : Ext _ wA := hx1
      replace ho0 := ho0.ext hx1
      try replace ho2 := ho2.ext hx1
      refine D.one 4 (by kernel_rfl) rfl ?_
      refine L.call rfl en_86 rfl (((hs2.ext hS5).things)) ?_
      rintro e wB ⟨A2, c2, rfl, ho2, hx2⟩
      refine ⟨_, rfl, ?_⟩
      have hS6 := (hS5).trans hx2
      refine L.nil ?_
      refine ⟨fun _ => hS6, ?_⟩
      have hx2 : Ext _ wB := hx2
      replace ho0 := ho0.ext hx2
      try replace ho1 := ho1.ext hx2
      have hzS := (hS6).le
      refine D.one 5 (by kernel_rfl) rfl ?_
      refine L.call rfl en_85 rfl ((lacks_any sPlus _ _ _ _ _ _ t.thL s.thL _ (Reads.of_own ho1) (Reads.of_own ho2) (by decide) sm2 sm1)) ?_
      rintro e wC ⟨A3, c3, rfl, ho3, hx3⟩
      refine ⟨_, rfl, ?_⟩
      have hS7 := (hS6).trans hx3
      refine L.nil ?_
      refine ⟨fun _ => hS7, ?_⟩
      have hx3 : Ext _ wC := hx3
      replace ho0 := ho0.ext hx3
      have hzS2 := (hS7).le
      refine D.one 6 (by kernel_rfl) rfl ?_
      refine L.appendV (q := (dif2 s t).length) (ys := strs (dif1 s t) ++ strs (ltL sPlus t.thL s.thL)) rfl rfl rfl Try.underlying94 el_9 (ho0) ((Reads.of_own ho3)) (by first | rfl | exact strs_ones _ | assumption) (by omega) (by simp) (by unfold maxLen; omega) (by omega) ?_
      intro A4 c4 w5 ho4 hg4 hb4 hor4
      have hS8 := (hS7).low hb4 (Nat.le_refl _)
      refine L.nil ?_
      refine ⟨fun _ => hS8, ?_⟩
      rw [strs_append] at ho4
      refine D.va 7 rfl (by kernel_rfl) (fun _ _ _ h => h) rfl (fun w' hw => X.assign (by conv => lhs; whnf)) hS8 ?_
      refine D.done (by kernel_rfl) ?_
      replace gk1 := gk1.ext hS8
      replace gk2 := gk2.ext hS8
      refine ⟨(A4, c4), At1 (by first | rfl | exact at_int rfl (by omega) | exact at_slice rfl (by omega) | exact at_int rfl (by simp)), (by (iterate 8 refine Agr.lk rfl ?_); exact Agr.rfl'), ?_⟩
      exact ⟨ho4, hS8⟩
    · rintro ⟨A1, c1⟩ g w4 ⟨ho1, he4⟩
      dsimp only at ho1
      have j3 := gk1.ext he4
      have j4 := gk2.ext he4
      have hz4 := he4.le
      refine J.seq ?_
      refine J.region ?_
      refine L.va rfl (X.fieldAddr rfl Try.underlying97 rfl sz_93 (by decide)) ?_
      refine L.va rfl (X.load rfl sc_93 (by first | exact Ld.blk j3 rfl | exact Ld.blk j4 rfl)) ?_
      refine L.va rfl (X.len rfl Try.underlying93) ?_
      -- makeMap
      refine L.makeMap rfl rfl Try.underlying157 ?_
      intro bm w5 hbm hsm hm5 he5
      have e25 : Ext w2 w5 := he4.trans he5
      have ho5 := ho1.ext he5
      have hne : Value.ownBlock (.slice A1 (dif2 s t).length c1) ≠ some bm := fun hh => by have := (ho1.lt _ hh).2; omega
      have j5 := j3.ext he5
      have j6 := j4.ext he5
      refine L.va rfl (X.assign (by conv => lhs; whnf)) ?_
      refine L.nil ?_
      refine J.seq ?_
      refine J.seq ?_
      refine J.region ?_
      refine L.va rfl (X.fieldAddr rfl Try.underlying97 rfl sz_93 (by decide)) ?_
      refine L.va rfl (X.load rfl sc_93 (by first | exact Ld.blk j5 rfl | exact Ld.blk j6 rfl)) ?_
      refine L.va rfl (X.len rfl Try.underlying93) ?_
      refine L.va rfl (X.sub rfl rfl (by omega)) ?_
      refine L.va rfl (X.assign (by conv => lhs; whnf)) ?_
      refine L.nil ?_
      refine J.block ?_
      -- loop
      refine J.loop (X := Int × Nat × (ByteArray → Option Int)) [7, 32, 33, 34, 35, 36, 37, 38, 39, 40, 41, 42, 43, 44, 45, 46, 47, 48] (fun x => [(7, .int .i64 x.1)]) (fun x w' => x.1 = (x.2.1 : Int) - 1 ∧ x.2.1 ≤ t.nd ∧ MapSI Try.prog 9 3 w' bm (t.nd - x.2.1) x.2.2 ∧ (∀ y, x.2.2 y = lkp (t.ds.drop x.2.1) y) ∧ w'.ownsRow w2.heap.size 9 1 (.slice A1 (dif2 s t).length c1) (dif2 s t).length (strs (dif2 s t)) ∧ Ext w2 w') (fun x => x.2.1) (((t.nd : Int) - 1, t.nd, fun _ => none)) (At1 (by first | rfl | exact at_int rfl (by omega) | exact at_slice rfl (by omega) | exact at_int rfl (by simp))) ?_ ?_
      · refine ⟨rfl, Nat.le_refl _, ?_, fun y => ?_, ho5, e25⟩
        · dsimp only
          rw [Nat.sub_self]
          exact hm5
        · dsimp only
          rw [List.drop_of_length_le (by omega)]
          rfl
      · rintro ⟨j, kk, f⟩ g w6 ⟨hj, hkk, hm6, hf6, ho6, he6⟩
        dsimp only at hj hkk hm6 hf6 ho6
        have z1 : ((j, kk, f) : Int × Nat × (ByteArray → Option Int)).1 = j := rfl
        have j7 := gk1.ext he6
        have j8 := gk2.ext he6
        have d6 := (ht2.ext he6).hd
        have hz6 := he6.le
        refine J.seq ?_
        refine J.seq ?_
        refine J.region ?_
        refine L.va rfl (X.move (by conv => lhs; whnf)) ?_
        refine L.va rfl (X.geq rfl rfl) ?_
        refine L.nil ?_
        -- cond
        refine J.dec rfl (fun hge => ?_) (fun hge => ?_)
        · obtain ⟨k', rfl⟩ : ∃ k', kk = k' + 1 := ⟨kk - 1, by dsimp only at hge; omega⟩
          obtain rfl : j = (k' : Int) := by omega
          have hil : k' < t.ds.length := by omega
          have hxs : (t.ds.getD k' d0).1.size ≤ 1000 := kS _ (List.mem_append_left _ (List.mem_append_left _ (dmem hil)))
          have hz0 : -9223372036854775808 ≤ (t.ds.getD k' d0).2 ∧ (t.ds.getD k' d0).2 ≤ 9223372036854775807 := hR k' (by omega)
          refine J.skip ?_
          refine J.seq ?_
          refine J.block ?_
          -- draw
          refine J.draw (ℓ := 13) (S := Ext w6) mixed (fun w7 hS7 hS7_h => ?_)
          have hm7 := hm6.ext hS7
          refine D.va 0 rfl (by kernel_rfl) (fun _ _ _ h => h) rfl (fun w' hw => X.move (by conv => lhs; whnf)) hS7 ?_
          refine D.va 1 rfl (by kernel_rfl) (fun _ _ _ h => h) rfl (fun w' hw => X.fieldAddr rfl Try.underlying97 rfl sz_93 (by decide)) hS7 ?_
          refine D.va 2 rfl (by kernel_rfl) (fun _ _ _ h => h) rfl (fun w' hw => X.load rfl sc_93 (by first | exact Ld.blk (j7.ext hw) rfl | exact Ld.blk (j8.ext hw) rfl | exact Ld.dimS (d6.ext hw) (by omega) | exact Ld.dimN (d6.ext hw) (by omega))) hS7 ?_
          refine D.va 3 rfl (by kernel_rfl) (fun _ _ _ h => h) rfl (fun w' hw => X.move (by conv => lhs; whnf)) hS7 ?_
          refine D.va 4 rfl (by kernel_rfl) (fun _ _ _ h => h) rfl (fun w' hw => (by first | exact X.indexAddrn rfl rfl Try.underlying93 sz_151 (by first | exact Option.some_ne_none _ | exact d6.some_ (by omega)) (by omega) | exact X.indexAddr rfl rfl Try.underlying93 sz_151 (by first | exact Option.some_ne_none _ | exact d6.some_ (by omega)) (by omega))) hS7 ?_
          refine D.va 5 rfl (by kernel_rfl) (fun _ _ _ h => h) rfl (fun w' hw => X.fieldP rfl Try.underlying151 rfl sz_9 (by decide) (by first | exact Option.some_ne_none _ | exact d6.some_ (by omega))) hS7 ?_
          refine D.va 6 rfl (by kernel_rfl) (fun _ _ _ h => h) rfl (fun w' hw => X.load rfl sc_9 (by first | exact Ld.blk (j7.ext hw) rfl | exact Ld.blk (j8.ext hw) rfl | exact Ld.dimS (d6.ext hw) (by omega) | exact Ld.dimN (d6.ext hw) (by omega))) hS7 ?_
          refine D.va 7 rfl (by kernel_rfl) (fun _ _ _ h => h) rfl (fun w' hw => X.fieldAddr rfl Try.underlying97 rfl sz_93 (by decide)) hS7 ?_
          refine D.va 8 rfl (by kernel_rfl) (fun _ _ _ h => h) rfl (fun w' hw => X.load rfl sc_93 (by first | exact Ld.blk (j7.ext hw) rfl | exact Ld.blk (j8.ext hw) rfl | exact Ld.dimS (d6.ext hw) (by omega) | exact Ld.dimN (d6.ext hw) (by omega))) hS7 ?_
          refine D.va 9 rfl (by kernel_rfl) (fun _ _ _ h => h) rfl (fun w' hw => X.move (by conv => lhs; whnf)) hS7 ?_
          refine D.va 10 rfl (by kernel_rfl) (fun _ _ _ h => h) rfl (fun w' hw => (by first | exact X.indexAddrn rfl rfl Try.underlying93 sz_151 (by first | exact Option.some_ne_none _ | exact d6.some_ (by omega)) (by omega) | exact X.indexAddr rfl rfl Try.underlying93 sz_151 (by first | exact Option.some_ne_none _ | exact d6.some_ (by omega)) (by omega))) hS7 ?_
          refine D.va 11 rfl (by kernel_rfl) (fun _ _ _ h => h) rfl (fun w' hw => X.fieldP rfl Try.underlying151 rfl sz_3 (by decide) (by first | exact Option.some_ne_none _ | exact d6.some_ (by omega))) hS7 ?_
          refine D.va 12 rfl (by kernel_rfl) (fun _ _ _ h => h) rfl (fun w' hw => X.load rfl sc_3 (by first | exact Ld.blk (j7.ext hw) rfl | exact Ld.blk (j8.ext hw) rfl | exact Ld.dimS (d6.ext hw) (by omega) | exact Ld.dimN (d6.ext hw) (by omega))) hS7 ?_
          -- mapUpdate
          refine D.one 13 (by kernel_rfl) rfl ?_
          refine L.mapPut rfl rfl rfl rfl (hm7) Try.underlying157 (by kernel_rfl) (by kernel_rfl) (by unfold maxLen; omega) ((by unfold maxLen; omega : (t.ds.getD k' d0).1.size ≤ maxLen)) (wf64 hz0) ?_
          intro w8 hm8 hg8
          refine L.nil ?_
          refine ⟨fun h => absurd rfl h, ?_⟩
          have he8 : Ext w2 w8 := (he6.trans hS7).grw hg8 (by intro g hg; injection hg with hg; omega)
          have ho8 := (ho6.ext hS7).kept hg8 (.inr hne)
          refine D.done (by kernel_rfl) ?_
          replace j7 := j7.ext hS7
          replace j8 := j8.ext hS7
          replace d6 := d6.ext hS7
          refine J.region ?_
          refine L.va rfl (X.move (by conv => lhs; whnf)) ?_
          refine L.va rfl (X.sub rfl rfl (by omega)) ?_
          refine L.va rfl (X.assign (by conv => lhs; whnf)) ?_
          refine L.nil ?_
          -- loopend
          refine ⟨((k' : Int) - 1, k', fun x => if x = (t.ds.getD k' d0).1 then some (t.ds.getD k' d0).2 else f x), At1 (by first | rfl | exact at_int rfl (by omega) | exact at_slice rfl (by omega) | exact at_int rfl (by simp)), (by (iterate 18 refine Agr.lk rfl ?_); exact Agr.lk rfl (Agr.hav rfl Agr.rfl')), ?_⟩
          refine ⟨⟨rfl, by dsimp only; omega, ?_, fun y => ?_, ho8, he8⟩, by dsimp only; omega⟩
          · dsimp only
            rw [show t.nd - k' = t.nd - (k' + 1) + 1 by omega]
            exact hm8
          · dsimp only
            rw [drop_prev hil, lkp_cons, hf6]
        · obtain rfl : kk = 0 := by dsimp only at hge; omega
          obtain rfl : f = lkp t.ds := funext fun y => by rw [hf6]; rfl
          refine J.exit ?_
          refine J.seq ?_
          refine J.seq ?_
          refine J.region ?_
          refine L.va rfl (X.fieldAddr rfl Try.underlying97 rfl sz_93 (by decide)) ?_
          refine L.va rfl (X.load rfl sc_93 (by first | exact Ld.blk j7 rfl | exact Ld.blk j8 rfl)) ?_
          refine L.va rfl (X.len rfl Try.underlying93) ?_
          refine L.va rfl (X.move (by conv => lhs; whnf)) ?_
          refine L.nil ?_
          refine J.block ?_
          -- loop
          refine J.loop (X := Nat × Option Addr × Nat × Nat) [5, 9, 10, 11, 52, 53, 54, 55, 56, 57, 58, 59, 60, 61, 62, 63, 64, 65, 66, 67, 68, 69, 70, 71, 72, 73, 74, 75, 76] (fun x => [(52, .int .i64 (x.1 : Int)), (5, .slice x.2.1 x.2.2.1 x.2.2.2)]) (fun x w' => x.1 ≤ s.nd ∧ x.2.2.1 = (LA x.1).length ∧ w'.ownsRow w2.heap.size 9 1 (.slice x.2.1 x.2.2.1 x.2.2.2) x.2.2.1 (strs (LA x.1)) ∧ MapSI Try.prog 9 3 w' bm (t.nd - 0) (lkp t.ds) ∧ Value.ownBlock (.slice x.2.1 x.2.2.1 x.2.2.2) ≠ some bm ∧ Ext w2 w') (fun x => s.nd - x.1) ((0, A1, (dif2 s t).length, c1)) (At2 (by first | rfl | exact at_int rfl (by omega) | exact at_slice rfl (by omega) | exact at_int rfl (by simp)) (by first | rfl | exact at_int rfl (by omega) | exact at_slice rfl (by omega) | exact at_int rfl (by simp))) ?_ ?_
          · refine ⟨by dsimp only; omega, by dsimp only; rw [va0], ?_, hm6, hne, he6⟩
            dsimp only
            rw [va0]
            exact ho6
          · rintro ⟨i, A, m, c⟩ g w7 ⟨hi, hm, ho, hM, hne, he⟩
            dsimp only at hi hm ho hne
            have z1 : ((i, A, m, c) : Nat × Option Addr × Nat × Nat).1 = i := rfl
            have z2 : ((i, A, m, c) : Nat × Option Addr × Nat × Nat).2.2.1 = m := rfl
            have d7 := (hs2.ext he).hd
            have hz7 := he.le
            have hbm7 := hM.lt
            have al1 := val i
            refine J.seq ?_
            refine J.region ?_
            refine L.va rfl (X.lss rfl rfl) ?_
            refine L.nil ?_
            refine J.seq ?_
            -- cond
            refine J.dec rfl (fun hlt => ?_) (fun hlt => ?_)
            · have hil : i < s.ds.length := by dsimp only at hlt; omega
              have hst := vas i (by omega)
              have hxs : (s.ds.getD i d0).1.size ≤ 1000 := hS _ (List.mem_append_left _ (List.mem_append_left _ (dmem hil)))
              -- t55
              refine J.skip ?_
              refine J.seq ?_
              refine J.block ?_
              refine J.seq ?_
              refine J.region ?_
              refine L.va rfl ((by first | exact X.indexAddrn rfl rfl Try.underlying93 sz_151 (by first | exact Option.some_ne_none _ | exact d7.some_ (by omega)) (by omega) | exact X.indexAddr rfl rfl Try.underlying93 sz_151 (by first | exact Option.some_ne_none _ | exact d7.some_ (by omega)) (by omega))) ?_
              refine L.va rfl (X.loadRow (cs := [.string (s.ds.getD i d0).1, .int .i64 (s.ds.getD i d0).2]) rfl d7 (dims_row hil) (Nat.zero_lt_succ _) Try.underlying151 rfl (by kernel_rfl)) ?_
              -- alloc
              refine L.alloc rfl zr_151 ?_
              intro b8 w8 hb8 hs8 hk8 he8
              -- store
              refine L.storeAgg (vs := [_, _]) rfl rfl rfl rfl sz_151 (hk8) rfl ?_
              intro w9 hk9 hg9 hs9
              have ho9 := (ho.ext he8).kept hg9 (.inr (own_blk_ne (ho.ext he8) hk8 (by decide)))
              have hM9 := (hM.ext he8).kept hg9 (by intro hh; injection hh with hh; omega)
              have he9 : Ext w2 w9 := (he.trans he8).grw hg9 (by intro g hg; injection hg with hg; omega)
              -- t60
              refine L.nil ?_
              refine J.seq ?_
              refine J.region ?_
              refine L.va rfl (X.move (by conv => lhs; whnf)) ?_
              refine L.va rfl (X.fieldAddr rfl Try.underlying151 rfl sz_9 (by decide)) ?_
              refine L.va rfl (X.load rfl sc_9 (by first | exact Ld.blk hk9 rfl)) ?_
              refine L.va rfl (X.look rfl rfl hM9 Try.underlying157 (by kernel_rfl) (by kernel_rfl) (hz _) (by unfold maxLen; omega : (s.ds.getD i d0).1.size ≤ maxLen)) ?_
              refine L.va rfl (X.move (by conv => lhs; whnf)) ?_
              refine L.va rfl (X.extract rfl rfl) ?_
              refine L.va rfl (X.extract rfl rfl) ?_
              refine L.va rfl (X.assign (by conv => lhs; whnf)) ?_
              refine L.va rfl (X.assign (by conv => lhs; whnf)) ?_
              refine L.nil ?_
              refine J.seq ?_
              refine J.region ?_
              refine L.va rfl (X.move (by conv => lhs; whnf)) ?_
              refine L.va rfl (X.move (by conv => lhs; whnf)) ?_
              -- case t64
              rcases hc : lkp t.ds (s.ds.getD i d0).1 with _ | v
              · have hst : LA (i + 1) = LA i := by
                  rw [hst, show chg t.ds (s.ds.getD i d0) = false by unfold chg; rw [hc]]
                  exact List.append_nil _
                refine L.caseBF (k := 64) rfl (by rfl) ?_
                refine L.no rfl ?_
                refine L.no rfl ?_
                refine L.no rfl ?_
                refine L.no rfl ?_
                refine L.va rfl (X.pickF rfl (by conv => lhs; whnf)) ?_
                refine L.nil ?_
                -- cond
                refine J.iteF rfl ?_
                refine J.skip ?_
                refine J.region ?_
                refine L.va rfl (X.add rfl rfl (by omega)) ?_
                refine L.va rfl (X.move (by conv => lhs; whnf)) ?_
                refine L.nil ?_
                -- loopend
                refine ⟨(i + 1, A, m, c), At2 (by first | rfl | exact at_int rfl (by omega) | exact at_slice rfl (by omega) | exact at_int rfl (by simp)) (by first | rfl | exact at_int rfl (by omega) | exact at_slice rfl (by omega) | exact at_int rfl (by simp)), (by (iterate 23 refine Agr.lk rfl ?_); exact Agr.lk rfl (Agr.hav rfl Agr.rfl')), ?_⟩
                exact ⟨⟨by dsimp only; omega, by dsimp only; rw [hst]; exact hm, by dsimp only; rw [hst]; exact ho9, hM9, hne, he9⟩, by dsimp only; omega⟩
              · refine L.caseBT (k := 64) rfl (by rfl) ?_
                refine L.va rfl (X.move (by conv => lhs; whnf)) ?_
                refine L.va rfl (X.fieldAddr rfl Try.underlying151 rfl sz_3 (by decide)) ?_
                refine L.va rfl (X.load rfl sc_3 (by first | exact Ld.blk hk9 rfl)) ?_
                refine L.va rfl (X.neq rfl rfl) ?_
                refine L.va rfl (X.pickT rfl (by conv => lhs; whnf)) ?_
                refine L.nil ?_
                -- cond
                by_cases hv : v = (s.ds.getD i d0).2
                · have hst : LA (i + 1) = LA i := by
                    rw [hst, show chg t.ds (s.ds.getD i d0) = false by unfold chg; rw [hc]; simpa using hv]
                    exact List.append_nil _
                  refine J.ndecF rfl (by exact hv) ?_
                  refine J.skip ?_
                  refine J.region ?_
                  refine L.va rfl (X.add rfl rfl (by omega)) ?_
                  refine L.va rfl (X.move (by conv => lhs; whnf)) ?_
                  refine L.nil ?_
                  -- loopend
                  refine ⟨(i + 1, A, m, c), At2 (by first | rfl | exact at_int rfl (by omega) | exact at_slice rfl (by omega) | exact at_int rfl (by simp)) (by first | rfl | exact at_int rfl (by omega) | exact at_slice rfl (by omega) | exact at_int rfl (by simp)), (by (iterate 23 refine Agr.lk rfl ?_); exact Agr.lk rfl (Agr.hav rfl Agr.rfl')), ?_⟩
                  exact ⟨⟨by dsimp only; omega, by dsimp only; rw [hst]; exact hm, by dsimp only; rw [hst]; exact ho9, hM9, hne, he9⟩, by dsimp only; omega⟩
                · have hst : LA (i + 1) = LA i ++ [sTilde ++ (s.ds.getD i d0).1] := by
                    rw [hst, show chg t.ds (s.ds.getD i d0) = true by unfold chg; rw [hc]; simpa using hv]
                    rfl
                  refine J.ndecT rfl (by exact hv) ?_
                  have hsT : sTilde.size = 1 := rfl
                  have hsT' : (ByteArray.mk #[126]).size = 1 := rfl
                  refine J.region ?_
                  refine L.va rfl (X.move (by conv => lhs; whnf)) ?_
                  refine L.va rfl (X.fieldAddr rfl Try.underlying151 rfl sz_9 (by decide)) ?_
                  refine L.va rfl (X.load rfl sc_9 (by first | exact Ld.blk hk9 rfl)) ?_
                  refine L.va rfl (X.addS rfl rfl (by omega)) ?_
                  -- buildSlice
                  refine L.bslice (vs := [_]) rfl (Evs.cons (by conv => lhs; whnf) Evs.nil) rfl rfl rfl rfl Try.underlying94 sz_9 zr_9 (by decide) ?_
                  intro b10 w10 hb10 hs10 hk10 he10
                  have hzz : w2.heap.size ≤ w10.heap.size := (he9.trans he10).le
                  -- append
                  refine L.appendV (q := m + 1) (ys := strs (LA i) ++ strs [sTilde ++ (s.ds.getD i d0).1]) rfl rfl rfl Try.underlying94 el_9 (ho9.ext he10) ((blk_reads (q := 1) (l := strs [sTilde ++ (s.ds.getD i d0).1]) hk10 (by omega : b10 < w10.heap.size) rfl)) (by first | rfl | exact strs_ones _ | assumption) (by omega) (by simp) (by unfold maxLen; omega) (by omega) ?_
                  intro A11 c11 w11 ho11 hg11 hb11 hor11
                  rw [strs_append, ← hst] at ho11
                  have he11 : Ext w2 w11 := (he9.trans he10).low hb11 (Nat.le_refl _)
                  have hM11 := (hM9.ext he10).kept hg11 (fun hh => hne hh.symm)
                  have hne11 : Value.ownBlock (.slice A11 (m + 1) c11) ≠ some bm := by
                    rcases hor11 with hh | hh
                    · rw [hh]; exact hne
                    · rw [hh]
                      intro hh2
                      injection hh2 with hh2
                      omega
                  refine L.va rfl (X.assign (by conv => lhs; whnf)) ?_
                  refine L.nil ?_
                  refine J.region ?_
                  refine L.va rfl (X.add rfl rfl (by omega)) ?_
                  refine L.va rfl (X.move (by conv => lhs; whnf)) ?_
                  refine L.nil ?_
                  -- loopend
                  refine ⟨(i + 1, A11, m + 1, c11), At2 (by first | rfl | exact at_int rfl (by omega) | exact at_slice rfl (by omega) | exact at_int rfl (by simp)) (by first | rfl | exact at_int rfl (by omega) | exact at_slice rfl (by omega) | exact at_int rfl (by simp)), (by (iterate 30 refine Agr.lk rfl ?_); exact Agr.lk rfl (Agr.hav rfl Agr.rfl')), ?_⟩
                  exact ⟨⟨by dsimp only; omega, by dsimp only; rw [hst, List.length_append, ← hm]; rfl, ho11, hM11, hne11, he11⟩, by dsimp only; omega⟩
            · obtain rfl : i = s.nd := by dsimp only at hlt; omega
              rw [van] at hm ho
              subst hm
              have j9 := gk1.ext he
              have j10 := gk2.ext he
              refine J.exit ?_
              -- until
              refine J.cut (X := Option Addr × Nat) [5, 77, 78, 79, 80, 81, 82, 83, 84, 85, 86, 87] (fun x => [(5, .slice x.1 (dif4 s t).length x.2)]) (fun x w' => w'.ownsRow w2.heap.size 9 1 (.slice x.1 (dif4 s t).length x.2) (dif4 s t).length (strs (dif4 s t)) ∧ Ext w2 w') ?_ ?_
              · have hcall : Calls Try.prog 87 #[.agg #[.slice none 0 0, .slice none 0 0, .slice none 0 0, .slice s.Av s.nv s.cv], .agg #[.slice none 0 0, .slice none 0 0, .slice none 0 0, .slice t.Av t.nv t.cv]] w7 fun e w' => e = .returned (.bool (decide (s.vw.eqv t.vw))) ∧ Ext w7 w' := (hs2.ext he).vw.same (ht2.ext he).vw
                -- t79
                -- t82
                refine J.seq ?_
                refine J.region ?_
                refine L.va rfl (X.fieldAddr rfl Try.underlying97 rfl sz_95 (by decide)) ?_
                refine L.va rfl (X.load rfl sc_95 (by first | exact Ld.blk j9 rfl | exact Ld.blk j10 rfl)) ?_
                refine L.va rfl (X.build (l := [.slice none 0 0, .slice none 0 0, .slice none 0 0, .slice s.Av s.nv s.cv]) (Evs.cons rfl Evs.nil) (bld_run Try.underlying97 (bp_97 Try.underlying97) zr_97 rfl)) ?_
                refine L.va rfl (X.fieldAddr rfl Try.underlying97 rfl sz_95 (by decide)) ?_
                refine L.va rfl (X.load rfl sc_95 (by first | exact Ld.blk j9 rfl | exact Ld.blk j10 rfl)) ?_
                refine L.va rfl (X.build (l := [.slice none 0 0, .slice none 0 0, .slice none 0 0, .slice t.Av t.nv t.cv]) (Evs.cons rfl Evs.nil) (bld_run Try.underlying97 (bp_97 Try.underlying97) zr_97 rfl)) ?_
                -- callfn bushel/schema.Same
                refine L.call rfl en_87 rfl (hcall) ?_
                rintro e w8 ⟨rfl, he8⟩
                refine ⟨_, rfl, ?_⟩
                have he8 : Ext w7 w8 := he8
                have e8 : decide (s.vw.eqv t.vw) = decide (s.zs = t.zs) := decide_eq_decide.2 ⟨fun h => h.2.2.2, fun h => ⟨rfl, rfl, rfl, h⟩⟩
                rw [e8]
                have ho8 := ho.ext he8
                have he28 := he.trans he8
                refine L.va rfl (X.not rfl) ?_
                refine L.nil ?_
                -- cond
                by_cases hzs : s.zs = t.zs
                · have e4 : dif4 s t = dif3 s t := by simp [dif4, hzs]
                  rw [e4]
                  rw [show decide (s.zs = t.zs) = true from decide_eq_true hzs]
                  refine J.iteF rfl ?_
                  refine J.skip ?_
                  -- cutend
                  refine ⟨(A, c), At1 (by first | rfl | exact at_int rfl (by omega) | exact at_slice rfl (by omega) | exact at_int rfl (by simp)), (by (iterate 8 refine Agr.lk rfl ?_); exact Agr.rfl'), ?_⟩
                  exact ⟨ho8, he28⟩
                · have e4 : dif4 s t = dif3 s t ++ [sViews] := by simp [dif4, hzs]
                  rw [show decide (s.zs = t.zs) = false from decide_eq_false hzs]
                  refine J.iteT rfl ?_
                  refine J.region ?_
                  refine L.va rfl (X.move (by conv => lhs; whnf)) ?_
                  -- buildSlice
                  refine L.bslice (vs := [_]) rfl (Evs.cons (by conv => lhs; whnf) Evs.nil) rfl rfl rfl rfl Try.underlying94 sz_9 zr_9 (by decide) ?_
                  intro b9 w9 hb9 hs9 hk9 he9
                  have hzz : w2.heap.size ≤ w9.heap.size := (he28.trans he9).le
                  have hl4 : (dif4 s t).length = (dif3 s t).length + 1 := by rw [e4]; simp
                  -- append
                  refine L.appendV (q := (dif4 s t).length) (ys := strs (dif3 s t) ++ strs [sViews]) rfl rfl rfl Try.underlying94 el_9 (ho8.ext he9) ((blk_reads (q := 1) (l := strs [sViews]) hk9 (by omega : b9 < w9.heap.size) rfl)) (by first | rfl | exact strs_ones _ | assumption) (by omega) (by simp) (by unfold maxLen; omega) (by omega) ?_
                  intro A10 c10 w10 ho10 hg10 hb10 hor10
                  rw [strs_append, ← e4] at ho10
                  refine L.va rfl (X.assign (by conv => lhs; whnf)) ?_
                  refine L.nil ?_
                  -- cutend
                  refine ⟨(A10, c10), At1 (by first | rfl | exact at_int rfl (by omega) | exact at_slice rfl (by omega) | exact at_int rfl (by simp)), (by (iterate 12 refine Agr.lk rfl ?_); exact Agr.rfl'), ?_⟩
                  exact ⟨ho10, (he28.trans he9).low hb10 (Nat.le_refl _)⟩
              · rintro ⟨A, c⟩ g w8 ⟨ho, he⟩
                dsimp only at ho
                have j11 := gk1.ext he
                have j12 := gk2.ext he
                have hs8 := hs2.ext he
                have ht8 := ht2.ext he
                refine J.seq ?_
                refine J.seq ?_
                refine J.region ?_
                refine L.va rfl (X.move (by conv => lhs; whnf)) ?_
                refine L.va rfl (X.len rfl Try.underlying94) ?_
                refine L.va rfl (X.eql rfl rfl) ?_
                refine L.va rfl (X.move (by conv => lhs; whnf)) ?_
                -- case t91
                by_cases h0 : (dif4 s t).length = 0
                · refine L.caseDecT (k := 91) rfl (by omega) ?_
                  refine L.va rfl ((by first | exact X.loadAgg rfl (range_l j11) Try.underlying97 rfl (by kernel_rfl) | exact X.loadAgg rfl (range_blk j11) Try.underlying97 rfl (by kernel_rfl) | exact X.loadAgg rfl (range_l j12) Try.underlying97 rfl (by kernel_rfl) | exact X.loadAgg rfl (range_blk j12) Try.underlying97 rfl (by kernel_rfl))) ?_
                  refine L.va rfl ((by first | exact X.loadAgg rfl (range_l j11) Try.underlying97 rfl (by kernel_rfl) | exact X.loadAgg rfl (range_blk j11) Try.underlying97 rfl (by kernel_rfl) | exact X.loadAgg rfl (range_l j12) Try.underlying97 rfl (by kernel_rfl) | exact X.loadAgg rfl (range_blk j12) Try.underlying97 rfl (by kernel_rfl))) ?_
                  -- callfn bushel/schema.Same
                  refine L.call rfl en_87 rfl ((hs8.same ht8)) ?_
                  rintro e w9 ⟨rfl, he9⟩
                  refine ⟨_, rfl, ?_⟩
                  have he9 : Ext w8 w9 := he9
                  have ho9 := ho.ext he9
                  have he29 := he.trans he9
                  refine L.va rfl (X.not rfl) ?_
                  refine L.va rfl (X.pickT rfl (by conv => lhs; whnf)) ?_
                  refine L.nil ?_
                  -- cond
                  by_cases hq : s.eqv t
                  · have e5 : dif s t = dif4 s t := by simp [dif, hq]
                    rw [show decide (s.eqv t) = true from decide_eq_true hq]
                    refine J.iteF rfl ?_
                    refine J.skip ?_
                    refine J.seq ?_
                    refine J.region ?_
                    refine L.va rfl (X.move (by conv => lhs; whnf)) ?_
                    refine L.va rfl (X.assign (by conv => lhs; whnf)) ?_
                    refine L.nil ?_
                    -- ret
                    refine J.ret ?_
                    refine fin1 ?_
                    rw [e5]
                    exact ⟨A, c, rfl, ho9.mono hz02, he02.trans he29⟩
                  · have e5 : dif s t = dif4 s t ++ [sOrder] := by unfold dif; rw [if_pos ⟨h0, hq⟩]
                    rw [show decide (s.eqv t) = false from decide_eq_false hq]
                    refine J.iteT rfl ?_
                    refine J.region ?_
                    refine L.va rfl (X.move (by conv => lhs; whnf)) ?_
                    -- buildSlice
                    refine L.bslice (vs := [_]) rfl (Evs.cons (by conv => lhs; whnf) Evs.nil) rfl rfl rfl rfl Try.underlying94 sz_9 zr_9 (by decide) ?_
                    intro b10 w10 hb10 hs10 hk10 he10
                    have hzz : w2.heap.size ≤ w10.heap.size := (he29.trans he10).le
                    have hl5 : (dif s t).length = (dif4 s t).length + 1 := by rw [e5]; simp
                    -- append
                    refine L.appendV (q := (dif s t).length) (ys := strs (dif4 s t) ++ strs [sOrder]) rfl rfl rfl Try.underlying94 el_9 (ho9.ext he10) ((blk_reads (q := 1) (l := strs [sOrder]) hk10 (by omega : b10 < w10.heap.size) rfl)) (by first | rfl | exact strs_ones _ | assumption) (by omega) (by simp) (by unfold maxLen; omega) (by omega) ?_
                    intro A11 c11 w11 ho11 hg11 hb11 hor11
                    rw [strs_append, ← e5] at ho11
                    refine L.va rfl (X.assign (by conv => lhs; whnf)) ?_
                    refine L.nil ?_
                    refine J.seq ?_
                    refine J.region ?_
                    refine L.va rfl (X.move (by conv => lhs; whnf)) ?_
                    refine L.va rfl (X.assign (by conv => lhs; whnf)) ?_
                    refine L.nil ?_
                    -- ret
                    refine J.ret ?_
                    refine fin1 ?_
                    exact ⟨A11, c11, rfl, ho11.mono hz02, he02.trans ((he29.trans he10).low hb11 (Nat.le_refl _))⟩
                · have e5 : dif s t = dif4 s t := by simp [dif, h0]
                  refine L.caseDecF (k := 91) rfl (by omega) ?_
                  refine L.no rfl ?_
                  refine L.no rfl ?_
                  refine L.no rfl ?_
                  refine L.no rfl ?_
                  refine L.va rfl (X.pickF rfl (by conv => lhs; whnf)) ?_
                  refine L.nil ?_
                  -- cond
                  refine J.iteF rfl ?_
                  refine J.skip ?_
                  refine J.seq ?_
                  refine J.region ?_
                  refine L.va rfl (X.move (by conv => lhs; whnf)) ?_
                  refine L.va rfl (X.assign (by conv => lhs; whnf)) ?_
                  refine L.nil ?_
                  -- ret
                  refine J.ret ?_
                  refine fin1 ?_
                  rw [e5]
                  exact ⟨A, c, rfl, ho.mono hz02, he02.trans he⟩
end Sch
end Go.Proofs.Ytdmfikedojgjbaa
