import Derived.Test.YtnndkepnabddgaaZTourneyMerges4
/-
  What the law leans on, part 5: WRefD, WNumE, WNumF, WRefE, WRefF, WRefG, WRefH.
-/
namespace Go.Proofs.Ytnndkepnabddgaa
set_option maxRecDepth 100000
open Go.RowKit H
open Num
set_option linter.unusedVariables false
theorem wds_st {V e left : Int} (he : 0 ≤ e) (hl : 0 ≤ left ∧ left < 4294967296) (h : e * 4294967296 + left = V) (hV : 0 < V) : Wd.wds V.toNat = left :: Wd.wds e.toNat := by
  rw [Wd.wds_pos (by omega), show V.toNat / 4294967296 = e.toNat by omega, show ((V.toNat % 4294967296 : Nat) : Int) = left by omega]
theorem wds_short {d : List Int} (hd : Dig d) : (Wd.wds (dv d).toNat).length ≤ d.length := by
  refine Wd.wds_len ?_
  have h1 := dv_bd hd
  have h0 := dv_nn hd
  have h2 : ∀ n : Nat, (1000 : Int) ^ n ≤ ((4294967296 ^ n : Nat) : Int) := by
    intro n
    induction n with
    | zero => decide
    | succ n ih =>
      rw [Int.pow_succ, Nat.pow_succ]
      have : (0 : Int) < 1000 ^ n := Int.pow_pos (by decide)
      have : ((4294967296 ^ n * 4294967296 : Nat) : Int) = ((4294967296 ^ n : Nat) : Int) * 4294967296 := by simp
      rw [this]
      omega
  have h3 := h2 d.length
  omega
theorem rof02 {x : Nu} {w : World} {N : Nat} (hN : N ≤ w.heap.size) (hx : x.At N w) (hs : x.n ≤ 50000) : Calls Try.prog 38 #[x.val] w fun e w' => ∃ (A : Option Addr) (l : List Int) (c : Nat), e = .returned (.slice A l.length c) ∧ l = Wd.wds (dv x.d).toNat ∧ w'.ownsRow w.heap.size 96 1 (.slice A l.length c) l.length (nums .u32 l) ∧ Ext w w' := by
  have lx := hx.len
  obtain ⟨xg, xA, xn, xc, xd⟩ := x
  have lx : xd.length = xn := lx
  subst lx
  have hs : xd.length ≤ 50000 := hs
  have hdx : Dig xd := hx.dg
  have hcx : Cano xd := hx.cn
  have hW := wds_short hdx
  have hxx : (Nu.mk xg xA xd.length xc xd).d.length = xd.length := rfl
  refine enter Try.func38 rfl (by kernel_rfl) ?_
  refine J.seq ?_
  refine J.region ?_
  refine L.boxA (l := [_, _]) rfl rfl ?_
  intro b1 w1 hb1 hs1 hk1 he1
  refine L.va rfl (X.assign (by conv => lhs; whnf)) ?_
  refine L.nil ?_
  refine J.seq ?_
  refine J.region ?_
  refine L.bslice (vs := []) rfl Evs.nil rfl rfl rfl rfl Try.underlying35 sz_3 zr_3 (by decide) ?_
  intro b2 w2 hb2 hs2 hk2 he2
  have he02 := he1.trans he2
  have hk12 := hk1.ext he2
  have z1 := he1.le
  have ho2 : w2.ownsRow w.heap.size 3 1 (.slice (some ⟨b2, 0, none⟩) 0 0) 0 (nums .i64 []) := blk_own1 (l := []) hk2 (by omega) (Nat.zero_le _) rfl
  refine L.va rfl (X.fieldAddr rfl Try.underlying80 rfl sz_35 (by decide)) ?_
  refine L.va rfl (X.load rfl sc_35 (by first | exact Ld.blk hk12 rfl)) ?_
  have hrx : Reads w2 N 1 xA xd.length (nums .i64 xd) := hx.r.ext he02
  refine L.appendQ (q := xd.length) (ys := xd) rfl rfl rfl Try.underlying35 el_3 (ho2) (hrx) (by omega) (by simp) (by unfold maxLen; omega) (by omega) ?_
  intro A3 c3 w3 ho3 hg3 hb3 hor3
  have he3 : Ext w w3 := he02.grw hg3 (fun g hg => (ho2.lt g hg).1)
  refine L.va rfl (X.assign (by conv => lhs; whnf)) ?_
  refine L.nil ?_
  refine J.seq ?_
  refine J.region ?_
  refine L.va rfl (X.assign (by conv => lhs; whnf)) ?_
  refine L.nil ?_
  refine J.seq ?_
  refine J.block ?_
  refine J.loop (X := Option Addr × Nat × List Int × Option Addr × Nat × List Int) [3, 4, 5, 6, 11, 12, 13, 14, 15, 16, 17, 18, 19, 20, 21, 22, 23, 24, 25, 26, 27, 28, 29, 30, 31, 32, 33, 34, 35, 36, 37, 38, 39, 40, 41, 42, 43, 44, 45, 46, 47, 48, 49, 50, 51, 52, 53, 54, 55, 56] (fun (B, c, d, oA, oc, o) => [(3, .slice B d.length c), (4, .slice oA o.length oc)]) (fun (B, c, d, oA, oc, o) w' => Dig d ∧ Cano d ∧ d.length ≤ xd.length ∧ o ++ Wd.wds (dv d).toNat = Wd.wds (dv xd).toNat ∧ w'.ownsRow w.heap.size 3 1 (.slice B d.length c) d.length (nums .i64 d) ∧ w'.ownsRow w.heap.size 96 1 (.slice oA o.length oc) o.length (nums .u32 o) ∧ Ext w w') (fun (B, c, d, oA, oc, o) => (dv d).toNat) ((A3, c3, xd, none, 0, [])) (At2 (by first | rfl | exact at_int rfl (by omega) | exact at_slice rfl (by omega) | exact at_int rfl (by simp)) (by first | rfl | exact at_int rfl (by omega) | exact at_slice rfl (by omega) | exact at_int rfl (by simp))) ?_ ?_
  · exact ⟨hdx, hcx, Nat.le_refl _, rfl, ho3, own_nil _ _ _ _, he3⟩
  · rintro ⟨B, c, d, oA, oc, o⟩ g w4 ⟨hd, hc, hdl, how, ho4, hp4, he4⟩
    have z4 := he4.le
    refine J.seq ?_
    refine J.seq ?_
    refine J.region ?_
    refine L.va rfl (X.move (by conv => lhs; whnf)) ?_
    refine L.va rfl (X.len rfl Try.underlying35) ?_
    refine L.va rfl (X.gtr rfl rfl) ?_
    refine L.nil ?_
    refine J.dec rfl (fun h0 => ?_) (fun h0 => ?_)
    · have h0 : 0 < d.length := by omega
      have hV := dv_pos hd hc h0
      refine J.skip ?_
      refine J.block ?_
      refine J.seq ?_
      refine J.region ?_
      refine L.va rfl (X.assign (by conv => lhs; whnf)) ?_
      refine L.nil ?_
      refine J.cut (X := List Int × Int) [5, 6, 14, 15, 16, 17, 18, 19, 20, 21, 22, 23, 24, 25, 26, 27, 28, 29, 30, 31, 32, 33, 34] (fun (e, left) => [(5, .int .i64 left)]) (fun (e, left) w' => e.length = d.length ∧ Dig e ∧ (0 ≤ left ∧ left < 4294967296) ∧ dv e * 4294967296 + left = dv d ∧ w'.ownsRow w.heap.size 3 1 (.slice B d.length c) d.length (nums .i64 e) ∧ w'.ownsRow w.heap.size 96 1 (.slice oA o.length oc) o.length (nums .u32 o) ∧ Ext w w') ?_ ?_
      · refine J.seq ?_
        refine J.region ?_
        refine L.va rfl (X.move (by conv => lhs; whnf)) ?_
        refine L.va rfl (X.len rfl Try.underlying35) ?_
        refine L.va rfl (X.sub rfl rfl (by omega)) ?_
        refine L.va rfl (X.assign (by conv => lhs; whnf)) ?_
        refine L.nil ?_
        refine J.block ?_
        refine J.loop (X := Nat × List Int × Int) [5, 6, 17, 18, 19, 20, 21, 22, 23, 24, 25, 26, 27, 28, 29, 30, 31, 32, 33, 34] (fun (k, e, left) => [(6, .int .i64 ((k : Int) - 1)), (5, .int .i64 left)]) (fun (k, e, left) w' => k ≤ d.length ∧ e.length = d.length ∧ Dig e ∧ (0 ≤ left ∧ left < 4294967296) ∧ (∀ j, j < k → e.getD j 0 = d.getD j 0) ∧ dv (e.drop k) * 4294967296 + left = dv (d.drop k) ∧ w'.ownsRow w.heap.size 3 1 (.slice B d.length c) d.length (nums .i64 e) ∧ w'.ownsRow w.heap.size 96 1 (.slice oA o.length oc) o.length (nums .u32 o) ∧ Ext w w') (fun (k, e, left) => k) ((d.length, d, 0)) (At2 (by first | rfl | exact at_int rfl (by omega) | exact at_slice rfl (by omega) | exact at_int rfl (by simp)) (by first | rfl | exact at_int rfl (by omega) | exact at_slice rfl (by omega) | exact at_int rfl (by simp))) ?_ ?_
        · refine ⟨Nat.le_refl _, rfl, hd, by decide, fun j _ => rfl, ?_, ho4, hp4, he4⟩
          rw [List.drop_length]
          rfl
        · rintro ⟨k, e, left⟩ g w5 ⟨hk, hel, hde, hle, hez, hev, ho5, hp5, he5⟩
          have z5 := he5.le
          refine J.seq ?_
          refine J.seq ?_
          refine J.region ?_
          refine L.va rfl (X.move (by conv => lhs; whnf)) ?_
          refine L.va rfl (X.geq rfl rfl) ?_
          refine L.nil ?_
          refine J.dec rfl (fun h1 => ?_) (fun h1 => ?_)
          · obtain ⟨i, rfl⟩ : ∃ i, k = i + 1 := ⟨k - 1, by omega⟩
            have hA := own_ne ho5 (by omega)
            have ge := hde i
            have gi := hez i (by omega)
            refine J.skip ?_
            refine J.seq ?_
            refine J.block ?_
            refine J.seq ?_
            refine J.region ?_
            refine L.va rfl (X.move (by conv => lhs; whnf)) ?_
            refine L.va rfl (X.mul rfl rfl (by omega)) ?_
            refine L.va rfl (X.move (by conv => lhs; whnf)) ?_
            refine L.va rfl (X.move (by conv => lhs; whnf)) ?_
            refine L.va rfl (X.index1e (j := i) rfl rfl (by omega) Try.underlying35 sz_3 hA (by omega)) ?_
            refine L.va rfl (X.load rfl sc_3 (Ld.own ho5 (j := i) (by omega))) ?_
            refine L.va rfl (X.add rfl rfl (by omega)) ?_
            refine L.va rfl (X.assign (by conv => lhs; whnf)) ?_
            refine L.nil ?_
            refine J.seq ?_
            refine J.region ?_
            refine L.va rfl (X.move (by conv => lhs; whnf)) ?_
            refine L.va rfl (X.move (by conv => lhs; whnf)) ?_
            refine L.va rfl (X.move (by conv => lhs; whnf)) ?_
            refine L.va rfl (X.quo rfl rfl (by omega)) ?_
            refine L.va rfl (X.index1e (j := i) rfl rfl (by omega) Try.underlying35 sz_3 hA (by omega)) ?_
            obtain ⟨s, hs⟩ : ∃ s, s = left * 1000 + e.getD i 0 := ⟨_, rfl⟩
            have hdd := div_dig hle ge hs
            refine L.storeON rfl rfl (by conv => lhs; whnf) sz_3 (ho5) (by omega) ?_
            intro w6 ho6 hg6 hb6 hs6
            rw [← hs] at ho6
            have hp6 := (TCh.row ho5 hg6).own hp5 (by decide)
            have he6 := he5.grw hg6 (fun g hg => (ho5.lt g hg).1)
            refine L.nil ?_
            refine J.region ?_
            refine L.va rfl (X.move (by conv => lhs; whnf)) ?_
            refine L.va rfl (X.rem rfl rfl (by omega)) ?_
            refine L.va rfl (X.assign (by conv => lhs; whnf)) ?_
            refine L.nil ?_
            refine J.region ?_
            refine L.va rfl (X.move (by conv => lhs; whnf)) ?_
            refine L.va rfl (X.sub rfl rfl (by omega)) ?_
            refine L.va rfl (X.assign (by conv => lhs; whnf)) ?_
            refine L.nil ?_
            refine ⟨(i, e.set i (s / 4294967296), s % 4294967296), At2 (at_int rfl (by omega)) (at_int rfl (by rw [hs])), (by (iterate 21 refine Agr.lk rfl ?_); exact Agr.lk rfl (Agr.hav rfl Agr.rfl')), ?_⟩
            refine ⟨⟨by omega, by rw [List.length_set]; exact hel, dig_set hde _ ⟨hdd.1, hdd.2.1⟩, hdd.2.2, fun j hj => ?_, div_next (by omega) hev (by rw [hs, gi]), ho6, hp6, he6⟩, by show i < i + 1; omega⟩
            rw [getD_setN (by omega)]
            exact hez j (by omega)
          · obtain rfl : k = 0 := by omega
            rw [List.drop_zero, List.drop_zero] at hev
            refine J.exit ?_
            refine ⟨(e, left), At1 (by first | rfl | exact at_int rfl (by omega) | exact at_slice rfl (by omega) | exact at_int rfl (by simp)), (by (iterate 2 refine Agr.lk rfl ?_); refine Agr.lk rfl ?_; refine Agr.hav rfl ?_; (iterate 4 refine Agr.lk rfl ?_); exact Agr.rfl'), ?_⟩
            exact ⟨hel, hde, hle, hev, ho5, hp5, he5⟩
      · rintro ⟨e, left⟩ g w5 ⟨hel, hde, hle, hev, ho5, hp5, he5⟩
        have ne := dv_nn hde
        have hst := wds_st ne hle hev hV
        have hWl : o.length + 1 ≤ xd.length := by
          have h := congrArg List.length how
          rw [hst, List.length_append, List.length_cons] at h
          omega
        refine J.seq ?_
        refine J.region ?_
        refine L.va rfl (X.move (by conv => lhs; whnf)) ?_
        refine L.va rfl (X.move (by conv => lhs; whnf)) ?_
        refine L.va rfl ((by first | exact X.conv32 rfl is_3 Try.underlying96 (by omega) | exact X.convw rfl is_3 Try.underlying96)) ?_
        refine L.bslice (vs := [_]) rfl (Evs.cons (by conv => lhs; whnf) Evs.nil) rfl rfl rfl rfl Try.underlying67 sz_96 zr_96 (by decide) ?_
        intro b6 w6 hb6 hs6 hk6 he6
        have hp6 := hp5.ext he6
        have ho6 := ho5.ext he6
        have he06 := he5.trans he6
        have z6 := he06.le
        refine L.appendQ (q := o.length + 1) (ys := o ++ [left]) rfl rfl rfl Try.underlying67 el_96 (hp6) ((blk_reads (q := 1) (l := nums .u32 [left]) hk6 hk6.lt rfl)) (by omega) (by simp) (by unfold maxLen; omega) (by omega) ?_
        intro A7 c7 w7 hp7 hg7 hb7 hor7
        have he7 := he06.grw hg7 (fun g hg => (hp6.lt g hg).1)
        have ho7 := (TCh.row hp6 hg7).own ho6 (by decide)
        have el : (o ++ [left]).length = o.length + 1 := by rw [List.length_append]; rfl
        have hnc := own_bd ho7
        refine L.va rfl (X.assign (by conv => lhs; whnf)) ?_
        refine L.nil ?_
        refine J.block ?_
        refine J.loop (X := Nat) [3, 40, 41, 42, 43, 44, 45, 46, 47, 48, 49, 50, 51, 52, 53, 54, 55, 56] (fun k => [(3, .slice B k c)]) (fun k w' => k ≤ e.length ∧ (∀ j, k ≤ j → j < e.length → e.getD j 0 = 0) ∧ w7 = w') (fun k => k) (d.length) (At1 (by first | rfl | exact at_int rfl (by omega) | exact at_slice rfl (by omega) | exact at_int rfl (by simp))) ?_ ?_
        · exact ⟨by omega, fun j h1 h2 => by omega, rfl⟩
        · rintro k g w8 ⟨hk, hz, rfl⟩
          have fin : SizN e k → Dig (e.take k) ∧ Cano (e.take k) ∧ (e.take k).length ≤ xd.length ∧ (o ++ [left]) ++ Wd.wds (dv (e.take k)).toNat = Wd.wds (dv xd).toNat ∧ w7.ownsRow w.heap.size 3 1 (.slice B (e.take k).length c) (e.take k).length (nums .i64 (e.take k)) ∧ w7.ownsRow w.heap.size 96 1 (.slice A7 (o ++ [left]).length c7) (o ++ [left]).length (nums .u32 (o ++ [left])) ∧ Ext w w7 := fun hS => by
            have hlk : (e.take k).length = k := by rw [List.length_take, Nat.min_eq_left hk]
            refine ⟨dig_take hde k, siz_can hS, by omega, ?_, ?_, ?_, he7⟩
            · rw [siz_nv hS, ← how, hst, List.append_assoc]
              rfl
            · rw [hlk]
              exact own_cutN ho7 (by omega)
            · rw [el]
              exact hp7
          have fin2 : SizN e k → (dv (e.take k)).toNat < (dv d).toNat := fun hS => by
            rw [siz_nv hS]
            omega
          refine J.seq ?_
          refine J.seq ?_
          refine J.region ?_
          refine L.va rfl (X.move (by conv => lhs; whnf)) ?_
          refine L.va rfl (X.len rfl Try.underlying35) ?_
          refine L.va rfl (X.gtr rfl rfl) ?_
          refine L.va rfl (X.move (by conv => lhs; whnf)) ?_
          refine L.caseDec (k := 43) rfl (fun h1 => ?_) (fun h1 => ?_)
          · obtain ⟨m, rfl⟩ : ∃ m, k = m + 1 := ⟨k - 1, by omega⟩
            have hA := own_ne ho7 (by omega)
            refine L.va rfl (X.move (by conv => lhs; whnf)) ?_
            refine L.va rfl (X.move (by conv => lhs; whnf)) ?_
            refine L.va rfl (X.len rfl Try.underlying35) ?_
            refine L.va rfl (X.sub rfl rfl (by omega)) ?_
            refine L.va rfl (X.index1e (j := m) rfl rfl (by omega) Try.underlying35 sz_3 hA (by omega)) ?_
            refine L.va rfl (X.load rfl sc_3 (Ld.own ho7 (j := m) (by omega))) ?_
            refine L.va rfl (X.eql rfl rfl) ?_
            refine L.va rfl (X.pickT rfl (by conv => lhs; whnf)) ?_
            refine L.nil ?_
            refine J.dec rfl (fun h2 => ?_) (fun h2 => ?_)
            ·
              refine J.skip ?_
              refine J.block ?_
              refine J.region ?_
              refine L.va rfl (X.move (by conv => lhs; whnf)) ?_
              refine L.va rfl (X.move (by conv => lhs; whnf)) ?_
              refine L.va rfl (X.len rfl Try.underlying35) ?_
              refine L.va rfl (X.sub rfl rfl (by omega)) ?_
              refine L.va rfl (X.sliceTon (j := m) rfl (show Value.int .i64 (((m + 1 : Nat) : Int) - 1) = _ by rw [show (((m + 1 : Nat) : Int) - 1) = (m : Int) by omega]) Try.underlying35 sz_3 (by omega)) ?_
              refine L.va rfl (X.assign (by conv => lhs; whnf)) ?_
              refine L.nil ?_
              refine ⟨m, At1 (by first | rfl | exact at_int rfl (by omega) | exact at_slice rfl (by omega) | exact at_int rfl (by simp)), (by (iterate 19 refine Agr.lk rfl ?_); exact Agr.lk rfl (Agr.hav rfl Agr.rfl')), ?_⟩
              refine ⟨⟨by omega, fun j hj hjl => ?_, rfl⟩, by omega⟩
              rcases Nat.lt_or_ge m j with h | h
              · exact hz j h hjl
              · obtain rfl : j = m := by omega
                exact h2
            · have hS : SizN e (m + 1) := ⟨by omega, hz, fun _ => h2⟩
              have hlk : (e.take (m + 1)).length = m + 1 := by rw [List.length_take, Nat.min_eq_left hk]
              refine J.exit ?_
              refine ⟨(B, c, e.take (m + 1), A7, c7, o ++ [left]), At2 (at_slice rfl hlk.symm) (at_slice rfl el.symm), (by (iterate 13 refine Agr.lk rfl ?_); refine Agr.lk rfl ?_; refine Agr.hav rfl ?_; (iterate 6 refine Agr.lk rfl ?_); refine Agr.lk rfl ?_; refine Agr.hav rfl ?_; (iterate 4 refine Agr.lk rfl ?_); exact Agr.lk rfl (Agr.hav rfl Agr.rfl')), ?_⟩
              exact ⟨fin hS, fin2 hS⟩
          · obtain rfl : k = 0 := by omega
            have hS : SizN e 0 := ⟨by omega, hz, fun h => absurd h (by omega)⟩
            refine L.no rfl ?_
            refine L.no rfl ?_
            refine L.no rfl ?_
            refine L.no rfl ?_
            refine L.no rfl ?_
            refine L.no rfl ?_
            refine L.no rfl ?_
            refine L.va rfl (X.pickF rfl (by conv => lhs; whnf)) ?_
            refine L.nil ?_
            refine J.iteF rfl ?_
            refine J.exit ?_
            refine ⟨(B, c, e.take 0, A7, c7, o ++ [left]), At2 (rfl) (at_slice rfl el.symm), (by (iterate 13 refine Agr.lk rfl ?_); refine Agr.lk rfl ?_; refine Agr.hav rfl ?_; (iterate 6 refine Agr.lk rfl ?_); refine Agr.lk rfl ?_; refine Agr.hav rfl ?_; (iterate 4 refine Agr.lk rfl ?_); exact Agr.lk rfl (Agr.hav rfl Agr.rfl')), ?_⟩
            exact ⟨fin hS, fin2 hS⟩
    · have hd0 : d = [] := List.length_eq_zero_iff.1 (by omega)
      subst hd0
      have hw : o = Wd.wds (dv xd).toNat := by
        rw [← how]
        show o = o ++ Wd.wds 0
        rw [Wd.wds_zero, List.append_nil]
      refine J.exit ?_
      refine J.seq ?_
      refine J.region ?_
      refine L.va rfl (X.move (by conv => lhs; whnf)) ?_
      refine L.va rfl (X.assign (by conv => lhs; whnf)) ?_
      refine L.nil ?_
      refine J.ret ?_
      refine fin1 ?_
      exact ⟨oA, o, oc, rfl, hw, hp4, he4⟩
end Go.Proofs.Ytnndkepnabddgaa
namespace Go.Proofs.Ytnndkepnabddgaa
set_option maxRecDepth 100000
open Go.RowKit H
open Num Exa
set_option linter.unusedVariables false
theorem sum05 {f : Fr} {w : World} {d : Option Tmp} {ty : TypeId} {pos : String} {aft : Array Edge} {gd : Option (Nat × Bool)} {o0 o1 o2 o3 o4 o5 : Operand} {v0 v1 v2 v3 v4 g : Bool} {A : Option Addr} {n c : Nat} (h0 : ev f o0 = .bool v0) (h1 : ev f o1 = .bool v1) (h2 : ev f o2 = .bool v2) (h3 : ev f o3 = .bool v3) (h4 : ev f o4 = .bool v4) (h5 : ev f o5 = .agg #[.bool g, .slice A n c]) :
    (execOp (ev f) ⟨d, .build 85 #[(0, o0), (1, o1), (2, o2), (3, o3), (4, o4), (5, o5)], ty, pos, aft, gd⟩).run Try.prog w = .ok (.value (.agg #[.bool v0, .bool v1, .bool v2, .bool v3, .bool v4, .bool g, .slice A n c])) w :=
  X.build (l := [.bool v0, .bool v1, .bool v2, .bool v3, .bool v4, .bool g, .slice A n c]) (Evs.cons h0 (Evs.cons h1 (Evs.cons h2 (Evs.cons h3 (Evs.cons h4 (Evs.cons h5 Evs.nil)))))) (bld_run Try.underlying85 (bp_85 Try.underlying85) zr_85 (by simp [Instr.fill, Value.cells]))
theorem range_mid {w : World} {b t : Nat} {l1 l l2 : List Value} (h : Blk w b t (l1 ++ l ++ l2).toArray) : w.rangeAt b l1.length l := by
  intro j v hv
  rw [h.cell]
  have hj := (List.getElem?_eq_some_iff.1 hv).1
  simp only [List.getElem?_toArray]
  rw [List.append_assoc, List.getElem?_append_right (by omega), show l1.length + j - l1.length = j by omega, List.getElem?_append_left hj]
  exact hv
def RefR (b : List Int) (w : World) (e : Ending) (w' : World) : Prop :=
  ∃ v : Value, e = .returned (.tuple #[v, .int .i64 (readE b)]) ∧ Ext w w' ∧ (∃ vs : List Value, v = .agg vs.toArray ∧ vs.length = 7 ∧ (vs.all (·.oneCell')) = true) ∧ (readE b = 0 → ∃ t : Nu, v = .agg #[.bool (decide (b.getD 0 0 % 2 = 1)), .bool (decide (b.getD 0 0 / 2 % 2 = 1)), .bool (decide (b.getD 0 0 / 4 % 2 = 1)), .bool (decide (b.getD 0 0 / 8 % 2 = 1)), .bool (decide (b.getD 0 0 / 16 % 2 = 1)), .bool t.g, .slice t.A t.n t.c] ∧ t.At w'.heap.size w' ∧ t.g = (decide (b.getD 0 0 / 32 = 1) && decide (0 < t.n)) ∧ dv t.d = nv (magOf b) ∧ t.n ≤ 1000)
theorem RefR.bad {b : List Int} {w w' : World} {e : Ending} {z : Int} (hz : readE b = z) (h0 : z ≠ 0) (he : e = .returned (.tuple #[.agg #[.bool false, .bool false, .bool false, .bool false, .bool false, .bool false, .slice none 0 0], .int .i64 z])) (hx : Ext w w') : RefR b w e w' := ⟨_, by rw [he, hz], hx, ⟨[.bool false, .bool false, .bool false, .bool false, .bool false, .bool false, .slice none 0 0], rfl, rfl, rfl⟩, fun h => absurd (hz.symm.trans h) h0⟩
theorem rread05 (A : Option Addr) (n c : Nat) (b : List Int) (w : World) {N : Nat} (hN : N ≤ w.heap.size) (hr : Reads w N 1 A n (nums .u8 b)) (hb : InB 256 b) (hl : b.length = n) (hn : n ≤ 1000000) : Calls Try.prog 39 #[.slice A n c] w (RefR b w) := by
  have b0 := at_b hb 0
  have b1 := at_b hb 1
  have b2 := at_b hb 2
  refine enter Try.func39 rfl (by kernel_rfl) ?_
  refine J.seq ?_
  refine J.region ?_
  refine L.alloc rfl zr_85 ?_
  intro p1 w1 hp1 hs1 hq1 he1
  refine L.va rfl (X.assign (by conv => lhs; whnf)) ?_
  refine L.nil ?_
  refine J.seq ?_
  refine J.region ?_
  refine L.va rfl (X.build (l := [_, _, _, _, _, _, _]) Evs.nil (bld_run Try.underlying85 (bp_85 Try.underlying85) zr_85 rfl)) ?_
  refine L.alloc rfl zr_85 ?_
  intro p2 w2 hp2 hs2 hq2 he2
  have hq1 := hq1.ext he2
  have he02 := he1.trans he2
  refine L.storeAgg (vs := [_, _, _, _, _, _, _]) rfl rfl rfl rfl sz_85 (hq2) rfl ?_
  intro w3 hq3 hg3 hs3
  have hq13 := hq1.grown hg3 (fun e => by injection e with e; omega)
  have he3 : Ext w w3 := he02.grw hg3 (by intro g hg; injection hg with hg; omega)
  have z3 := he3.le
  have hr3 := hr.ext he3
  refine L.nil ?_
  refine J.seq ?_
  refine J.seq ?_
  refine J.region ?_
  refine L.va rfl (X.move (by conv => lhs; whnf)) ?_
  refine L.va rfl (X.len rfl Try.underlying37) ?_
  refine L.va rfl (X.eql rfl rfl) ?_
  refine L.nil ?_
  refine J.dec rfl (fun h0 => ?_) (fun h0 => ?_)
  · skip
    refine J.seq ?_
    refine J.region ?_
    refine L.va rfl ((by first | exact X.loadAgg rfl (range_l hq3) Try.underlying85 rfl (by kernel_rfl) | exact X.loadAgg rfl (range_blk hq3) Try.underlying85 rfl (by kernel_rfl))) ?_
    refine L.storeAgg (vs := [_, _, _, _, _, _, _]) rfl rfl rfl rfl sz_85 (hq13) rfl ?_
    intro we hke hge hse
    have hee : Ext w we := he3.grw hge (by intro g hg; injection hg with hg; omega)
    refine L.va rfl (X.assign (by conv => lhs; whnf)) ?_
    refine L.nil ?_
    refine J.ret ?_
    refine thn_ret <| ?_
    refine finCT rfl (run_cell hke Try.underlying85 rfl (by kernel_rfl)) ?_
    exact RefR.bad (readE_t (by omega) (fun h => by have := h.1; omega) (fun h => by have := h.1; omega)) (by decide) rfl hee
  · have hA := hr3.some_ (by omega)
    refine J.skip ?_
    refine J.seq ?_
    refine J.region ?_
    refine L.va rfl (X.move (by conv => lhs; whnf)) ?_
    refine L.va rfl (X.index1n (j := 0) rfl rfl Try.underlying37 sz_5 (by first | exact Option.some_ne_none _ | exact hr3.some_ (by omega) | exact hA) (by omega)) ?_
    refine L.va rfl (X.load rfl sc_5 (by first | exact Ld.blk hq3 rfl | exact Ld.num hr3 (by omega) | exact hA)) ?_
    refine L.va rfl ((by first | exact X.convI rfl is_5 Try.underlying3 (by omega) | exact X.convw rfl is_5 Try.underlying3)) ?_
    refine L.va rfl (X.assign (by conv => lhs; whnf)) ?_
    refine L.nil ?_
    refine J.cut (X := Unit) [3, 23, 24, 25, 26, 27, 28, 29, 30, 31, 32, 33, 34, 35, 36] (fun _ => []) (fun _ w' => ¬ H1 b ∧ w3 = w') ?_ ?_
    · refine J.seq ?_
      refine J.region ?_
      refine L.va rfl (X.move (by conv => lhs; whnf)) ?_
      refine L.va rfl (X.gtr rfl rfl) ?_
      refine L.va rfl (X.move (by conv => lhs; whnf)) ?_
      refine L.caseDec (k := 25) rfl (fun h1 => ?_) (fun h1 => ?_)
      · refine L.no rfl ?_
        refine L.no rfl ?_
        refine L.no rfl ?_
        refine L.no rfl ?_
        refine L.no rfl ?_
        refine L.no rfl ?_
        refine L.no rfl ?_
        refine L.no rfl ?_
        refine L.no rfl ?_
        refine L.va rfl (X.pickT rfl (by conv => lhs; whnf)) ?_
        refine L.nil ?_
        refine J.iteT rfl ?_
        refine J.seq ?_
        refine J.region ?_
        refine L.va rfl ((by first | exact X.loadAgg rfl (range_l hq3) Try.underlying85 rfl (by kernel_rfl) | exact X.loadAgg rfl (range_blk hq3) Try.underlying85 rfl (by kernel_rfl))) ?_
        refine L.storeAgg (vs := [_, _, _, _, _, _, _]) rfl rfl rfl rfl sz_85 (hq13) rfl ?_
        intro we hke hge hse
        have hee : Ext w we := he3.grw hge (by intro g hg; injection hg with hg; omega)
        refine L.va rfl (X.assign (by conv => lhs; whnf)) ?_
        refine L.nil ?_
        refine J.ret ?_
        refine thn_ret <| ?_
        refine finCT rfl (run_cell hke Try.underlying85 rfl (by kernel_rfl)) ?_
        exact RefR.bad (readE_H (.inl ⟨by omega, .inl h1⟩)) (by decide) rfl hee
      · refine L.va rfl (X.move (by conv => lhs; whnf)) ?_
        refine L.va rfl (X.quo rfl rfl (by omega)) ?_
        refine L.va rfl (X.eql rfl rfl) ?_
        refine L.va rfl (X.move (by conv => lhs; whnf)) ?_
        refine L.caseDec (k := 29) rfl (fun h2 => ?_) (fun h2 => ?_)
        · refine L.va rfl (X.move (by conv => lhs; whnf)) ?_
          refine L.va rfl (X.quo rfl rfl (by omega)) ?_
          refine L.va rfl (X.rem rfl rfl (by omega)) ?_
          refine L.va rfl (X.eql rfl rfl) ?_
          refine L.va rfl (X.pickT rfl (by conv => lhs; whnf)) ?_
          refine L.va rfl (X.pickF rfl (by conv => lhs; whnf)) ?_
          refine L.nil ?_
          refine J.dec rfl (fun h4 => ?_) (fun h4 => ?_)
          · skip
            refine J.seq ?_
            refine J.region ?_
            refine L.va rfl ((by first | exact X.loadAgg rfl (range_l hq3) Try.underlying85 rfl (by kernel_rfl) | exact X.loadAgg rfl (range_blk hq3) Try.underlying85 rfl (by kernel_rfl))) ?_
            refine L.storeAgg (vs := [_, _, _, _, _, _, _]) rfl rfl rfl rfl sz_85 (hq13) rfl ?_
            intro we hke hge hse
            have hee : Ext w we := he3.grw hge (by intro g hg; injection hg with hg; omega)
            refine L.va rfl (X.assign (by conv => lhs; whnf)) ?_
            refine L.nil ?_
            refine J.ret ?_
            refine thn_ret <| ?_
            refine finCT rfl (run_cell hke Try.underlying85 rfl (by kernel_rfl)) ?_
            exact RefR.bad (readE_H (.inl ⟨by omega, .inr ⟨by omega, h4⟩⟩)) (by decide) rfl hee
          · refine J.skip ?_
            refine ⟨(), At0 , (by (iterate 15 refine Agr.lk rfl ?_); exact Agr.rfl'), ?_⟩
            refine ⟨?_, rfl⟩
            rintro ⟨_, h | ⟨_, h⟩⟩ <;> omega
        · refine L.no rfl ?_
          refine L.no rfl ?_
          refine L.no rfl ?_
          refine L.no rfl ?_
          refine L.va rfl (X.pickF rfl (by conv => lhs; whnf)) ?_
          refine L.va rfl (X.pickF rfl (by conv => lhs; whnf)) ?_
          refine L.nil ?_
          refine J.iteF rfl ?_
          refine J.skip ?_
          refine ⟨(), At0 , (by (iterate 15 refine Agr.lk rfl ?_); exact Agr.rfl'), ?_⟩
          refine ⟨?_, rfl⟩
          rintro ⟨_, h | ⟨h, _⟩⟩ <;> omega
    · rintro ⟨⟩ g w4 ⟨n1, rfl⟩
      have b63 : b.getD 0 0 ≤ 63 := by
        apply Decidable.byContradiction
        intro h
        exact n1 ⟨by omega, .inl (by omega)⟩
      refine J.seq ?_
      refine J.region ?_
      refine L.va rfl (X.move (by conv => lhs; whnf)) ?_
      refine L.va rfl (X.quo rfl rfl (by omega)) ?_
      refine L.va rfl (X.rem rfl rfl (by omega)) ?_
      refine L.va rfl (X.eql rfl rfl) ?_
      refine L.va rfl (X.move (by conv => lhs; whnf)) ?_
      refine L.va rfl (X.quo rfl rfl (by omega)) ?_
      refine L.va rfl (X.eql rfl rfl) ?_
      refine L.va rfl (X.assign (by conv => lhs; whnf)) ?_
      refine L.va rfl (X.assign (by conv => lhs; whnf)) ?_
      refine L.nil ?_
      refine J.seq ?_
      refine J.seq ?_
      refine J.region ?_
      refine L.va rfl (X.move (by conv => lhs; whnf)) ?_
      refine L.va rfl (X.len rfl Try.underlying37) ?_
      refine L.va rfl (X.eql rfl rfl) ?_
      refine L.nil ?_
      refine J.dec rfl (fun h1 => ?_) (fun h1 => ?_)
      · skip
        refine J.seq ?_
        refine J.region ?_
        refine L.va rfl ((by first | exact X.loadAgg rfl (range_l hq3) Try.underlying85 rfl (by kernel_rfl) | exact X.loadAgg rfl (range_blk hq3) Try.underlying85 rfl (by kernel_rfl))) ?_
        refine L.storeAgg (vs := [_, _, _, _, _, _, _]) rfl rfl rfl rfl sz_85 (hq13) rfl ?_
        intro we hke hge hse
        have hee : Ext w we := he3.grw hge (by intro g hg; injection hg with hg; omega)
        refine L.va rfl (X.assign (by conv => lhs; whnf)) ?_
        refine L.nil ?_
        refine J.ret ?_
        refine thn_ret <| ?_
        refine finCT rfl (run_cell hke Try.underlying85 rfl (by kernel_rfl)) ?_
        exact RefR.bad (readE_t (by omega) n1 (fun h => by have := h.1; omega)) (by decide) rfl hee
      · refine J.skip ?_
        refine J.seq ?_
        refine J.region ?_
        refine L.va rfl (X.move (by conv => lhs; whnf)) ?_
        refine L.va rfl (X.index1n (j := 1) rfl rfl Try.underlying37 sz_5 (by first | exact Option.some_ne_none _ | exact hr3.some_ (by omega) | exact hA) (by omega)) ?_
        refine L.va rfl (X.load rfl sc_5 (by first | exact Ld.blk hq3 rfl | exact Ld.num hr3 (by omega) | exact hA)) ?_
        refine L.va rfl ((by first | exact X.convI rfl is_5 Try.underlying3 (by omega) | exact X.convw rfl is_5 Try.underlying3)) ?_
        refine L.va rfl (X.assign (by conv => lhs; whnf)) ?_
        refine L.nil ?_
        refine J.cut (X := Unit) [3, 52, 53, 54, 55, 56, 57, 58, 59, 60, 61, 62] (fun _ => []) (fun _ w' => ¬ H2 b ∧ w3 = w') ?_ ?_
        · refine J.seq ?_
          refine J.region ?_
          refine L.va rfl (X.move (by conv => lhs; whnf)) ?_
          refine L.va rfl (X.gtr rfl rfl) ?_
          refine L.va rfl (X.move (by conv => lhs; whnf)) ?_
          refine L.caseDec (k := 54) rfl (fun h2 => ?_) (fun h2 => ?_)
          · refine L.no rfl ?_
            refine L.no rfl ?_
            refine L.no rfl ?_
            refine L.no rfl ?_
            refine L.no rfl ?_
            refine L.no rfl ?_
            refine L.va rfl (X.pickT rfl (by conv => lhs; whnf)) ?_
            refine L.nil ?_
            refine J.iteT rfl ?_
            refine J.seq ?_
            refine J.region ?_
            refine L.va rfl ((by first | exact X.loadAgg rfl (range_l hq3) Try.underlying85 rfl (by kernel_rfl) | exact X.loadAgg rfl (range_blk hq3) Try.underlying85 rfl (by kernel_rfl))) ?_
            refine L.storeAgg (vs := [_, _, _, _, _, _, _]) rfl rfl rfl rfl sz_85 (hq13) rfl ?_
            intro we hke hge hse
            have hee : Ext w we := he3.grw hge (by intro g hg; injection hg with hg; omega)
            refine L.va rfl (X.assign (by conv => lhs; whnf)) ?_
            refine L.nil ?_
            refine J.ret ?_
            refine thn_ret <| ?_
            refine finCT rfl (run_cell hke Try.underlying85 rfl (by kernel_rfl)) ?_
            exact RefR.bad (readE_H (.inr (.inl ⟨by omega, .inl h2⟩))) (by decide) rfl hee
          · refine L.va rfl (X.move (by conv => lhs; whnf)) ?_
            refine L.va rfl (X.gtr rfl rfl) ?_
            refine L.va rfl (X.move (by conv => lhs; whnf)) ?_
            refine L.caseDec (k := 57) rfl (fun h3 => ?_) (fun h3 => ?_)
            · refine L.va rfl (X.move (by conv => lhs; whnf)) ?_
              refine L.va rfl (X.not rfl) ?_
              refine L.va rfl (X.pickT rfl (by conv => lhs; whnf)) ?_
              refine L.va rfl (X.pickF rfl (by conv => lhs; whnf)) ?_
              refine L.nil ?_
              refine J.ite rfl (fun h4 => ?_) (fun h4 => ?_)
              · have h4 : ¬ b.getD 0 0 / 16 % 2 = 1 := by simpa using h4
                refine J.seq ?_
                refine J.region ?_
                refine L.va rfl ((by first | exact X.loadAgg rfl (range_l hq3) Try.underlying85 rfl (by kernel_rfl) | exact X.loadAgg rfl (range_blk hq3) Try.underlying85 rfl (by kernel_rfl))) ?_
                refine L.storeAgg (vs := [_, _, _, _, _, _, _]) rfl rfl rfl rfl sz_85 (hq13) rfl ?_
                intro we hke hge hse
                have hee : Ext w we := he3.grw hge (by intro g hg; injection hg with hg; omega)
                refine L.va rfl (X.assign (by conv => lhs; whnf)) ?_
                refine L.nil ?_
                refine J.ret ?_
                refine thn_ret <| ?_
                refine finCT rfl (run_cell hke Try.underlying85 rfl (by kernel_rfl)) ?_
                exact RefR.bad (readE_H (.inr (.inl ⟨by omega, .inr ⟨h3, by omega⟩⟩))) (by decide) rfl hee
              · have h4 : b.getD 0 0 / 16 % 2 = 1 := by simpa using h4
                refine J.skip ?_
                refine ⟨(), At0 , (by (iterate 12 refine Agr.lk rfl ?_); exact Agr.rfl'), ?_⟩
                refine ⟨?_, rfl⟩
                rintro ⟨_, h | ⟨_, h⟩⟩ <;> omega
            · refine L.no rfl ?_
              refine L.no rfl ?_
              refine L.va rfl (X.pickF rfl (by conv => lhs; whnf)) ?_
              refine L.va rfl (X.pickF rfl (by conv => lhs; whnf)) ?_
              refine L.nil ?_
              refine J.iteF rfl ?_
              refine J.skip ?_
              refine ⟨(), At0 , (by (iterate 12 refine Agr.lk rfl ?_); exact Agr.rfl'), ?_⟩
              refine ⟨?_, rfl⟩
              rintro ⟨_, h | ⟨h, _⟩⟩ <;> omega
        · rintro ⟨⟩ g w4 ⟨n2, rfl⟩
          refine J.seq ?_
          refine J.seq ?_
          refine J.region ?_
          refine L.va rfl (X.move (by conv => lhs; whnf)) ?_
          refine L.va rfl (X.len rfl Try.underlying37) ?_
          refine L.va rfl (X.eql rfl rfl) ?_
          refine L.nil ?_
          refine J.dec rfl (fun h2 => ?_) (fun h2 => ?_)
          · skip
            refine J.seq ?_
            refine J.region ?_
            refine L.va rfl ((by first | exact X.loadAgg rfl (range_l hq3) Try.underlying85 rfl (by kernel_rfl) | exact X.loadAgg rfl (range_blk hq3) Try.underlying85 rfl (by kernel_rfl))) ?_
            refine L.storeAgg (vs := [_, _, _, _, _, _, _]) rfl rfl rfl rfl sz_85 (hq13) rfl ?_
            intro we hke hge hse
            have hee : Ext w we := he3.grw hge (by intro g hg; injection hg with hg; omega)
            refine L.va rfl (X.assign (by conv => lhs; whnf)) ?_
            refine L.nil ?_
            refine J.ret ?_
            refine thn_ret <| ?_
            refine finCT rfl (run_cell hke Try.underlying85 rfl (by kernel_rfl)) ?_
            exact RefR.bad (readE_t (by omega) n1 n2) (by decide) rfl hee
          · refine J.skip ?_
            refine J.seq ?_
            refine J.region ?_
            refine L.va rfl (X.move (by conv => lhs; whnf)) ?_
            refine L.va rfl (X.index1n (j := 2) rfl rfl Try.underlying37 sz_5 (by first | exact Option.some_ne_none _ | exact hr3.some_ (by omega) | exact hA) (by omega)) ?_
            refine L.va rfl (X.load rfl sc_5 (by first | exact Ld.blk hq3 rfl | exact Ld.num hr3 (by omega) | exact hA)) ?_
            refine L.va rfl ((by first | exact X.convI rfl is_5 Try.underlying3 (by omega) | exact X.convw rfl is_5 Try.underlying3)) ?_
            refine L.va rfl (X.assign (by conv => lhs; whnf)) ?_
            refine L.nil ?_
            refine J.cut (X := Unit) [3, 71, 72, 73, 74, 75, 76, 77, 78, 79, 80, 81, 82, 83, 84, 85, 86, 87, 88, 89, 90, 91, 92, 93, 94] (fun _ => []) (fun _ w' => ¬ H3 b ∧ w3 = w') ?_ ?_
            · refine J.seq ?_
              refine J.region ?_
              refine L.va rfl (X.move (by conv => lhs; whnf)) ?_
              refine L.va rfl (X.move (by conv => lhs; whnf)) ?_
              refine L.va rfl (X.add rfl rfl (by omega)) ?_
              refine L.va rfl (X.gtr rfl rfl) ?_
              refine L.va rfl (X.move (by conv => lhs; whnf)) ?_
              refine L.caseDec (k := 75) rfl (fun h4 => ?_) (fun h4 => ?_)
              · refine L.no rfl ?_
                refine L.no rfl ?_
                refine L.no rfl ?_
                refine L.no rfl ?_
                refine L.no rfl ?_
                refine L.no rfl ?_
                refine L.va rfl (X.pickT rfl (by conv => lhs; whnf)) ?_
                refine L.va rfl (X.move (by conv => lhs; whnf)) ?_
                refine L.no rfl ?_
                refine L.no rfl ?_
                refine L.no rfl ?_
                refine L.no rfl ?_
                refine L.no rfl ?_
                refine L.no rfl ?_
                refine L.no rfl ?_
                refine L.no rfl ?_
                refine L.no rfl ?_
                refine L.va rfl (X.pickT rfl (by conv => lhs; whnf)) ?_
                refine L.nil ?_
                refine J.iteT rfl ?_
                refine J.seq ?_
                refine J.region ?_
                refine L.va rfl ((by first | exact X.loadAgg rfl (range_l hq3) Try.underlying85 rfl (by kernel_rfl) | exact X.loadAgg rfl (range_blk hq3) Try.underlying85 rfl (by kernel_rfl))) ?_
                refine L.storeAgg (vs := [_, _, _, _, _, _, _]) rfl rfl rfl rfl sz_85 (hq13) rfl ?_
                intro we hke hge hse
                have hee : Ext w we := he3.grw hge (by intro g hg; injection hg with hg; omega)
                refine L.va rfl (X.assign (by conv => lhs; whnf)) ?_
                refine L.nil ?_
                refine J.ret ?_
                refine thn_ret <| ?_
                refine finCT rfl (run_cell hke Try.underlying85 rfl (by kernel_rfl)) ?_
                exact RefR.bad (readE_H (.inr (.inr ⟨by omega, .inl (by omega)⟩))) (by decide) rfl hee
              · refine L.va rfl (X.move (by conv => lhs; whnf)) ?_
                refine L.va rfl (X.gtr rfl rfl) ?_
                refine L.va rfl (X.move (by conv => lhs; whnf)) ?_
                refine L.caseDec (k := 78) rfl (fun h5 => ?_) (fun h5 => ?_)
                · refine L.va rfl (X.move (by conv => lhs; whnf)) ?_
                  refine L.va rfl (X.not rfl) ?_
                  refine L.va rfl (X.pickT rfl (by conv => lhs; whnf)) ?_
                  refine L.va rfl (X.pickF rfl (by conv => lhs; whnf)) ?_
                  refine L.va rfl (X.move (by conv => lhs; whnf)) ?_
                  refine L.caseB (k := 83) rfl (fun h6 => ?_) (fun h6 => ?_)
                  · have h6 : ¬ b.getD 0 0 / 16 % 2 = 1 := by simpa using h6
                    refine L.no rfl ?_
                    refine L.no rfl ?_
                    refine L.no rfl ?_
                    refine L.no rfl ?_
                    refine L.no rfl ?_
                    refine L.no rfl ?_
                    refine L.no rfl ?_
                    refine L.no rfl ?_
                    refine L.no rfl ?_
                    refine L.va rfl (X.pickT rfl (by conv => lhs; whnf)) ?_
                    refine L.nil ?_
                    refine J.iteT rfl ?_
                    refine J.seq ?_
                    refine J.region ?_
                    refine L.va rfl ((by first | exact X.loadAgg rfl (range_l hq3) Try.underlying85 rfl (by kernel_rfl) | exact X.loadAgg rfl (range_blk hq3) Try.underlying85 rfl (by kernel_rfl))) ?_
                    refine L.storeAgg (vs := [_, _, _, _, _, _, _]) rfl rfl rfl rfl sz_85 (hq13) rfl ?_
                    intro we hke hge hse
                    have hee : Ext w we := he3.grw hge (by intro g hg; injection hg with hg; omega)
                    refine L.va rfl (X.assign (by conv => lhs; whnf)) ?_
                    refine L.nil ?_
                    refine J.ret ?_
                    refine thn_ret <| ?_
                    refine finCT rfl (run_cell hke Try.underlying85 rfl (by kernel_rfl)) ?_
                    exact RefR.bad (readE_H (.inr (.inr ⟨by omega, .inr (.inl ⟨h5, by omega⟩)⟩))) (by decide) rfl hee
                  · have h6 : b.getD 0 0 / 16 % 2 = 1 := by simpa using h6
                    refine L.va rfl (X.move (by conv => lhs; whnf)) ?_
                    refine L.va rfl (X.eql rfl rfl) ?_
                    refine L.va rfl (X.move (by conv => lhs; whnf)) ?_
                    refine L.caseDecF (k := 86) rfl (by omega) ?_
                    refine L.no rfl ?_
                    refine L.no rfl ?_
                    refine L.no rfl ?_
                    refine L.no rfl ?_
                    refine L.no rfl ?_
                    refine L.va rfl (X.pickF rfl (by conv => lhs; whnf)) ?_
                    refine L.va rfl (X.pickF rfl (by conv => lhs; whnf)) ?_
                    refine L.nil ?_
                    refine J.iteF rfl ?_
                    refine J.skip ?_
                    refine ⟨(), At0 , (by (iterate 27 refine Agr.lk rfl ?_); exact Agr.rfl'), ?_⟩
                    refine ⟨?_, rfl⟩
                    rintro ⟨_, h | ⟨_, h⟩ | ⟨h, _⟩⟩ <;> omega
                · refine L.no rfl ?_
                  refine L.no rfl ?_
                  refine L.va rfl (X.pickF rfl (by conv => lhs; whnf)) ?_
                  refine L.va rfl (X.pickF rfl (by conv => lhs; whnf)) ?_
                  refine L.va rfl (X.move (by conv => lhs; whnf)) ?_
                  refine L.va rfl (X.move (by conv => lhs; whnf)) ?_
                  refine L.va rfl (X.eql rfl rfl) ?_
                  refine L.va rfl (X.move (by conv => lhs; whnf)) ?_
                  refine L.caseDecT (k := 86) rfl (by omega) ?_
                  refine L.va rfl (X.move (by conv => lhs; whnf)) ?_
                  refine L.va rfl (X.gtr rfl rfl) ?_
                  refine L.va rfl (X.move (by conv => lhs; whnf)) ?_
                  refine L.caseDec (k := 89) rfl (fun h6 => ?_) (fun h6 => ?_)
                  · refine L.no rfl ?_
                    refine L.va rfl (X.pickT rfl (by conv => lhs; whnf)) ?_
                    refine L.va rfl (X.pickT rfl (by conv => lhs; whnf)) ?_
                    refine L.va rfl (X.pickF rfl (by conv => lhs; whnf)) ?_
                    refine L.nil ?_
                    refine J.iteT rfl ?_
                    refine J.seq ?_
                    refine J.region ?_
                    refine L.va rfl ((by first | exact X.loadAgg rfl (range_l hq3) Try.underlying85 rfl (by kernel_rfl) | exact X.loadAgg rfl (range_blk hq3) Try.underlying85 rfl (by kernel_rfl))) ?_
                    refine L.storeAgg (vs := [_, _, _, _, _, _, _]) rfl rfl rfl rfl sz_85 (hq13) rfl ?_
                    intro we hke hge hse
                    have hee : Ext w we := he3.grw hge (by intro g hg; injection hg with hg; omega)
                    refine L.va rfl (X.assign (by conv => lhs; whnf)) ?_
                    refine L.nil ?_
                    refine J.ret ?_
                    refine thn_ret <| ?_
                    refine finCT rfl (run_cell hke Try.underlying85 rfl (by kernel_rfl)) ?_
                    exact RefR.bad (readE_H (.inr (.inr ⟨by omega, .inr (.inr ⟨by omega, .inl h6⟩)⟩))) (by decide) rfl hee
                  · refine L.va rfl (X.move (by conv => lhs; whnf)) ?_
                    refine L.va rfl (X.pickF rfl (by conv => lhs; whnf)) ?_
                    refine L.va rfl (X.pickT rfl (by conv => lhs; whnf)) ?_
                    refine L.va rfl (X.pickF rfl (by conv => lhs; whnf)) ?_
                    refine L.nil ?_
                    refine J.dec rfl (fun h7 => ?_) (fun h7 => ?_)
                    · have h7 : b.getD 0 0 / 32 = 1 := by simpa using h7
                      refine J.seq ?_
                      refine J.region ?_
                      refine L.va rfl ((by first | exact X.loadAgg rfl (range_l hq3) Try.underlying85 rfl (by kernel_rfl) | exact X.loadAgg rfl (range_blk hq3) Try.underlying85 rfl (by kernel_rfl))) ?_
                      refine L.storeAgg (vs := [_, _, _, _, _, _, _]) rfl rfl rfl rfl sz_85 (hq13) rfl ?_
                      intro we hke hge hse
                      have hee : Ext w we := he3.grw hge (by intro g hg; injection hg with hg; omega)
                      refine L.va rfl (X.assign (by conv => lhs; whnf)) ?_
                      refine L.nil ?_
                      refine J.ret ?_
                      refine thn_ret <| ?_
                      refine finCT rfl (run_cell hke Try.underlying85 rfl (by kernel_rfl)) ?_
                      exact RefR.bad (readE_H (.inr (.inr ⟨by omega, .inr (.inr ⟨by omega, .inr (by omega)⟩)⟩))) (by decide) rfl hee
                    · have h7 : ¬ b.getD 0 0 / 32 = 1 := by simpa using h7
                      refine J.skip ?_
                      refine ⟨(), At0 , (by (iterate 27 refine Agr.lk rfl ?_); exact Agr.rfl'), ?_⟩
                      refine ⟨?_, rfl⟩
                      rintro ⟨_, h | ⟨h, _⟩ | ⟨_, h⟩⟩ <;> omega
            · rintro ⟨⟩ g w4 ⟨n3, rfl⟩
              obtain ⟨lo, elo⟩ := Int.eq_ofNat_of_zero_le b1.1
              obtain ⟨m, em⟩ := Int.eq_ofNat_of_zero_le b2.1
              have H0 := head_0 n1 n2 n3
              have h3 : ¬ b.length < 3 := by omega
              have hq : lo + m ≤ 70 := by
                apply Decidable.byContradiction
                intro h
                exact n3 ⟨by omega, .inl (by omega)⟩
              refine J.seq ?_
              refine J.region ?_
              refine L.va rfl (X.move (by conv => lhs; whnf)) ?_
              refine L.va rfl (X.move (by conv => lhs; whnf)) ?_
              refine L.va rfl (X.add rfl rfl (by omega)) ?_
              rw [elo, em]
              refine L.make (q := lo + m) (c := lo + m) rfl rfl rfl Try.underlying67 el_96 (by omega) ?_
              intro b4 w4 hb4 hs4 hk4 he4
              rw [made_one rfl] at hk4
              have he04 := he3.trans he4
              have hq14 := hq13.ext he4
              have hq4 := hq3.ext he4
              have ho4 : w4.ownsRow w.heap.size 96 1 (.slice (some ⟨b4, 0, none⟩) (lo + m) (lo + m)) (lo + m) (nums .u32 (mg b (lo + m) 0)) := by
                have := blk_own1 (base := w.heap.size) (q := lo + m) (l := List.replicate (lo + m) (Value.int .u32 0)) hk4 (by omega) (by unfold maxLen; omega) (by simp)
                have e : nums .u32 (mg b (lo + m) 0) = List.replicate (lo + m) (Value.int .u32 0) := by unfold mg nums; simp
                rw [e]
                exact this
              refine L.va rfl (X.assign (by conv => lhs; whnf)) ?_
              refine L.nil ?_
              refine J.seq ?_
              refine J.seq ?_
              refine J.region ?_
              refine L.va rfl (X.assign (by conv => lhs; whnf)) ?_
              refine L.nil ?_
              refine J.block ?_
              refine J.loop (X := Nat) [3, 11, 12, 13, 99, 100, 101, 102, 103, 104, 105, 106, 107, 108, 109, 110, 111, 112, 113, 114, 115, 116, 117, 118, 119, 120, 121, 122, 123, 124, 125, 126, 127, 128, 129, 130, 131, 132, 133, 134, 135, 136, 137, 138, 139, 140, 141, 142, 143, 144, 145, 146, 147, 148, 149, 150, 151, 152, 153, 154, 155, 156, 157, 158, 159, 160, 161, 162] (fun i => [(11, .int .i64 (i : Int))]) (fun i w' => i ≤ m ∧ (∀ j, j < i → stepE b m j = 0) ∧ w'.ownsRow w.heap.size 96 1 (.slice (some ⟨b4, 0, none⟩) (lo + m) (lo + m)) (lo + m) (nums .u32 (mg b (lo + m) i)) ∧ Blk w' p1 85 #[.bool false, .bool false, .bool false, .bool false, .bool false, .bool false, .slice none 0 0] ∧ Blk w' p2 85 #[.bool false, .bool false, .bool false, .bool false, .bool false, .bool false, .slice none 0 0] ∧ Ext w w') (fun i => m - i) (0) (At1 (by first | rfl | exact at_int rfl (by omega) | exact at_slice rfl (by omega) | exact at_int rfl (by simp))) ?_ ?_
              · exact ⟨Nat.zero_le _, fun j hj => absurd hj (by omega), ho4, hq14, hq4, he04⟩
              · rintro i g w5 ⟨hi, hs, ho5, k1, k2, he5⟩
                have z5 := he5.le
                have bad : ∀ z : Int, z ≠ 0 → i < m → stepE b m i = z → readE b = z := fun z hz him e => by
                  have := wordsE_at him hs (by rw [e]; exact hz)
                  rw [readE_w H0 h3 em (by rw [this, e]; exact hz), this, e]
                refine J.seq ?_
                refine J.seq ?_
                refine J.region ?_
                refine L.va rfl (X.move (by conv => lhs; whnf)) ?_
                refine L.va rfl (X.move (by conv => lhs; whnf)) ?_
                refine L.va rfl (X.lss rfl rfl) ?_
                refine L.nil ?_
                refine J.dec rfl (fun hlt => ?_) (fun hlt => ?_)
                · have him : i < m := by omega
                  have hml := mg_len b (show i ≤ lo + m by omega)
                  refine J.skip ?_
                  refine J.seq ?_
                  refine J.block ?_
                  refine J.cut (X := Unit) [3, 12, 13, 104, 105, 106, 107, 108, 109, 110, 111, 112, 113, 114, 115, 116, 117, 118, 119, 120, 121, 122, 123, 124, 125, 126, 127, 128, 129, 130, 131, 132, 133, 134, 135, 136, 137, 138, 139, 140, 141] (fun _ => []) (fun _ w' => 3 + 4 * i + 4 ≤ b.length ∧ w'.ownsRow w.heap.size 96 1 (.slice (some ⟨b4, 0, none⟩) (lo + m) (lo + m)) (lo + m) (nums .u32 (mg b (lo + m) (i + 1))) ∧ Blk w' p1 85 #[.bool false, .bool false, .bool false, .bool false, .bool false, .bool false, .slice none 0 0] ∧ Blk w' p2 85 #[.bool false, .bool false, .bool false, .bool false, .bool false, .bool false, .slice none 0 0] ∧ Ext w w') ?_ ?_
                  · refine J.seq ?_
                    refine J.region ?_
                    refine L.va rfl (X.assign (by conv => lhs; whnf)) ?_
                    refine L.nil ?_
                    refine J.block ?_
                    refine J.loop (X := Nat) [3, 12, 13, 104, 105, 106, 107, 108, 109, 110, 111, 112, 113, 114, 115, 116, 117, 118, 119, 120, 121, 122, 123, 124, 125, 126, 127, 128, 129, 130, 131, 132, 133, 134, 135, 136, 137, 138, 139, 140, 141] (fun k => [(12, .int .i64 (k : Int))]) (fun k w' => k ≤ 4 ∧ 3 + 4 * i + k ≤ b.length ∧ w'.ownsRow w.heap.size 96 1 (.slice (some ⟨b4, 0, none⟩) (lo + m) (lo + m)) (lo + m) (nums .u32 ((mg b (lo + m) i).set (lo + m - 1 - i) (pw b i k))) ∧ Blk w' p1 85 #[.bool false, .bool false, .bool false, .bool false, .bool false, .bool false, .slice none 0 0] ∧ Blk w' p2 85 #[.bool false, .bool false, .bool false, .bool false, .bool false, .bool false, .slice none 0 0] ∧ Ext w w') (fun k => 4 - k) (0) (At1 (by first | rfl | exact at_int rfl (by omega) | exact at_slice rfl (by omega) | exact at_int rfl (by simp))) ?_ ?_
                    · refine ⟨by omega, ?_, ?_, k1, k2, he5⟩
                      · rcases i with _ | i
                        · omega
                        · have := hs i (by omega)
                          unfold stepE at this
                          split at this
                          · cases this
                          · omega
                      · rw [show pw b i 0 = 0 from rfl, set_self (mg_at b (by omega)) (by omega)]
                        exact ho5
                    · rintro k g w6 ⟨hk, hkl, ho6, k61, k62, he6⟩
                      have z6 := he6.le
                      refine J.seq ?_
                      refine J.seq ?_
                      refine J.region ?_
                      refine L.va rfl (X.move (by conv => lhs; whnf)) ?_
                      refine L.va rfl (X.lss rfl rfl) ?_
                      refine L.nil ?_
                      refine J.dec rfl (fun hk4 => ?_) (fun hk4 => ?_)
                      · have hbk := at_b hb (3 + 4 * i + k)
                        refine J.skip ?_
                        refine J.seq ?_
                        refine J.block ?_
                        refine J.seq ?_
                        refine J.region ?_
                        refine L.va rfl (X.move (by conv => lhs; whnf)) ?_
                        refine L.va rfl (X.mul rfl rfl (by omega)) ?_
                        refine L.va rfl (X.add rfl rfl (by omega)) ?_
                        refine L.va rfl (X.move (by conv => lhs; whnf)) ?_
                        refine L.va rfl (X.add rfl rfl (by omega)) ?_
                        refine L.va rfl (X.assign (by conv => lhs; whnf)) ?_
                        refine L.nil ?_
                        refine J.seq ?_
                        refine J.seq ?_
                        refine J.region ?_
                        refine L.va rfl (X.move (by conv => lhs; whnf)) ?_
                        refine L.va rfl (X.move (by conv => lhs; whnf)) ?_
                        refine L.va rfl (X.len rfl Try.underlying37) ?_
                        refine L.va rfl (X.geq rfl rfl) ?_
                        refine L.nil ?_
                        refine J.dec rfl (fun h5 => ?_) (fun h5 => ?_)
                        · skip
                          refine J.seq ?_
                          refine J.region ?_
                          refine L.va rfl ((by first | exact X.loadAgg rfl (range_l k62) Try.underlying85 rfl (by kernel_rfl) | exact X.loadAgg rfl (range_blk k62) Try.underlying85 rfl (by kernel_rfl))) ?_
                          refine L.storeAgg (vs := [_, _, _, _, _, _, _]) rfl rfl rfl rfl sz_85 (k61) rfl ?_
                          intro we hke hge hse
                          have hee : Ext w we := he6.grw hge (by intro g hg; injection hg with hg; omega)
                          refine L.va rfl (X.assign (by conv => lhs; whnf)) ?_
                          refine L.nil ?_
                          refine J.ret ?_
                          refine thn_ret <|  inB_ret <|  thn_ret <|  thn_ret <|  inB_ret <|  thn_ret <|  inB_ret <|  thn_ret <|  thn_ret <|  inB_ret <|  thn_ret <| ?_
                          refine finCT rfl (run_cell hke Try.underlying85 rfl (by kernel_rfl)) ?_
                          exact RefR.bad (bad 5 (by decide) him (by unfold stepE; rw [if_pos (by omega)])) (by decide) rfl hee
                        · have hr6 := hr.ext he6
                          have hpb := pw_b hb i k
                          have hpk : pw b i k ≤ 16777215 := by
                            have h2 : (256 : Int) ^ k ≤ 16777216 := by
                              have : k = 0 ∨ k = 1 ∨ k = 2 ∨ k = 3 := by omega
                              rcases this with rfl | rfl | rfl | rfl <;> decide
                            omega
                          have hgs : ((mg b (lo + m) i).set (lo + m - 1 - i) (pw b i k)).getD (lo + m - 1 - i) 0 = pw b i k := Exa.getD_set (by omega)
                          have hld : ∀ w', Ext w6 w' → Ld w' (pA (some ⟨b4, 0, none⟩) (lo + m - 1 - i)) (.int .u32 (pw b i k)) := fun w' hw => by
                            have := Ld.own (ho6.ext hw) (j := lo + m - 1 - i) (by omega)
                            rwa [hgs] at this
                          refine J.skip ?_
                          refine J.draw (ℓ := 24) (S := Ext w6) mixed (fun w7 hS hS_h => ?_)
                          refine D.va 0 rfl (by kernel_rfl) (fun _ _ _ h => h) rfl (fun w' hw => X.move (by conv => lhs; whnf)) hS ?_
                          refine D.va 1 rfl (by kernel_rfl) (fun _ _ _ h => h) rfl (fun w' hw => X.move (by conv => lhs; whnf)) hS ?_
                          refine D.va 2 rfl (by kernel_rfl) (fun _ _ _ h => h) rfl (fun w' hw => X.move (by conv => lhs; whnf)) hS ?_
                          refine D.va 3 rfl (by kernel_rfl) (fun _ _ _ h => h) rfl (fun w' hw => X.add rfl rfl (by omega)) hS ?_
                          refine D.va 4 rfl (by kernel_rfl) (fun _ _ _ h => h) rfl (fun w' hw => X.sub rfl rfl (by omega)) hS ?_
                          refine D.va 5 rfl (by kernel_rfl) (fun _ _ _ h => h) rfl (fun w' hw => X.move (by conv => lhs; whnf)) hS ?_
                          refine D.va 6 rfl (by kernel_rfl) (fun _ _ _ h => h) rfl (fun w' hw => X.sub rfl rfl (by omega)) hS ?_
                          refine D.va 7 rfl (by kernel_rfl) (fun _ _ _ h => h) rfl (fun w' hw => X.move (by conv => lhs; whnf)) hS ?_
                          refine D.va 8 rfl (by kernel_rfl) (fun _ _ _ h => h) rfl (fun w' hw => X.move (by conv => lhs; whnf)) hS ?_
                          refine D.va 9 rfl (by kernel_rfl) (fun _ _ _ h => h) rfl (fun w' hw => X.move (by conv => lhs; whnf)) hS ?_
                          refine D.va 10 rfl (by kernel_rfl) (fun _ _ _ h => h) rfl (fun w' hw => X.add rfl rfl (by omega)) hS ?_
                          refine D.va 11 rfl (by kernel_rfl) (fun _ _ _ h => h) rfl (fun w' hw => X.sub rfl rfl (by omega)) hS ?_
                          refine D.va 12 rfl (by kernel_rfl) (fun _ _ _ h => h) rfl (fun w' hw => X.move (by conv => lhs; whnf)) hS ?_
                          refine D.va 13 rfl (by kernel_rfl) (fun _ _ _ h => h) rfl (fun w' hw => X.sub rfl rfl (by omega)) hS ?_
                          refine D.va 14 rfl (by kernel_rfl) (fun _ _ _ h => h) rfl (fun w' hw => X.index1e (j := lo + m - 1 - i) rfl rfl (by omega) Try.underlying67 sz_96 (Option.some_ne_none _) (by omega)) hS ?_
                          refine D.va 15 rfl (by kernel_rfl) (fun _ _ _ h => h) rfl (fun w' hw => X.load rfl sc_96 (hld w' hw)) hS ?_
                          refine D.va 16 rfl (by kernel_rfl) (fun _ _ _ h => h) rfl (fun w' hw => X.mulw rfl rfl) hS ?_
                          refine D.va 17 rfl (by kernel_rfl) (fun _ _ _ h => h) rfl (fun w' hw => X.move (by conv => lhs; whnf)) hS ?_
                          refine D.va 18 rfl (by kernel_rfl) (fun _ _ _ h => h) rfl (fun w' hw => X.move (by conv => lhs; whnf)) hS ?_
                          refine D.va 19 rfl (by kernel_rfl) (fun _ _ _ h => h) rfl (fun w' hw => X.index1e (j := 3 + 4 * i + k) rfl rfl (by omega) Try.underlying37 sz_5 hA (by omega)) hS ?_
                          refine D.va 20 rfl (by kernel_rfl) (fun _ _ _ h => h) rfl (fun w' hw => X.load rfl sc_5 (by first | exact Ld.num (hr6.ext hw) (by omega) | exact Ld.own (ho6.ext hw) (by omega) | exact hA)) hS ?_
                          refine D.va 21 rfl (by kernel_rfl) (fun _ _ _ h => h) rfl (fun w' hw => (by first | exact X.conv32 rfl is_5 Try.underlying96 (by omega) | exact X.convw rfl is_5 Try.underlying96)) hS ?_
                          refine D.va 22 rfl (by kernel_rfl) (fun _ _ _ h => h) rfl (fun w' hw => X.addw rfl rfl) hS ?_
                          refine D.va 23 rfl (by kernel_rfl) (fun _ _ _ h => h) rfl (fun w' hw => X.index1e (j := lo + m - 1 - i) rfl rfl (by omega) Try.underlying67 sz_96 (Option.some_ne_none _) (by omega)) hS ?_
                          have ho7 := ho6.ext hS
                          have k71 := k61.ext hS
                          have k72 := k62.ext hS
                          refine D.one 24 (by kernel_rfl) rfl ?_
                          refine L.storeON rfl rfl (by conv => lhs; whnf) sz_96 (ho7) (by omega) ?_
                          intro w8 ho8 hg8 hb8 hs8
                          refine L.nil ?_
                          refine ⟨fun h => absurd rfl h, ?_⟩
                          have ev : IntKind.u32.wrap (IntKind.u32.wrap (pw b i k * 256) + b.getD (3 + 4 * i + k) 0) = pw b i (k + 1) := by
                            rw [w32 (m := pw b i k * 256) (by omega), w32 (by omega)]
                            rfl
                          rw [List.set_set, ev] at ho8
                          have k81 := k71.grown hg8 (fun e => own_blk_ne ho7 k71 (by decide) e.symm)
                          have k82 := k72.grown hg8 (fun e => own_blk_ne ho7 k72 (by decide) e.symm)
                          refine D.done (by kernel_rfl) ?_
                          replace hr6 := hr6.ext hS
                          replace ho6 := ho6.ext hS
                          refine J.region ?_
                          refine L.va rfl (X.move (by conv => lhs; whnf)) ?_
                          refine L.va rfl (X.add rfl rfl (by omega)) ?_
                          refine L.va rfl (X.assign (by conv => lhs; whnf)) ?_
                          refine L.nil ?_
                          refine ⟨k + 1, At1 (by first | rfl | exact at_int rfl (by omega) | exact at_slice rfl (by omega) | exact at_int rfl (by simp)), (by (iterate 39 refine Agr.lk rfl ?_); exact Agr.lk rfl (Agr.hav rfl Agr.rfl')), ?_⟩
                          exact ⟨⟨by omega, by omega, ho8, k81, k82, (he6.trans hS).grw hg8 (fun g hg => (ho7.lt g hg).1)⟩, by omega⟩
                      · obtain rfl : k = 4 := by omega
                        refine J.exit ?_
                        refine ⟨(), At0 , (by (iterate 2 refine Agr.lk rfl ?_); refine Agr.lk rfl ?_; refine Agr.hav rfl ?_; (iterate 1 refine Agr.lk rfl ?_); exact Agr.rfl'), ?_⟩
                        refine ⟨by omega, ?_, k61, k62, he6⟩
                        rw [← mg_set b (show i < lo + m by omega)]
                        exact ho6
                  · rintro ⟨⟩ g w6 ⟨hl6, ho6, k61, k62, he6⟩
                    have z6 := he6.le
                    have v0 := mg_put b (show i + 1 ≤ lo + m by omega) (j := lo + m - 1 - i) (by omega) (by omega)
                    rw [show lo + m - 1 - (lo + m - 1 - i) = i by omega] at v0
                    have g6 : (i = 0 ∨ i + 1 = m) ∧ wd b i = 0 → readE b = 6 := fun h => bad 6 (by decide) him (by unfold stepE; rw [if_neg (by omega), if_pos h])
                    have ok : ¬ ((i = 0 ∨ i + 1 = m) ∧ wd b i = 0) → ∀ j, j < i + 1 → stepE b m j = 0 := fun h j hj => by
                      rcases Nat.lt_or_ge j i with k | k
                      · exact hs j k
                      · obtain rfl : j = i := by omega
                        unfold stepE
                        rw [if_neg (by omega), if_neg h]
                    have hld : Ld w6 (pA (some ⟨b4, 0, none⟩) (lo + m - 1 - i)) (.int .u32 (wd b i)) := by
                      have := Ld.own ho6 (j := lo + m - 1 - i) (by omega)
                      rwa [v0] at this
                    refine J.seq ?_
                    refine J.region ?_
                    refine L.va rfl (X.move (by conv => lhs; whnf)) ?_
                    refine L.va rfl (X.eql rfl rfl) ?_
                    refine L.va rfl (X.move (by conv => lhs; whnf)) ?_
                    refine L.caseDec (k := 144) rfl (fun h6 => ?_) (fun h6 => ?_)
                    · refine L.no rfl ?_
                      refine L.no rfl ?_
                      refine L.no rfl ?_
                      refine L.no rfl ?_
                      refine L.va rfl (X.pickT rfl (by conv => lhs; whnf)) ?_
                      refine L.va rfl (X.move (by conv => lhs; whnf)) ?_
                      refine L.va rfl (X.move (by conv => lhs; whnf)) ?_
                      refine L.va rfl (X.move (by conv => lhs; whnf)) ?_
                      refine L.va rfl (X.move (by conv => lhs; whnf)) ?_
                      refine L.va rfl (X.add rfl rfl (by omega)) ?_
                      refine L.va rfl (X.sub rfl rfl (by omega)) ?_
                      refine L.va rfl (X.move (by conv => lhs; whnf)) ?_
                      refine L.va rfl (X.sub rfl rfl (by omega)) ?_
                      refine L.va rfl (X.index1e (j := lo + m - 1 - i) rfl rfl (by omega) Try.underlying67 sz_96 (Option.some_ne_none _) (by omega)) ?_
                      refine L.va rfl (X.load rfl sc_96 hld) ?_
                      refine L.va rfl (X.eql rfl rfl) ?_
                      refine L.va rfl (X.pickT rfl (by conv => lhs; whnf)) ?_
                      refine L.nil ?_
                      refine J.dec rfl (fun h9 => ?_) (fun h9 => ?_)
                      · skip
                        refine J.seq ?_
                        refine J.region ?_
                        refine L.va rfl ((by first | exact X.loadAgg rfl (range_l k62) Try.underlying85 rfl (by kernel_rfl) | exact X.loadAgg rfl (range_blk k62) Try.underlying85 rfl (by kernel_rfl))) ?_
                        refine L.storeAgg (vs := [_, _, _, _, _, _, _]) rfl rfl rfl rfl sz_85 (k61) rfl ?_
                        intro we hke hge hse
                        have hee : Ext w we := he6.grw hge (by intro g hg; injection hg with hg; omega)
                        refine L.va rfl (X.assign (by conv => lhs; whnf)) ?_
                        refine L.nil ?_
                        refine J.ret ?_
                        refine inB_ret <|  thn_ret <|  thn_ret <|  inB_ret <|  thn_ret <| ?_
                        refine finCT rfl (run_cell hke Try.underlying85 rfl (by kernel_rfl)) ?_
                        exact RefR.bad (g6 ⟨.inl (by omega), h9⟩) (by decide) rfl hee
                      · skip
                        refine J.skip ?_
                        refine J.region ?_
                        refine L.va rfl (X.move (by conv => lhs; whnf)) ?_
                        refine L.va rfl (X.add rfl rfl (by omega)) ?_
                        refine L.va rfl (X.assign (by conv => lhs; whnf)) ?_
                        refine L.nil ?_
                        refine ⟨i + 1, At1 (by first | rfl | exact at_int rfl (by omega) | exact at_slice rfl (by omega) | exact at_int rfl (by simp)), (by (iterate 24 refine Agr.lk rfl ?_); refine Agr.lk rfl ?_; refine Agr.hav rfl ?_; (iterate 3 refine Agr.lk rfl ?_); exact Agr.lk rfl (Agr.hav rfl Agr.rfl')), ?_⟩
                        exact ⟨⟨by omega, ok (fun h => h9 h.2), ho6, k61, k62, he6⟩, by omega⟩
                    · refine L.va rfl (X.move (by conv => lhs; whnf)) ?_
                      refine L.va rfl (X.move (by conv => lhs; whnf)) ?_
                      refine L.va rfl (X.sub rfl rfl (by omega)) ?_
                      refine L.va rfl (X.eql rfl rfl) ?_
                      refine L.va rfl (X.pickF rfl (by conv => lhs; whnf)) ?_
                      refine L.va rfl (X.move (by conv => lhs; whnf)) ?_
                      refine L.caseDec (k := 150) rfl (fun h8 => ?_) (fun h8 => ?_)
                      · refine L.va rfl (X.move (by conv => lhs; whnf)) ?_
                        refine L.va rfl (X.move (by conv => lhs; whnf)) ?_
                        refine L.va rfl (X.move (by conv => lhs; whnf)) ?_
                        refine L.va rfl (X.add rfl rfl (by omega)) ?_
                        refine L.va rfl (X.sub rfl rfl (by omega)) ?_
                        refine L.va rfl (X.move (by conv => lhs; whnf)) ?_
                        refine L.va rfl (X.sub rfl rfl (by omega)) ?_
                        refine L.va rfl (X.index1e (j := lo + m - 1 - i) rfl rfl (by omega) Try.underlying67 sz_96 (Option.some_ne_none _) (by omega)) ?_
                        refine L.va rfl (X.load rfl sc_96 hld) ?_
                        refine L.va rfl (X.eql rfl rfl) ?_
                        refine L.va rfl (X.pickT rfl (by conv => lhs; whnf)) ?_
                        refine L.nil ?_
                        refine J.dec rfl (fun h9 => ?_) (fun h9 => ?_)
                        · skip
                          refine J.seq ?_
                          refine J.region ?_
                          refine L.va rfl ((by first | exact X.loadAgg rfl (range_l k62) Try.underlying85 rfl (by kernel_rfl) | exact X.loadAgg rfl (range_blk k62) Try.underlying85 rfl (by kernel_rfl))) ?_
                          refine L.storeAgg (vs := [_, _, _, _, _, _, _]) rfl rfl rfl rfl sz_85 (k61) rfl ?_
                          intro we hke hge hse
                          have hee : Ext w we := he6.grw hge (by intro g hg; injection hg with hg; omega)
                          refine L.va rfl (X.assign (by conv => lhs; whnf)) ?_
                          refine L.nil ?_
                          refine J.ret ?_
                          refine inB_ret <|  thn_ret <|  thn_ret <|  inB_ret <|  thn_ret <| ?_
                          refine finCT rfl (run_cell hke Try.underlying85 rfl (by kernel_rfl)) ?_
                          exact RefR.bad (g6 ⟨.inr (by omega), h9⟩) (by decide) rfl hee
                        · skip
                          refine J.skip ?_
                          refine J.region ?_
                          refine L.va rfl (X.move (by conv => lhs; whnf)) ?_
                          refine L.va rfl (X.add rfl rfl (by omega)) ?_
                          refine L.va rfl (X.assign (by conv => lhs; whnf)) ?_
                          refine L.nil ?_
                          refine ⟨i + 1, At1 (by first | rfl | exact at_int rfl (by omega) | exact at_slice rfl (by omega) | exact at_int rfl (by simp)), (by (iterate 25 refine Agr.lk rfl ?_); refine Agr.lk rfl ?_; refine Agr.hav rfl ?_; (iterate 3 refine Agr.lk rfl ?_); exact Agr.lk rfl (Agr.hav rfl Agr.rfl')), ?_⟩
                          exact ⟨⟨by omega, ok (fun h => h9 h.2), ho6, k61, k62, he6⟩, by omega⟩
                      · refine L.no rfl ?_
                        refine L.no rfl ?_
                        refine L.no rfl ?_
                        refine L.no rfl ?_
                        refine L.no rfl ?_
                        refine L.no rfl ?_
                        refine L.no rfl ?_
                        refine L.no rfl ?_
                        refine L.no rfl ?_
                        refine L.no rfl ?_
                        refine L.va rfl (X.pickF rfl (by conv => lhs; whnf)) ?_
                        refine L.nil ?_
                        refine J.iteF rfl ?_
                        refine J.skip ?_
                        refine J.region ?_
                        refine L.va rfl (X.move (by conv => lhs; whnf)) ?_
                        refine L.va rfl (X.add rfl rfl (by omega)) ?_
                        refine L.va rfl (X.assign (by conv => lhs; whnf)) ?_
                        refine L.nil ?_
                        refine ⟨i + 1, At1 (by first | rfl | exact at_int rfl (by omega) | exact at_slice rfl (by omega) | exact at_int rfl (by simp)), (by (iterate 25 refine Agr.lk rfl ?_); refine Agr.lk rfl ?_; refine Agr.hav rfl ?_; (iterate 3 refine Agr.lk rfl ?_); exact Agr.lk rfl (Agr.hav rfl Agr.rfl')), ?_⟩
                        exact ⟨⟨by omega, ok (fun h => by omega), ho6, k61, k62, he6⟩, by omega⟩
                · obtain rfl : i = m := by omega
                  have hw0 := wordsE_0 hs
                  refine J.exit ?_
                  refine J.seq ?_
                  refine J.seq ?_
                  refine J.region ?_
                  refine L.va rfl (X.move (by conv => lhs; whnf)) ?_
                  refine L.va rfl (X.len rfl Try.underlying37) ?_
                  refine L.va rfl (X.move (by conv => lhs; whnf)) ?_
                  refine L.va rfl (X.mul rfl rfl (by omega)) ?_
                  refine L.va rfl (X.add rfl rfl (by omega)) ?_
                  refine L.va rfl (X.gtr rfl rfl) ?_
                  refine L.nil ?_
                  refine J.dec rfl (fun h7 => ?_) (fun h7 => ?_)
                  · skip
                    refine J.seq ?_
                    refine J.region ?_
                    refine L.va rfl ((by first | exact X.loadAgg rfl (range_l k2) Try.underlying85 rfl (by kernel_rfl) | exact X.loadAgg rfl (range_blk k2) Try.underlying85 rfl (by kernel_rfl))) ?_
                    refine L.storeAgg (vs := [_, _, _, _, _, _, _]) rfl rfl rfl rfl sz_85 (k1) rfl ?_
                    intro we hke hge hse
                    have hee : Ext w we := he5.grw hge (by intro g hg; injection hg with hg; omega)
                    refine L.va rfl (X.assign (by conv => lhs; whnf)) ?_
                    refine L.nil ?_
                    refine J.ret ?_
                    refine thn_ret <| ?_
                    refine finCT rfl (run_cell hke Try.underlying85 rfl (by kernel_rfl)) ?_
                    exact RefR.bad (readE_m H0 h3 em hw0 (by omega)) (by decide) rfl hee
                  · have h8 := readE_0 H0 h3 em hw0 (by omega)
                    have eM : magOf b = mg b (lo + i) i := by unfold magOf; rw [elo, em]; rfl
                    have mB := mg_b hb (lo + i) i
                    have c6 := rnum (some ⟨b4, 0, none⟩) (lo + i) (lo + i) (mg b (lo + i) i) w5 (N := w5.heap.size) (Nat.le_refl _) (Reads.of_own ho5) (mg_len b (by omega)) mB (by omega)
                    refine J.skip ?_
                    refine J.seq ?_
                    refine J.region ?_
                    refine L.va rfl (X.move (by conv => lhs; whnf)) ?_
                    refine L.va rfl (X.rem rfl rfl (by omega)) ?_
                    refine L.va rfl (X.eql rfl rfl) ?_
                    refine L.va rfl (X.move (by conv => lhs; whnf)) ?_
                    refine L.va rfl (X.quo rfl rfl (by omega)) ?_
                    refine L.va rfl (X.rem rfl rfl (by omega)) ?_
                    refine L.va rfl (X.eql rfl rfl) ?_
                    refine L.va rfl (X.move (by conv => lhs; whnf)) ?_
                    refine L.va rfl (X.quo rfl rfl (by omega)) ?_
                    refine L.va rfl (X.rem rfl rfl (by omega)) ?_
                    refine L.va rfl (X.eql rfl rfl) ?_
                    refine L.va rfl (X.move (by conv => lhs; whnf)) ?_
                    refine L.va rfl (X.quo rfl rfl (by omega)) ?_
                    refine L.va rfl (X.rem rfl rfl (by omega)) ?_
                    refine L.va rfl (X.eql rfl rfl) ?_
                    refine L.va rfl (X.move (by conv => lhs; whnf)) ?_
                    refine L.va rfl (X.move (by conv => lhs; whnf)) ?_
                    refine L.call rfl en_37 rfl (c6) ?_
                    rintro e w6 ⟨u, rfl, huA, hug, huv, hun, huO, he6⟩
                    refine ⟨_, rfl, ?_⟩
                    have he6 : Ext w5 w6 := he6
                    have he06 := he5.trans he6
                    have z6 := he06.le
                    have k61 := k1.ext he6
                    have k62 := k2.ext he6
                    refine L.va rfl (sum05 (by conv => lhs; whnf) (by conv => lhs; whnf) (by conv => lhs; whnf) (by conv => lhs; whnf) (by conv => lhs; whnf) (by conv => lhs; whnf)) ?_
                    refine L.storeAgg (vs := [_, _, _, _, _, _, _]) rfl rfl rfl rfl sz_85 (k62) rfl ?_
                    intro w7 k72 hg7 hs7
                    have k71 := k61.grown hg7 (fun e => by injection e with e; omega)
                    have he7 : Ext w w7 := he06.grw hg7 (by intro g hg; injection hg with hg; omega)
                    have z7 := he7.le
                    have uO : u.Own w5.heap.size w7 := huO.kept hg7 (.inr (own_blk_ne huO k62 (by decide)))
                    have uA : u.At w7.heap.size w7 := ⟨Reads.of_own uO, huA.dg, huA.cn, huA.sg, huA.cp, huA.sm⟩
                    have uM : dv u.d = nv (magOf b) := by rw [huv, eM]
                    have b32 : (decide (b.getD 0 0 / 32 = 1)) = decide (b.getD 0 0 / 32 = 1) := rfl
                    refine L.nil ?_
                    refine J.seq ?_
                    refine J.seq ?_
                    refine J.region ?_
                    refine L.va rfl (X.move (by conv => lhs; whnf)) ?_
                    refine L.nil ?_
                    refine J.dec rfl (fun hneg => ?_) (fun hneg => ?_)
                    · have hneg : b.getD 0 0 / 32 = 1 := by simpa using hneg
                      obtain ⟨fl, hfl⟩ : ∃ fl : List Value, fl = [.bool (decide (b.getD 0 0 % 2 = 1)), .bool (decide (b.getD 0 0 / 2 % 2 = 1)), .bool (decide (b.getD 0 0 / 4 % 2 = 1)), .bool (decide (b.getD 0 0 / 8 % 2 = 1)), .bool (decide (b.getD 0 0 / 16 % 2 = 1))] := ⟨_, rfl⟩
                      have k72' : Blk w7 p2 85 (fl ++ u.vs ++ []).toArray := by
                        rw [hfl]
                        exact k72
                      have r5 : w7.rangeAt p2 5 u.vs := by
                        have := range_mid k72'
                        rw [hfl] at this
                        exact this
                      have c8 := rneg (x := u) (w := w7) (Nat.le_refl _) uA
                      refine J.region ?_
                      refine L.va rfl (X.fieldAddr rfl Try.underlying85 rfl sz_80 (by decide)) ?_
                      refine L.va rfl (X.loadAgg rfl r5 Try.underlying80 rfl (by kernel_rfl)) ?_
                      refine L.call rfl en_67 rfl (c8) ?_
                      rintro e w8 ⟨rfl, tA, he8⟩
                      refine ⟨_, rfl, ?_⟩
                      have he8 : Ext w7 w8 := he8
                      have k81 := k71.ext he8
                      have k82 := k72.ext he8
                      have uO8 := uO.ext he8
                      refine L.va rfl (X.fieldAddr rfl Try.underlying85 rfl sz_80 (by decide)) ?_
                      refine L.storeC (vs := [.bool (!u.g && decide (0 < u.n)), .slice u.A u.n u.c]) rfl rfl rfl rfl rfl sz_80 k82 (Nat.le_of_ble_eq_true rfl) ?_
                      intro w9 k92 hg9 hs9
                      have k91 := k81.grown hg9 (fun e => by injection e with e; omega)
                      have he9 : Ext w w9 := (he7.trans he8).grw hg9 (by intro g hg; injection hg with hg; omega)
                      have uO9 : u.Own w5.heap.size w9 := uO8.kept hg9 (.inr (own_blk_ne uO8 k82 (by decide)))
                      have k92 : Blk w9 p2 85 #[.bool (decide (b.getD 0 0 % 2 = 1)), .bool (decide (b.getD 0 0 / 2 % 2 = 1)), .bool (decide (b.getD 0 0 / 4 % 2 = 1)), .bool (decide (b.getD 0 0 / 8 % 2 = 1)), .bool (decide (b.getD 0 0 / 16 % 2 = 1)), .bool (!u.g && decide (0 < u.n)), .slice u.A u.n u.c] := k92
                      refine L.nil ?_
                      refine J.seq ?_
                      refine J.region ?_
                      refine L.va rfl ((by first | exact X.loadAgg rfl (range_l k92) Try.underlying85 rfl (by kernel_rfl) | exact X.loadAgg rfl (range_blk k92) Try.underlying85 rfl (by kernel_rfl))) ?_
                      refine L.storeAgg (vs := [_, _, _, _, _, _, _]) rfl rfl rfl rfl sz_85 (k91) rfl ?_
                      intro w10 k101 hg10 hs10
                      have he10 : Ext w w10 := he9.grw hg10 (by intro g hg; injection hg with hg; omega)
                      have uO10 : u.Own w5.heap.size w10 := uO9.kept hg10 (.inr (own_blk_ne uO9 k91 (by decide)))
                      refine L.va rfl (X.assign (by conv => lhs; whnf)) ?_
                      refine L.nil ?_
                      refine J.ret ?_
                      refine finCT rfl (run_cell k101 Try.underlying85 rfl (by kernel_rfl)) ?_
                      refine ⟨_, by rw [h8]; rfl, he10, ⟨_, rfl, rfl, rfl⟩, fun _ => ⟨Nu.mk (!u.g && decide (0 < u.n)) u.A u.n u.c u.d, rfl, ⟨Reads.of_own uO10, tA.dg, tA.cn, tA.sg, tA.cp, tA.sm⟩, ?_, uM, by show u.n ≤ 1000; omega⟩⟩
                      show (!u.g && decide (0 < u.n)) = (decide (b.getD 0 0 / 32 = 1) && decide (0 < u.n))
                      rw [hug, decide_eq_true hneg]
                      rfl
                    · have hneg : ¬ b.getD 0 0 / 32 = 1 := by simpa using hneg
                      refine J.skip ?_
                      refine J.seq ?_
                      refine J.region ?_
                      refine L.va rfl ((by first | exact X.loadAgg rfl (range_l k72) Try.underlying85 rfl (by kernel_rfl) | exact X.loadAgg rfl (range_blk k72) Try.underlying85 rfl (by kernel_rfl))) ?_
                      refine L.storeAgg (vs := [_, _, _, _, _, _, _]) rfl rfl rfl rfl sz_85 (k71) rfl ?_
                      intro w8 k81 hg8 hs8
                      have he8 : Ext w w8 := he7.grw hg8 (by intro g hg; injection hg with hg; omega)
                      have uO8 : u.Own w5.heap.size w8 := uO.kept hg8 (.inr (own_blk_ne uO k71 (by decide)))
                      refine L.va rfl (X.assign (by conv => lhs; whnf)) ?_
                      refine L.nil ?_
                      refine J.ret ?_
                      refine finCT rfl (run_cell k81 Try.underlying85 rfl (by kernel_rfl)) ?_
                      refine ⟨_, by rw [h8]; rfl, he8, ⟨_, rfl, rfl, rfl⟩, fun _ => ⟨u, rfl, ⟨Reads.of_own uO8, huA.dg, huA.cn, huA.sg, huA.cp, huA.sm⟩, ?_, uM, by omega⟩⟩
                      rw [hug, decide_eq_false hneg]
                      rfl
end Go.Proofs.Ytnndkepnabddgaa
namespace Go.Proofs.Ytnndkepnabddgaa
set_option maxRecDepth 100000
open Go.RowKit H
open Flo
set_option linter.unusedVariables false
theorem rg_inf {x : Nat} (h : ¬ nanF x) : rg x ≤ inf := by
  unfold nanF at h
  omega
theorem key_nan {x y : Nat} (h : nanF x ∨ nanF y) : decide (keyF x < keyF y) = !decide (kindF x = 3) := by
  by_cases hx : nanF x
  · rw [decide_eq_true ((kind3 x).2 hx), decide_eq_false]
    · rfl
    · have := (keyF_bd y).2
      unfold keyF at *
      rw [if_pos hx]
      omega
  · have hy : nanF y := h.resolve_left hx
    rw [decide_eq_false (fun k => hx ((kind3 x).1 k)), decide_eq_true]
    · rfl
    · have := rg_inf hx
      unfold keyF
      rw [if_neg hx, if_pos hy]
      unfold inf at this
      split <;> omega
theorem key_num {x y : Nat} (hx : ¬ nanF x) (hy : ¬ nanF y) : keyF x < keyF y ↔ ltF x y ∨ (eqF x y ∧ belowF x = true ∧ belowF y = false) := by
  unfold keyF ltF eqF belowF od
  rw [if_neg hx, if_neg hy]
  simp only [hx, hy, not_false_eq_true, true_and, decide_true, Bool.true_and]
  cases sg x <;> cases sg y <;> simp <;> omega
theorem rless03 (x y : Nat) (w : World) (hx : x < 18446744073709551616) (hy : y < 18446744073709551616) : Calls Try.prog 71 #[.float .f64 x, .float .f64 y] w fun e w' => e = .returned (.bool (decide (keyF x < keyF y))) ∧ Ext w w' := by
  have c1 := kind03 x w
  refine enter Try.func71 rfl (by kernel_rfl) ?_
  refine J.seq ?_
  refine J.region ?_
  refine L.va rfl (X.assign (by conv => lhs; whnf)) ?_
  refine L.nil ?_
  refine J.seq ?_
  refine J.seq ?_
  refine J.region ?_
  refine L.va rfl (X.move (by conv => lhs; whnf)) ?_
  refine L.call rfl en_72 rfl (c1) ?_
  rintro e w1 ⟨rfl, he1⟩
  refine ⟨_, rfl, ?_⟩
  have he1 : Ext w w1 := he1
  have c2 := kind03 y w1
  refine L.va rfl (X.eql rfl rfl) ?_
  refine L.va rfl (X.move (by conv => lhs; whnf)) ?_
  refine L.caseDec (k := 8) rfl (fun h1 => ?_) (fun h1 => ?_)
  · have hnx : nanF x := (kind3 x).1 h1
    have c3 := kind03 x w1
    refine L.no rfl ?_
    refine L.no rfl ?_
    refine L.no rfl ?_
    refine L.va rfl (X.pickT rfl (by conv => lhs; whnf)) ?_
    refine L.nil ?_
    refine J.iteT rfl ?_
    refine J.seq ?_
    refine J.region ?_
    refine L.va rfl (X.move (by conv => lhs; whnf)) ?_
    refine L.call rfl en_72 rfl (c3) ?_
    rintro e w2 ⟨rfl, he2⟩
    refine ⟨_, rfl, ?_⟩
    refine L.va rfl (X.neq rfl rfl) ?_
    refine L.va rfl (X.assign (by conv => lhs; whnf)) ?_
    refine L.nil ?_
    refine J.ret ?_
    refine thn_ret <| ?_
    refine fin1 ?_
    exact ⟨by rw [key_nan (.inl hnx)]; rfl, he1.trans he2⟩
  · have hnx : ¬ nanF x := fun h => h1 ((kind3 x).2 h)
    refine L.va rfl (X.move (by conv => lhs; whnf)) ?_
    refine L.call rfl en_72 rfl (c2) ?_
    rintro e w2 ⟨rfl, he2⟩
    refine ⟨_, rfl, ?_⟩
    have he2 : Ext w1 w2 := he2
    have he02 := he1.trans he2
    refine L.va rfl (X.eql rfl rfl) ?_
    refine L.va rfl (X.pickF rfl (by conv => lhs; whnf)) ?_
    refine L.nil ?_
    refine J.dec rfl (fun h2 => ?_) (fun h2 => ?_)
    · have hny : nanF y := (kind3 y).1 h2
      have c3 := kind03 x w2
      refine J.seq ?_
      refine J.region ?_
      refine L.va rfl (X.move (by conv => lhs; whnf)) ?_
      refine L.call rfl en_72 rfl (c3) ?_
      rintro e w3 ⟨rfl, he3⟩
      refine ⟨_, rfl, ?_⟩
      refine L.va rfl (X.neq rfl rfl) ?_
      refine L.va rfl (X.assign (by conv => lhs; whnf)) ?_
      refine L.nil ?_
      refine J.ret ?_
      refine thn_ret <| ?_
      refine fin1 ?_
      exact ⟨by rw [key_nan (.inr hny)]; rfl, he02.trans he3⟩
    · have hny : ¬ nanF y := fun h => h2 ((kind3 y).2 h)
      have hk := key_num hnx hny
      have c3 := below03 x w2 hx
      have c4 := below03 y w2 hy
      refine J.skip ?_
      refine J.seq ?_
      refine J.region ?_
      refine L.va rfl (X.move (by conv => lhs; whnf)) ?_
      refine L.va rfl (X.move (by conv => lhs; whnf)) ?_
      refine L.va rfl (X.lssF rfl rfl) ?_
      refine L.va rfl (X.move (by conv => lhs; whnf)) ?_
      refine L.caseDec (k := 19) rfl (fun h3 => ?_) (fun h3 => ?_)
      · refine L.no rfl ?_
        refine L.no rfl ?_
        refine L.no rfl ?_
        refine L.no rfl ?_
        refine L.no rfl ?_
        refine L.no rfl ?_
        refine L.no rfl ?_
        refine L.no rfl ?_
        refine L.no rfl ?_
        refine L.no rfl ?_
        refine L.no rfl ?_
        refine L.no rfl ?_
        refine L.va rfl (X.pickT rfl (by conv => lhs; whnf)) ?_
        refine L.va rfl (X.assign (by conv => lhs; whnf)) ?_
        refine L.nil ?_
        refine J.ret ?_
        refine fin1 ?_
        exact ⟨by rw [decide_eq_true (hk.2 (.inl h3))]; rfl, he02⟩
      · refine L.va rfl (X.move (by conv => lhs; whnf)) ?_
        refine L.va rfl (X.move (by conv => lhs; whnf)) ?_
        refine L.va rfl (X.eqlF rfl rfl) ?_
        refine L.va rfl (X.move (by conv => lhs; whnf)) ?_
        refine L.caseDec (k := 23) rfl (fun h4 => ?_) (fun h4 => ?_)
        · refine L.va rfl (X.move (by conv => lhs; whnf)) ?_
          refine L.call rfl en_73 rfl (c3) ?_
          rintro e _ ⟨rfl, rfl⟩
          refine ⟨_, rfl, ?_⟩
          refine L.va rfl (X.pickT rfl (by conv => lhs; whnf)) ?_
          refine L.va rfl (X.move (by conv => lhs; whnf)) ?_
          cases hb : belowF x
          · refine L.caseBF (k := 27) rfl (by rfl) ?_
            refine L.no rfl ?_
            refine L.no rfl ?_
            refine L.no rfl ?_
            refine L.va rfl (X.pickF rfl (by conv => lhs; whnf)) ?_
            refine L.va rfl (X.pickF rfl (by conv => lhs; whnf)) ?_
            refine L.va rfl (X.assign (by conv => lhs; whnf)) ?_
            refine L.nil ?_
            refine J.ret ?_
            refine fin1 ?_
            refine ⟨?_, he02⟩
            have e : decide (keyF x < keyF y) = false := decide_eq_false (fun h => by
              rcases hk.1 h with h | ⟨_, h, _⟩
              · exact h3 h
              · rw [hb] at h; cases h)
            rw [e]
            rfl
          · refine L.caseBT (k := 27) rfl (by rfl) ?_
            refine L.va rfl (X.move (by conv => lhs; whnf)) ?_
            refine L.call rfl en_73 rfl (c4) ?_
            rintro e _ ⟨rfl, rfl⟩
            refine ⟨_, rfl, ?_⟩
            refine L.va rfl (X.not rfl) ?_
            refine L.va rfl (X.pickT rfl (by conv => lhs; whnf)) ?_
            refine L.va rfl (X.pickF rfl (by conv => lhs; whnf)) ?_
            refine L.va rfl (X.assign (by conv => lhs; whnf)) ?_
            refine L.nil ?_
            refine J.ret ?_
            refine fin1 ?_
            refine ⟨?_, he02⟩
            cases hb2 : belowF y
            · rw [decide_eq_true (hk.2 (.inr ⟨h4, hb, hb2⟩))]
              rfl
            · have e : decide (keyF x < keyF y) = false := decide_eq_false (fun h => by
                rcases hk.1 h with h | ⟨_, _, h⟩
                · exact h3 h
                · rw [hb2] at h; cases h)
              rw [e]
              rfl
        · refine L.no rfl ?_
          refine L.no rfl ?_
          refine L.va rfl (X.pickF rfl (by conv => lhs; whnf)) ?_
          refine L.va rfl (X.move (by conv => lhs; whnf)) ?_
          refine L.no rfl ?_
          refine L.no rfl ?_
          refine L.no rfl ?_
          refine L.va rfl (X.pickF rfl (by conv => lhs; whnf)) ?_
          refine L.va rfl (X.pickF rfl (by conv => lhs; whnf)) ?_
          refine L.va rfl (X.assign (by conv => lhs; whnf)) ?_
          refine L.nil ?_
          refine J.ret ?_
          refine fin1 ?_
          refine ⟨?_, he02⟩
          have e : decide (keyF x < keyF y) = false := decide_eq_false (fun h => by
            rcases hk.1 h with h | ⟨h, _⟩
            · exact h3 h
            · exact h4 h)
          rw [e]
          rfl
end Go.Proofs.Ytnndkepnabddgaa
namespace Go.Proofs.Ytnndkepnabddgaa
set_option maxRecDepth 100000
open Go.RowKit H
open Num Flo
set_option linter.unusedVariables false
theorem rleast03 (x y : Nat) (w : World) (hx : x < 18446744073709551616) (hy : y < 18446744073709551616) : Calls Try.prog 42 #[.float .f64 x, .float .f64 y] w fun e w' => e = .returned (.float .f64 (leastF x y)) ∧ Ext w w' := by
  have c1 := rless03 y x w hy hx
  refine enter Try.func42 rfl (by kernel_rfl) ?_
  refine J.seq ?_
  refine J.region ?_
  refine L.va rfl (X.assign (by conv => lhs; whnf)) ?_
  refine L.nil ?_
  refine J.seq ?_
  refine J.seq ?_
  refine J.region ?_
  refine L.va rfl (X.move (by conv => lhs; whnf)) ?_
  refine L.va rfl (X.move (by conv => lhs; whnf)) ?_
  refine L.call rfl en_71 rfl (c1) ?_
  rintro e w1 ⟨rfl, he1⟩
  refine ⟨_, rfl, ?_⟩
  refine L.nil ?_
  unfold leastF
  refine J.ite rfl (fun h => ?_) (fun h => ?_)
  · rw [if_pos (by simpa using h)]
    refine J.seq ?_
    refine J.region ?_
    refine L.va rfl (X.move (by conv => lhs; whnf)) ?_
    refine L.va rfl (X.assign (by conv => lhs; whnf)) ?_
    refine L.nil ?_
    refine J.ret ?_
    refine thn_ret <| ?_
    refine fin1 ?_
    exact ⟨rfl, he1⟩
  · rw [if_neg (by simpa using h)]
    refine J.skip ?_
    refine J.seq ?_
    refine J.region ?_
    refine L.va rfl (X.move (by conv => lhs; whnf)) ?_
    refine L.va rfl (X.assign (by conv => lhs; whnf)) ?_
    refine L.nil ?_
    refine J.ret ?_
    refine fin1 ?_
    exact ⟨rfl, he1⟩
theorem rmost03 (x y : Nat) (w : World) (hx : x < 18446744073709551616) (hy : y < 18446744073709551616) : Calls Try.prog 43 #[.float .f64 x, .float .f64 y] w fun e w' => e = .returned (.float .f64 (mostF x y)) ∧ Ext w w' := by
  have c1 := rless03 x y w hx hy
  refine enter Try.func43 rfl (by kernel_rfl) ?_
  refine J.seq ?_
  refine J.region ?_
  refine L.va rfl (X.assign (by conv => lhs; whnf)) ?_
  refine L.nil ?_
  refine J.seq ?_
  refine J.seq ?_
  refine J.region ?_
  refine L.va rfl (X.move (by conv => lhs; whnf)) ?_
  refine L.va rfl (X.move (by conv => lhs; whnf)) ?_
  refine L.call rfl en_71 rfl (c1) ?_
  rintro e w1 ⟨rfl, he1⟩
  refine ⟨_, rfl, ?_⟩
  refine L.nil ?_
  unfold mostF
  refine J.ite rfl (fun h => ?_) (fun h => ?_)
  · rw [if_pos (by simpa using h)]
    refine J.seq ?_
    refine J.region ?_
    refine L.va rfl (X.move (by conv => lhs; whnf)) ?_
    refine L.va rfl (X.assign (by conv => lhs; whnf)) ?_
    refine L.nil ?_
    refine J.ret ?_
    refine thn_ret <| ?_
    refine fin1 ?_
    exact ⟨rfl, he1⟩
  · rw [if_neg (by simpa using h)]
    refine J.skip ?_
    refine J.seq ?_
    refine J.region ?_
    refine L.va rfl (X.move (by conv => lhs; whnf)) ?_
    refine L.va rfl (X.assign (by conv => lhs; whnf)) ?_
    refine L.nil ?_
    refine J.ret ?_
    refine fin1 ?_
    exact ⟨rfl, he1⟩
def fb (p : Bool) (n : Int) : Int := if p then n else 0
theorem rflag (p : Bool) (n : Int) (w : World) : Calls Try.prog 70 #[.bool p, .int .i64 n] w fun e w' => e = .returned (.int .i64 (fb p n)) ∧ w = w' := by
  refine enter Try.func70 rfl (by kernel_rfl) ?_
  refine J.seq ?_
  refine J.region ?_
  refine L.va rfl (X.assign (by conv => lhs; whnf)) ?_
  refine L.nil ?_
  refine J.seq ?_
  refine J.seq ?_
  refine J.region ?_
  refine L.va rfl (X.move (by conv => lhs; whnf)) ?_
  refine L.nil ?_
  cases p
  · refine J.iteF rfl ?_
    refine J.skip ?_
    refine J.seq ?_
    refine J.region ?_
    refine L.va rfl (X.assign (by conv => lhs; whnf)) ?_
    refine L.nil ?_
    refine J.ret ?_
    refine fin1 ?_
    exact ⟨rfl, rfl⟩
  · refine J.iteT rfl ?_
    refine J.seq ?_
    refine J.region ?_
    refine L.va rfl (X.move (by conv => lhs; whnf)) ?_
    refine L.va rfl (X.assign (by conv => lhs; whnf)) ?_
    refine L.nil ?_
    refine J.ret ?_
    refine thn_ret <| ?_
    refine fin1 ?_
    exact ⟨rfl, rfl⟩
abbrev sV (p0 p1 p2 p3 p4 : Bool) (t : Nu) : List Value := [.bool p0, .bool p1, .bool p2, .bool p3, .bool p4, .bool t.g, .slice t.A t.n t.c]
abbrev Nu.ab (t : Nu) : Nu := ⟨false, t.A, t.n, t.c, t.d⟩
theorem Nu.At.ab {t : Nu} {N : Nat} {w : World} (h : t.At N w) : t.ab.At N w := ⟨h.r, h.dg, h.cn, (fun h => by cases h), h.cp, h.sm⟩
def JoinR (p0 p1 p2 p3 p4 : Bool) (t : Nu) (q0 q1 q2 q3 q4 : Bool) (u : Nu) (w : World) (e : Ending) (w' : World) : Prop :=
  Ext w w' ∧ ∃ (v : List Value) (z : Bool), e = .returned (.tuple #[.agg v.toArray, .bool z]) ∧ v.length = 7 ∧ (v.all (·.oneCell')) = true ∧ (z = true ↔ ((t.iv + u.iv).natAbs : Int) < 2 ^ rm) ∧ (z = true → ∃ r : Nu, v = sV (p0 || q0) (p1 || q1) (p2 || q2) (p3 || q3) (p4 || q4) r ∧ r.At w'.heap.size w' ∧ r.iv = t.iv + u.iv ∧ r.n ≤ max t.n u.n + 1)
theorem rjoin05 (p0 p1 p2 p3 p4 : Bool) (t : Nu) (q0 q1 q2 q3 q4 : Bool) (u : Nu) {w : World} {N : Nat} (hN : N ≤ w.heap.size) (ht : t.At N w) (hu : u.At N w) (hs : t.n ≤ 80000 ∧ u.n ≤ 80000) : Calls Try.prog 40 #[.agg (sV p0 p1 p2 p3 p4 t).toArray, .agg (sV q0 q1 q2 q3 q4 u).toArray] w (JoinR p0 p1 p2 p3 p4 t q0 q1 q2 q3 q4 u w) := by
  refine enter Try.func40 rfl (by kernel_rfl) ?_
  refine J.seq ?_
  refine J.region ?_
  refine L.boxA (l := [_, _, _, _, _, _, _]) rfl rfl ?_
  intro b1 w1 hb1 hs1 hk1 he1
  have hk1 : Blk w1 b1 85 (sV p0 p1 p2 p3 p4 t).toArray := hk1
  refine L.boxA (l := [_, _, _, _, _, _, _]) rfl rfl ?_
  intro b2 w2 hb2 hs2 hk2 he2
  have hk2 : Blk w2 b2 85 (sV q0 q1 q2 q3 q4 u).toArray := hk2
  refine L.alloc rfl zr_85 ?_
  intro b3 w3 hb3 hs3 hk3 he3
  have he03 := (he1.trans he2).trans he3
  have z3 := he03.le
  have hk1 := (hk1.ext he2).ext he3
  have hk2 := hk2.ext he3
  have r1 : w3.rangeAt b1 5 t.vs := range_mid (l1 := [.bool p0, .bool p1, .bool p2, .bool p3, .bool p4]) (l := t.vs) (l2 := []) hk1
  have r2 : w3.rangeAt b2 5 u.vs := range_mid (l1 := [.bool q0, .bool q1, .bool q2, .bool q3, .bool q4]) (l := u.vs) (l2 := []) hk2
  refine L.va rfl (X.assign (by conv => lhs; whnf)) ?_
  refine L.nil ?_
  refine J.seq ?_
  refine J.region ?_
  refine L.va rfl (X.fieldAddr rfl Try.underlying85 rfl sz_80 (by decide)) ?_
  refine L.va rfl (X.loadAgg rfl r1 Try.underlying80 rfl (by kernel_rfl)) ?_
  refine L.va rfl (X.fieldAddr rfl Try.underlying85 rfl sz_80 (by decide)) ?_
  refine L.va rfl (X.loadAgg rfl r2 Try.underlying80 rfl (by kernel_rfl)) ?_
  have c4 := raddS (x := t) (y := u) (w := w3) (N := N) (by omega) (ht.ext he03) (hu.ext he03) (by omega)
  refine L.call rfl en_36 rfl (c4) ?_
  rintro e w4 ⟨r, rfl, hrA, hrv, hrn, hrO, he4⟩
  refine ⟨_, rfl, ?_⟩
  have he4 : Ext w3 w4 := he4
  refine L.alloc rfl zr_80 ?_
  intro b5 w5 hb5 hs5 hk5 he5
  refine L.storeAgg (vs := [_, _]) rfl rfl rfl rfl sz_80 (hk5) rfl ?_
  intro w6 hk6 hg6 hs6
  have hk6 : Blk w6 b5 80 r.vs.toArray := hk6
  have he46 : Ext w4 w6 := he5.grw hg6 (by intro g hg; injection hg with hg; omega)
  have he36 := he4.trans he46
  have he06 := he03.trans he36
  have k1 := hk1.ext he36
  have k2 := hk2.ext he36
  have k3 := hk3.ext he36
  have hrA6 := (hrA.ext he46).more he46.le
  refine L.nil ?_
  refine J.seq ?_
  refine J.seq ?_
  refine J.draw (ℓ := 1000000) (S := Ext w6) mixed (fun w7 hS hS_h => ?_)
  have he07 := he06.trans hS
  refine D.va 0 rfl (by kernel_rfl) (fun _ _ _ h => h) rfl (fun w' hw => X.fieldAddr rfl Try.underlying80 rfl sz_35 (by decide)) hS ?_
  refine D.va 1 rfl (by kernel_rfl) (fun _ _ _ h => h) rfl (fun w' hw => X.load rfl sc_35 (by first | exact Ld.blk (k1.ext hw) rfl | exact Ld.blk (k2.ext hw) rfl | exact Ld.blk (hk6.ext hw) rfl)) hS ?_
  refine D.va 2 rfl (by kernel_rfl) (fun _ _ _ h => h) rfl (fun w' hw => X.build (l := [.bool false, .slice r.A r.n r.c]) (Evs.cons (by conv => lhs; whnf) Evs.nil) (bld_run Try.underlying80 (bp_80 Try.underlying80) zr_80 (by simp [Instr.fill, Value.cells]))) hS ?_
  refine D.one 3 (by kernel_rfl) rfl ?_
  refine L.call rfl en_69 rfl ((rtwo 2240 w7 (by omega))) ?_
  rintro e w8 ⟨m, rfl, hmA, hmg, hmv, hmn, _, he8⟩
  refine ⟨_, rfl, ?_⟩
  have hS1 := hS.trans he8
  refine L.nil ?_
  refine ⟨fun _ => hS1, ?_⟩
  have he8 : Ext w7 w8 := he8
  have he68 := hS.trans he8
  have c9 := rcmp (x := r.ab) (y := m) (w := w8) (Nat.le_refl _) ((hrA6.ext he68).more he68.le).ab hmA
  refine D.one 4 (by kernel_rfl) rfl ?_
  refine L.call rfl en_68 rfl (c9) ?_
  rintro e w9 ⟨⟨k, rfl, hk⟩, he9⟩
  refine ⟨_, rfl, ?_⟩
  have hS2 := he68.trans he9
  refine L.nil ?_
  refine ⟨fun _ => hS2, ?_⟩
  have he9 : Ext w8 w9 := he9
  have he69 := he68.trans he9
  have he09 := he06.trans he69
  have hab : r.ab.iv = dv r.d := rfl
  have hmi : m.iv = 2 ^ rm := by
    show sgz m.g (dv m.d) = _
    rw [hmg, hmv, rm_eq]
    rfl
  have hra := iv_abs hrA
  rw [hab, hmi] at hk
  rw [hrv] at hra
  have hrA9 := (hrA6.ext he69).more he69.le
  have k19 := k1.ext he69
  have k29 := k2.ext he69
  have k39 := k3.ext he69
  have k69 := hk6.ext he69
  obtain ⟨M, hM⟩ : ∃ M, M = (2 : Int) ^ rm := ⟨_, rfl⟩
  rw [← hM] at hk
  refine D.va 5 rfl (by kernel_rfl) (fun _ _ _ h => h) rfl (fun w' hw => X.geq rfl rfl) hS2 ?_
  refine D.done (by kernel_rfl) ?_
  refine J.dec rfl (fun hbig => ?_) (fun hbig => ?_)
  · have hno : ¬ dv r.d < M := fun h => by
      have := hk.1.2 h
      omega
    refine J.seq ?_
    refine J.region ?_
    refine L.va rfl (X.loadAgg rfl (range_l k19) Try.underlying85 rfl (by kernel_rfl)) ?_
    refine L.storeAgg (vs := [_, _, _, _, _, _, _]) rfl rfl rfl rfl sz_85 (k39) rfl ?_
    intro w10 hk10 hg10 hs10
    have he10 : Ext w w10 := he09.grw hg10 (by intro g hg; injection hg with hg; omega)
    refine L.va rfl (X.assign (by conv => lhs; whnf)) ?_
    refine L.nil ?_
    refine J.ret ?_
    refine thn_ret <| ?_
    refine finCT rfl (run_cell hk10 Try.underlying85 rfl (by kernel_rfl)) ?_
    refine ⟨he10, _, false, rfl, rfl, rfl, ⟨(fun h => by cases h), fun h => ?_⟩, (fun h => by cases h)⟩
    rw [← hM] at h
    omega
  · have hyes : dv r.d < M := by
      apply Decidable.byContradiction
      intro h
      have := hk.1.1 (by omega)
      omega
    have FIN : ∀ (w' : World) (a0 a1 a2 a3 a4 : Bool), a0 = (p0 || q0) → a1 = (p1 || q1) → a2 = (p2 || q2) → a3 = (p3 || q3) → a4 = (p4 || q4) → Blk w' b3 85 (sV a0 a1 a2 a3 a4 r).toArray → w9.grownBy w' (some b3) → JoinR p0 p1 p2 p3 p4 t q0 q1 q2 q3 q4 u w (.returned (.tuple #[.agg (sV a0 a1 a2 a3 a4 r).toArray, .bool true])) w' := by
      rintro w' a0 a1 a2 a3 a4 rfl rfl rfl rfl rfl hB hg
      refine ⟨he09.grw hg (by intro g hg; injection hg with hg; omega), _, true, rfl, rfl, rfl, ⟨(fun _ => by rw [← hM]; omega), fun _ => rfl⟩, fun _ => ⟨r, rfl, ?_, hrv, hrn⟩⟩
      have hrO9 := (hrO.ext he46).ext he69
      have hrO' : r.Own w3.heap.size w' := hrO9.kept hg (.inr (own_blk_ne hrO9 k39 (by decide)))
      exact ⟨Reads.of_own hrO', hrA9.dg, hrA9.cn, hrA9.sg, hrA9.cp, hrA9.sm⟩
    refine J.skip ?_
    refine J.seq ?_
    refine J.region ?_
    refine L.va rfl (X.fieldAddr rfl Try.underlying85 rfl sz_4 (by decide)) ?_
    refine L.va rfl (X.load rfl sc_4 (by first | exact Ld.blk k19 rfl | exact Ld.blk k29 rfl | exact Ld.blk k69 rfl)) ?_
    refine L.va rfl (X.move (by conv => lhs; whnf)) ?_
    cases p0
    · refine L.caseBF (k := 21) rfl (by rfl) ?_
      refine L.va rfl (X.fieldAddr rfl Try.underlying85 rfl sz_4 (by decide)) ?_
      refine L.va rfl (X.load rfl sc_4 (by first | exact Ld.blk k19 rfl | exact Ld.blk k29 rfl | exact Ld.blk k69 rfl)) ?_
      refine L.va rfl (X.pickF rfl (by conv => lhs; whnf)) ?_
      refine L.va rfl (X.fieldAddr rfl Try.underlying85 rfl sz_4 (by decide)) ?_
      refine L.va rfl (X.load rfl sc_4 (by first | exact Ld.blk k19 rfl | exact Ld.blk k29 rfl | exact Ld.blk k69 rfl)) ?_
      refine L.va rfl (X.move (by conv => lhs; whnf)) ?_
      cases p1
      · refine L.caseBF (k := 27) rfl (by rfl) ?_
        refine L.va rfl (X.fieldAddr rfl Try.underlying85 rfl sz_4 (by decide)) ?_
        refine L.va rfl (X.load rfl sc_4 (by first | exact Ld.blk k19 rfl | exact Ld.blk k29 rfl | exact Ld.blk k69 rfl)) ?_
        refine L.va rfl (X.pickF rfl (by conv => lhs; whnf)) ?_
        refine L.va rfl (X.fieldAddr rfl Try.underlying85 rfl sz_4 (by decide)) ?_
        refine L.va rfl (X.load rfl sc_4 (by first | exact Ld.blk k19 rfl | exact Ld.blk k29 rfl | exact Ld.blk k69 rfl)) ?_
        refine L.va rfl (X.move (by conv => lhs; whnf)) ?_
        cases p2
        · refine L.caseBF (k := 33) rfl (by rfl) ?_
          refine L.va rfl (X.fieldAddr rfl Try.underlying85 rfl sz_4 (by decide)) ?_
          refine L.va rfl (X.load rfl sc_4 (by first | exact Ld.blk k19 rfl | exact Ld.blk k29 rfl | exact Ld.blk k69 rfl)) ?_
          refine L.va rfl (X.pickF rfl (by conv => lhs; whnf)) ?_
          refine L.va rfl (X.fieldAddr rfl Try.underlying85 rfl sz_4 (by decide)) ?_
          refine L.va rfl (X.load rfl sc_4 (by first | exact Ld.blk k19 rfl | exact Ld.blk k29 rfl | exact Ld.blk k69 rfl)) ?_
          refine L.va rfl (X.move (by conv => lhs; whnf)) ?_
          cases p3
          · refine L.caseBF (k := 39) rfl (by rfl) ?_
            refine L.va rfl (X.fieldAddr rfl Try.underlying85 rfl sz_4 (by decide)) ?_
            refine L.va rfl (X.load rfl sc_4 (by first | exact Ld.blk k19 rfl | exact Ld.blk k29 rfl | exact Ld.blk k69 rfl)) ?_
            refine L.va rfl (X.pickF rfl (by conv => lhs; whnf)) ?_
            refine L.va rfl (X.fieldAddr rfl Try.underlying85 rfl sz_4 (by decide)) ?_
            refine L.va rfl (X.load rfl sc_4 (by first | exact Ld.blk k19 rfl | exact Ld.blk k29 rfl | exact Ld.blk k69 rfl)) ?_
            refine L.va rfl (X.move (by conv => lhs; whnf)) ?_
            cases p4
            · refine L.caseBF (k := 45) rfl (by rfl) ?_
              refine L.va rfl (X.fieldAddr rfl Try.underlying85 rfl sz_4 (by decide)) ?_
              refine L.va rfl (X.load rfl sc_4 (by first | exact Ld.blk k19 rfl | exact Ld.blk k29 rfl | exact Ld.blk k69 rfl)) ?_
              refine L.va rfl (X.pickF rfl (by conv => lhs; whnf)) ?_
              refine L.va rfl (X.loadAgg rfl (range_l k69) Try.underlying80 rfl (by kernel_rfl)) ?_
              refine L.va rfl (sum05 (by conv => lhs; whnf) (by conv => lhs; whnf) (by conv => lhs; whnf) (by conv => lhs; whnf) (by conv => lhs; whnf) (by conv => lhs; whnf)) ?_
              refine L.storeAgg (vs := [_, _, _, _, _, _, _]) rfl rfl rfl rfl sz_85 (k39) rfl ?_
              intro w10 hk10 hg10 hs10
              refine L.va rfl (X.assign (by conv => lhs; whnf)) ?_
              refine L.nil ?_
              refine J.ret ?_
              refine finCT rfl (run_cell hk10 Try.underlying85 rfl (by kernel_rfl)) ?_
              exact FIN w10 _ _ _ _ _ rfl rfl rfl rfl rfl hk10 hg10
            · refine L.caseBT (k := 45) rfl (by rfl) ?_
              refine L.no rfl ?_
              refine L.no rfl ?_
              refine L.va rfl (X.pickT rfl (by conv => lhs; whnf)) ?_
              refine L.va rfl (X.loadAgg rfl (range_l k69) Try.underlying80 rfl (by kernel_rfl)) ?_
              refine L.va rfl (sum05 (by conv => lhs; whnf) (by conv => lhs; whnf) (by conv => lhs; whnf) (by conv => lhs; whnf) (by conv => lhs; whnf) (by conv => lhs; whnf)) ?_
              refine L.storeAgg (vs := [_, _, _, _, _, _, _]) rfl rfl rfl rfl sz_85 (k39) rfl ?_
              intro w10 hk10 hg10 hs10
              refine L.va rfl (X.assign (by conv => lhs; whnf)) ?_
              refine L.nil ?_
              refine J.ret ?_
              refine finCT rfl (run_cell hk10 Try.underlying85 rfl (by kernel_rfl)) ?_
              exact FIN w10 _ _ _ _ _ rfl rfl rfl rfl rfl hk10 hg10
          · refine L.caseBT (k := 39) rfl (by rfl) ?_
            refine L.no rfl ?_
            refine L.no rfl ?_
            refine L.va rfl (X.pickT rfl (by conv => lhs; whnf)) ?_
            refine L.va rfl (X.fieldAddr rfl Try.underlying85 rfl sz_4 (by decide)) ?_
            refine L.va rfl (X.load rfl sc_4 (by first | exact Ld.blk k19 rfl | exact Ld.blk k29 rfl | exact Ld.blk k69 rfl)) ?_
            refine L.va rfl (X.move (by conv => lhs; whnf)) ?_
            cases p4
            · refine L.caseBF (k := 45) rfl (by rfl) ?_
              refine L.va rfl (X.fieldAddr rfl Try.underlying85 rfl sz_4 (by decide)) ?_
              refine L.va rfl (X.load rfl sc_4 (by first | exact Ld.blk k19 rfl | exact Ld.blk k29 rfl | exact Ld.blk k69 rfl)) ?_
              refine L.va rfl (X.pickF rfl (by conv => lhs; whnf)) ?_
              refine L.va rfl (X.loadAgg rfl (range_l k69) Try.underlying80 rfl (by kernel_rfl)) ?_
              refine L.va rfl (sum05 (by conv => lhs; whnf) (by conv => lhs; whnf) (by conv => lhs; whnf) (by conv => lhs; whnf) (by conv => lhs; whnf) (by conv => lhs; whnf)) ?_
              refine L.storeAgg (vs := [_, _, _, _, _, _, _]) rfl rfl rfl rfl sz_85 (k39) rfl ?_
              intro w10 hk10 hg10 hs10
              refine L.va rfl (X.assign (by conv => lhs; whnf)) ?_
              refine L.nil ?_
              refine J.ret ?_
              refine finCT rfl (run_cell hk10 Try.underlying85 rfl (by kernel_rfl)) ?_
              exact FIN w10 _ _ _ _ _ rfl rfl rfl rfl rfl hk10 hg10
            · refine L.caseBT (k := 45) rfl (by rfl) ?_
              refine L.no rfl ?_
              refine L.no rfl ?_
              refine L.va rfl (X.pickT rfl (by conv => lhs; whnf)) ?_
              refine L.va rfl (X.loadAgg rfl (range_l k69) Try.underlying80 rfl (by kernel_rfl)) ?_
              refine L.va rfl (sum05 (by conv => lhs; whnf) (by conv => lhs; whnf) (by conv => lhs; whnf) (by conv => lhs; whnf) (by conv => lhs; whnf) (by conv => lhs; whnf)) ?_
              refine L.storeAgg (vs := [_, _, _, _, _, _, _]) rfl rfl rfl rfl sz_85 (k39) rfl ?_
              intro w10 hk10 hg10 hs10
              refine L.va rfl (X.assign (by conv => lhs; whnf)) ?_
              refine L.nil ?_
              refine J.ret ?_
              refine finCT rfl (run_cell hk10 Try.underlying85 rfl (by kernel_rfl)) ?_
              exact FIN w10 _ _ _ _ _ rfl rfl rfl rfl rfl hk10 hg10
        · refine L.caseBT (k := 33) rfl (by rfl) ?_
          refine L.no rfl ?_
          refine L.no rfl ?_
          refine L.va rfl (X.pickT rfl (by conv => lhs; whnf)) ?_
          refine L.va rfl (X.fieldAddr rfl Try.underlying85 rfl sz_4 (by decide)) ?_
          refine L.va rfl (X.load rfl sc_4 (by first | exact Ld.blk k19 rfl | exact Ld.blk k29 rfl | exact Ld.blk k69 rfl)) ?_
          refine L.va rfl (X.move (by conv => lhs; whnf)) ?_
          cases p3
          · refine L.caseBF (k := 39) rfl (by rfl) ?_
            refine L.va rfl (X.fieldAddr rfl Try.underlying85 rfl sz_4 (by decide)) ?_
            refine L.va rfl (X.load rfl sc_4 (by first | exact Ld.blk k19 rfl | exact Ld.blk k29 rfl | exact Ld.blk k69 rfl)) ?_
            refine L.va rfl (X.pickF rfl (by conv => lhs; whnf)) ?_
            refine L.va rfl (X.fieldAddr rfl Try.underlying85 rfl sz_4 (by decide)) ?_
            refine L.va rfl (X.load rfl sc_4 (by first | exact Ld.blk k19 rfl | exact Ld.blk k29 rfl | exact Ld.blk k69 rfl)) ?_
            refine L.va rfl (X.move (by conv => lhs; whnf)) ?_
            cases p4
            · refine L.caseBF (k := 45) rfl (by rfl) ?_
              refine L.va rfl (X.fieldAddr rfl Try.underlying85 rfl sz_4 (by decide)) ?_
              refine L.va rfl (X.load rfl sc_4 (by first | exact Ld.blk k19 rfl | exact Ld.blk k29 rfl | exact Ld.blk k69 rfl)) ?_
              refine L.va rfl (X.pickF rfl (by conv => lhs; whnf)) ?_
              refine L.va rfl (X.loadAgg rfl (range_l k69) Try.underlying80 rfl (by kernel_rfl)) ?_
              refine L.va rfl (sum05 (by conv => lhs; whnf) (by conv => lhs; whnf) (by conv => lhs; whnf) (by conv => lhs; whnf) (by conv => lhs; whnf) (by conv => lhs; whnf)) ?_
              refine L.storeAgg (vs := [_, _, _, _, _, _, _]) rfl rfl rfl rfl sz_85 (k39) rfl ?_
              intro w10 hk10 hg10 hs10
              refine L.va rfl (X.assign (by conv => lhs; whnf)) ?_
              refine L.nil ?_
              refine J.ret ?_
              refine finCT rfl (run_cell hk10 Try.underlying85 rfl (by kernel_rfl)) ?_
              exact FIN w10 _ _ _ _ _ rfl rfl rfl rfl rfl hk10 hg10
            · refine L.caseBT (k := 45) rfl (by rfl) ?_
              refine L.no rfl ?_
              refine L.no rfl ?_
              refine L.va rfl (X.pickT rfl (by conv => lhs; whnf)) ?_
              refine L.va rfl (X.loadAgg rfl (range_l k69) Try.underlying80 rfl (by kernel_rfl)) ?_
              refine L.va rfl (sum05 (by conv => lhs; whnf) (by conv => lhs; whnf) (by conv => lhs; whnf) (by conv => lhs; whnf) (by conv => lhs; whnf) (by conv => lhs; whnf)) ?_
              refine L.storeAgg (vs := [_, _, _, _, _, _, _]) rfl rfl rfl rfl sz_85 (k39) rfl ?_
              intro w10 hk10 hg10 hs10
              refine L.va rfl (X.assign (by conv => lhs; whnf)) ?_
              refine L.nil ?_
              refine J.ret ?_
              refine finCT rfl (run_cell hk10 Try.underlying85 rfl (by kernel_rfl)) ?_
              exact FIN w10 _ _ _ _ _ rfl rfl rfl rfl rfl hk10 hg10
          · refine L.caseBT (k := 39) rfl (by rfl) ?_
            refine L.no rfl ?_
            refine L.no rfl ?_
            refine L.va rfl (X.pickT rfl (by conv => lhs; whnf)) ?_
            refine L.va rfl (X.fieldAddr rfl Try.underlying85 rfl sz_4 (by decide)) ?_
            refine L.va rfl (X.load rfl sc_4 (by first | exact Ld.blk k19 rfl | exact Ld.blk k29 rfl | exact Ld.blk k69 rfl)) ?_
            refine L.va rfl (X.move (by conv => lhs; whnf)) ?_
            cases p4
            · refine L.caseBF (k := 45) rfl (by rfl) ?_
              refine L.va rfl (X.fieldAddr rfl Try.underlying85 rfl sz_4 (by decide)) ?_
              refine L.va rfl (X.load rfl sc_4 (by first | exact Ld.blk k19 rfl | exact Ld.blk k29 rfl | exact Ld.blk k69 rfl)) ?_
              refine L.va rfl (X.pickF rfl (by conv => lhs; whnf)) ?_
              refine L.va rfl (X.loadAgg rfl (range_l k69) Try.underlying80 rfl (by kernel_rfl)) ?_
              refine L.va rfl (sum05 (by conv => lhs; whnf) (by conv => lhs; whnf) (by conv => lhs; whnf) (by conv => lhs; whnf) (by conv => lhs; whnf) (by conv => lhs; whnf)) ?_
              refine L.storeAgg (vs := [_, _, _, _, _, _, _]) rfl rfl rfl rfl sz_85 (k39) rfl ?_
              intro w10 hk10 hg10 hs10
              refine L.va rfl (X.assign (by conv => lhs; whnf)) ?_
              refine L.nil ?_
              refine J.ret ?_
              refine finCT rfl (run_cell hk10 Try.underlying85 rfl (by kernel_rfl)) ?_
              exact FIN w10 _ _ _ _ _ rfl rfl rfl rfl rfl hk10 hg10
            · refine L.caseBT (k := 45) rfl (by rfl) ?_
              refine L.no rfl ?_
              refine L.no rfl ?_
              refine L.va rfl (X.pickT rfl (by conv => lhs; whnf)) ?_
              refine L.va rfl (X.loadAgg rfl (range_l k69) Try.underlying80 rfl (by kernel_rfl)) ?_
              refine L.va rfl (sum05 (by conv => lhs; whnf) (by conv => lhs; whnf) (by conv => lhs; whnf) (by conv => lhs; whnf) (by conv => lhs; whnf) (by conv => lhs; whnf)) ?_
              refine L.storeAgg (vs := [_, _, _, _, _, _, _]) rfl rfl rfl rfl sz_85 (k39) rfl ?_
              intro w10 hk10 hg10 hs10
              refine L.va rfl (X.assign (by conv => lhs; whnf)) ?_
              refine L.nil ?_
              refine J.ret ?_
              refine finCT rfl (run_cell hk10 Try.underlying85 rfl (by kernel_rfl)) ?_
              exact FIN w10 _ _ _ _ _ rfl rfl rfl rfl rfl hk10 hg10
      · refine L.caseBT (k := 27) rfl (by rfl) ?_
        refine L.no rfl ?_
        refine L.no rfl ?_
        refine L.va rfl (X.pickT rfl (by conv => lhs; whnf)) ?_
        refine L.va rfl (X.fieldAddr rfl Try.underlying85 rfl sz_4 (by decide)) ?_
        refine L.va rfl (X.load rfl sc_4 (by first | exact Ld.blk k19 rfl | exact Ld.blk k29 rfl | exact Ld.blk k69 rfl)) ?_
        refine L.va rfl (X.move (by conv => lhs; whnf)) ?_
        cases p2
        · refine L.caseBF (k := 33) rfl (by rfl) ?_
          refine L.va rfl (X.fieldAddr rfl Try.underlying85 rfl sz_4 (by decide)) ?_
          refine L.va rfl (X.load rfl sc_4 (by first | exact Ld.blk k19 rfl | exact Ld.blk k29 rfl | exact Ld.blk k69 rfl)) ?_
          refine L.va rfl (X.pickF rfl (by conv => lhs; whnf)) ?_
          refine L.va rfl (X.fieldAddr rfl Try.underlying85 rfl sz_4 (by decide)) ?_
          refine L.va rfl (X.load rfl sc_4 (by first | exact Ld.blk k19 rfl | exact Ld.blk k29 rfl | exact Ld.blk k69 rfl)) ?_
          refine L.va rfl (X.move (by conv => lhs; whnf)) ?_
          cases p3
          · refine L.caseBF (k := 39) rfl (by rfl) ?_
            refine L.va rfl (X.fieldAddr rfl Try.underlying85 rfl sz_4 (by decide)) ?_
            refine L.va rfl (X.load rfl sc_4 (by first | exact Ld.blk k19 rfl | exact Ld.blk k29 rfl | exact Ld.blk k69 rfl)) ?_
            refine L.va rfl (X.pickF rfl (by conv => lhs; whnf)) ?_
            refine L.va rfl (X.fieldAddr rfl Try.underlying85 rfl sz_4 (by decide)) ?_
            refine L.va rfl (X.load rfl sc_4 (by first | exact Ld.blk k19 rfl | exact Ld.blk k29 rfl | exact Ld.blk k69 rfl)) ?_
            refine L.va rfl (X.move (by conv => lhs; whnf)) ?_
            cases p4
            · refine L.caseBF (k := 45) rfl (by rfl) ?_
              refine L.va rfl (X.fieldAddr rfl Try.underlying85 rfl sz_4 (by decide)) ?_
              refine L.va rfl (X.load rfl sc_4 (by first | exact Ld.blk k19 rfl | exact Ld.blk k29 rfl | exact Ld.blk k69 rfl)) ?_
              refine L.va rfl (X.pickF rfl (by conv => lhs; whnf)) ?_
              refine L.va rfl (X.loadAgg rfl (range_l k69) Try.underlying80 rfl (by kernel_rfl)) ?_
              refine L.va rfl (sum05 (by conv => lhs; whnf) (by conv => lhs; whnf) (by conv => lhs; whnf) (by conv => lhs; whnf) (by conv => lhs; whnf) (by conv => lhs; whnf)) ?_
              refine L.storeAgg (vs := [_, _, _, _, _, _, _]) rfl rfl rfl rfl sz_85 (k39) rfl ?_
              intro w10 hk10 hg10 hs10
              refine L.va rfl (X.assign (by conv => lhs; whnf)) ?_
              refine L.nil ?_
              refine J.ret ?_
              refine finCT rfl (run_cell hk10 Try.underlying85 rfl (by kernel_rfl)) ?_
              exact FIN w10 _ _ _ _ _ rfl rfl rfl rfl rfl hk10 hg10
            · refine L.caseBT (k := 45) rfl (by rfl) ?_
              refine L.no rfl ?_
              refine L.no rfl ?_
              refine L.va rfl (X.pickT rfl (by conv => lhs; whnf)) ?_
              refine L.va rfl (X.loadAgg rfl (range_l k69) Try.underlying80 rfl (by kernel_rfl)) ?_
              refine L.va rfl (sum05 (by conv => lhs; whnf) (by conv => lhs; whnf) (by conv => lhs; whnf) (by conv => lhs; whnf) (by conv => lhs; whnf) (by conv => lhs; whnf)) ?_
              refine L.storeAgg (vs := [_, _, _, _, _, _, _]) rfl rfl rfl rfl sz_85 (k39) rfl ?_
              intro w10 hk10 hg10 hs10
              refine L.va rfl (X.assign (by conv => lhs; whnf)) ?_
              refine L.nil ?_
              refine J.ret ?_
              refine finCT rfl (run_cell hk10 Try.underlying85 rfl (by kernel_rfl)) ?_
              exact FIN w10 _ _ _ _ _ rfl rfl rfl rfl rfl hk10 hg10
          · refine L.caseBT (k := 39) rfl (by rfl) ?_
            refine L.no rfl ?_
            refine L.no rfl ?_
            refine L.va rfl (X.pickT rfl (by conv => lhs; whnf)) ?_
            refine L.va rfl (X.fieldAddr rfl Try.underlying85 rfl sz_4 (by decide)) ?_
            refine L.va rfl (X.load rfl sc_4 (by first | exact Ld.blk k19 rfl | exact Ld.blk k29 rfl | exact Ld.blk k69 rfl)) ?_
            refine L.va rfl (X.move (by conv => lhs; whnf)) ?_
            cases p4
            · refine L.caseBF (k := 45) rfl (by rfl) ?_
              refine L.va rfl (X.fieldAddr rfl Try.underlying85 rfl sz_4 (by decide)) ?_
              refine L.va rfl (X.load rfl sc_4 (by first | exact Ld.blk k19 rfl | exact Ld.blk k29 rfl | exact Ld.blk k69 rfl)) ?_
              refine L.va rfl (X.pickF rfl (by conv => lhs; whnf)) ?_
              refine L.va rfl (X.loadAgg rfl (range_l k69) Try.underlying80 rfl (by kernel_rfl)) ?_
              refine L.va rfl (sum05 (by conv => lhs; whnf) (by conv => lhs; whnf) (by conv => lhs; whnf) (by conv => lhs; whnf) (by conv => lhs; whnf) (by conv => lhs; whnf)) ?_
              refine L.storeAgg (vs := [_, _, _, _, _, _, _]) rfl rfl rfl rfl sz_85 (k39) rfl ?_
              intro w10 hk10 hg10 hs10
              refine L.va rfl (X.assign (by conv => lhs; whnf)) ?_
              refine L.nil ?_
              refine J.ret ?_
              refine finCT rfl (run_cell hk10 Try.underlying85 rfl (by kernel_rfl)) ?_
              exact FIN w10 _ _ _ _ _ rfl rfl rfl rfl rfl hk10 hg10
            · refine L.caseBT (k := 45) rfl (by rfl) ?_
              refine L.no rfl ?_
              refine L.no rfl ?_
              refine L.va rfl (X.pickT rfl (by conv => lhs; whnf)) ?_
              refine L.va rfl (X.loadAgg rfl (range_l k69) Try.underlying80 rfl (by kernel_rfl)) ?_
              refine L.va rfl (sum05 (by conv => lhs; whnf) (by conv => lhs; whnf) (by conv => lhs; whnf) (by conv => lhs; whnf) (by conv => lhs; whnf) (by conv => lhs; whnf)) ?_
              refine L.storeAgg (vs := [_, _, _, _, _, _, _]) rfl rfl rfl rfl sz_85 (k39) rfl ?_
              intro w10 hk10 hg10 hs10
              refine L.va rfl (X.assign (by conv => lhs; whnf)) ?_
              refine L.nil ?_
              refine J.ret ?_
              refine finCT rfl (run_cell hk10 Try.underlying85 rfl (by kernel_rfl)) ?_
              exact FIN w10 _ _ _ _ _ rfl rfl rfl rfl rfl hk10 hg10
        · refine L.caseBT (k := 33) rfl (by rfl) ?_
          refine L.no rfl ?_
          refine L.no rfl ?_
          refine L.va rfl (X.pickT rfl (by conv => lhs; whnf)) ?_
          refine L.va rfl (X.fieldAddr rfl Try.underlying85 rfl sz_4 (by decide)) ?_
          refine L.va rfl (X.load rfl sc_4 (by first | exact Ld.blk k19 rfl | exact Ld.blk k29 rfl | exact Ld.blk k69 rfl)) ?_
          refine L.va rfl (X.move (by conv => lhs; whnf)) ?_
          cases p3
          · refine L.caseBF (k := 39) rfl (by rfl) ?_
            refine L.va rfl (X.fieldAddr rfl Try.underlying85 rfl sz_4 (by decide)) ?_
            refine L.va rfl (X.load rfl sc_4 (by first | exact Ld.blk k19 rfl | exact Ld.blk k29 rfl | exact Ld.blk k69 rfl)) ?_
            refine L.va rfl (X.pickF rfl (by conv => lhs; whnf)) ?_
            refine L.va rfl (X.fieldAddr rfl Try.underlying85 rfl sz_4 (by decide)) ?_
            refine L.va rfl (X.load rfl sc_4 (by first | exact Ld.blk k19 rfl | exact Ld.blk k29 rfl | exact Ld.blk k69 rfl)) ?_
            refine L.va rfl (X.move (by conv => lhs; whnf)) ?_
            cases p4
            · refine L.caseBF (k := 45) rfl (by rfl) ?_
              refine L.va rfl (X.fieldAddr rfl Try.underlying85 rfl sz_4 (by decide)) ?_
              refine L.va rfl (X.load rfl sc_4 (by first | exact Ld.blk k19 rfl | exact Ld.blk k29 rfl | exact Ld.blk k69 rfl)) ?_
              refine L.va rfl (X.pickF rfl (by conv => lhs; whnf)) ?_
              refine L.va rfl (X.loadAgg rfl (range_l k69) Try.underlying80 rfl (by kernel_rfl)) ?_
              refine L.va rfl (sum05 (by conv => lhs; whnf) (by conv => lhs; whnf) (by conv => lhs; whnf) (by conv => lhs; whnf) (by conv => lhs; whnf) (by conv => lhs; whnf)) ?_
              refine L.storeAgg (vs := [_, _, _, _, _, _, _]) rfl rfl rfl rfl sz_85 (k39) rfl ?_
              intro w10 hk10 hg10 hs10
              refine L.va rfl (X.assign (by conv => lhs; whnf)) ?_
              refine L.nil ?_
              refine J.ret ?_
              refine finCT rfl (run_cell hk10 Try.underlying85 rfl (by kernel_rfl)) ?_
              exact FIN w10 _ _ _ _ _ rfl rfl rfl rfl rfl hk10 hg10
            · refine L.caseBT (k := 45) rfl (by rfl) ?_
              refine L.no rfl ?_
              refine L.no rfl ?_
              refine L.va rfl (X.pickT rfl (by conv => lhs; whnf)) ?_
              refine L.va rfl (X.loadAgg rfl (range_l k69) Try.underlying80 rfl (by kernel_rfl)) ?_
              refine L.va rfl (sum05 (by conv => lhs; whnf) (by conv => lhs; whnf) (by conv => lhs; whnf) (by conv => lhs; whnf) (by conv => lhs; whnf) (by conv => lhs; whnf)) ?_
              refine L.storeAgg (vs := [_, _, _, _, _, _, _]) rfl rfl rfl rfl sz_85 (k39) rfl ?_
              intro w10 hk10 hg10 hs10
              refine L.va rfl (X.assign (by conv => lhs; whnf)) ?_
              refine L.nil ?_
              refine J.ret ?_
              refine finCT rfl (run_cell hk10 Try.underlying85 rfl (by kernel_rfl)) ?_
              exact FIN w10 _ _ _ _ _ rfl rfl rfl rfl rfl hk10 hg10
          · refine L.caseBT (k := 39) rfl (by rfl) ?_
            refine L.no rfl ?_
            refine L.no rfl ?_
            refine L.va rfl (X.pickT rfl (by conv => lhs; whnf)) ?_
            refine L.va rfl (X.fieldAddr rfl Try.underlying85 rfl sz_4 (by decide)) ?_
            refine L.va rfl (X.load rfl sc_4 (by first | exact Ld.blk k19 rfl | exact Ld.blk k29 rfl | exact Ld.blk k69 rfl)) ?_
            refine L.va rfl (X.move (by conv => lhs; whnf)) ?_
            cases p4
            · refine L.caseBF (k := 45) rfl (by rfl) ?_
              refine L.va rfl (X.fieldAddr rfl Try.underlying85 rfl sz_4 (by decide)) ?_
              refine L.va rfl (X.load rfl sc_4 (by first | exact Ld.blk k19 rfl | exact Ld.blk k29 rfl | exact Ld.blk k69 rfl)) ?_
              refine L.va rfl (X.pickF rfl (by conv => lhs; whnf)) ?_
              refine L.va rfl (X.loadAgg rfl (range_l k69) Try.underlying80 rfl (by kernel_rfl)) ?_
              refine L.va rfl (sum05 (by conv => lhs; whnf) (by conv => lhs; whnf) (by conv => lhs; whnf) (by conv => lhs; whnf) (by conv => lhs; whnf) (by conv => lhs; whnf)) ?_
              refine L.storeAgg (vs := [_, _, _, _, _, _, _]) rfl rfl rfl rfl sz_85 (k39) rfl ?_
              intro w10 hk10 hg10 hs10
              refine L.va rfl (X.assign (by conv => lhs; whnf)) ?_
              refine L.nil ?_
              refine J.ret ?_
              refine finCT rfl (run_cell hk10 Try.underlying85 rfl (by kernel_rfl)) ?_
              exact FIN w10 _ _ _ _ _ rfl rfl rfl rfl rfl hk10 hg10
            · refine L.caseBT (k := 45) rfl (by rfl) ?_
              refine L.no rfl ?_
              refine L.no rfl ?_
              refine L.va rfl (X.pickT rfl (by conv => lhs; whnf)) ?_
              refine L.va rfl (X.loadAgg rfl (range_l k69) Try.underlying80 rfl (by kernel_rfl)) ?_
              refine L.va rfl (sum05 (by conv => lhs; whnf) (by conv => lhs; whnf) (by conv => lhs; whnf) (by conv => lhs; whnf) (by conv => lhs; whnf) (by conv => lhs; whnf)) ?_
              refine L.storeAgg (vs := [_, _, _, _, _, _, _]) rfl rfl rfl rfl sz_85 (k39) rfl ?_
              intro w10 hk10 hg10 hs10
              refine L.va rfl (X.assign (by conv => lhs; whnf)) ?_
              refine L.nil ?_
              refine J.ret ?_
              refine finCT rfl (run_cell hk10 Try.underlying85 rfl (by kernel_rfl)) ?_
              exact FIN w10 _ _ _ _ _ rfl rfl rfl rfl rfl hk10 hg10
    · refine L.caseBT (k := 21) rfl (by rfl) ?_
      refine L.no rfl ?_
      refine L.no rfl ?_
      refine L.va rfl (X.pickT rfl (by conv => lhs; whnf)) ?_
      refine L.va rfl (X.fieldAddr rfl Try.underlying85 rfl sz_4 (by decide)) ?_
      refine L.va rfl (X.load rfl sc_4 (by first | exact Ld.blk k19 rfl | exact Ld.blk k29 rfl | exact Ld.blk k69 rfl)) ?_
      refine L.va rfl (X.move (by conv => lhs; whnf)) ?_
      cases p1
      · refine L.caseBF (k := 27) rfl (by rfl) ?_
        refine L.va rfl (X.fieldAddr rfl Try.underlying85 rfl sz_4 (by decide)) ?_
        refine L.va rfl (X.load rfl sc_4 (by first | exact Ld.blk k19 rfl | exact Ld.blk k29 rfl | exact Ld.blk k69 rfl)) ?_
        refine L.va rfl (X.pickF rfl (by conv => lhs; whnf)) ?_
        refine L.va rfl (X.fieldAddr rfl Try.underlying85 rfl sz_4 (by decide)) ?_
        refine L.va rfl (X.load rfl sc_4 (by first | exact Ld.blk k19 rfl | exact Ld.blk k29 rfl | exact Ld.blk k69 rfl)) ?_
        refine L.va rfl (X.move (by conv => lhs; whnf)) ?_
        cases p2
        · refine L.caseBF (k := 33) rfl (by rfl) ?_
          refine L.va rfl (X.fieldAddr rfl Try.underlying85 rfl sz_4 (by decide)) ?_
          refine L.va rfl (X.load rfl sc_4 (by first | exact Ld.blk k19 rfl | exact Ld.blk k29 rfl | exact Ld.blk k69 rfl)) ?_
          refine L.va rfl (X.pickF rfl (by conv => lhs; whnf)) ?_
          refine L.va rfl (X.fieldAddr rfl Try.underlying85 rfl sz_4 (by decide)) ?_
          refine L.va rfl (X.load rfl sc_4 (by first | exact Ld.blk k19 rfl | exact Ld.blk k29 rfl | exact Ld.blk k69 rfl)) ?_
          refine L.va rfl (X.move (by conv => lhs; whnf)) ?_
          cases p3
          · refine L.caseBF (k := 39) rfl (by rfl) ?_
            refine L.va rfl (X.fieldAddr rfl Try.underlying85 rfl sz_4 (by decide)) ?_
            refine L.va rfl (X.load rfl sc_4 (by first | exact Ld.blk k19 rfl | exact Ld.blk k29 rfl | exact Ld.blk k69 rfl)) ?_
            refine L.va rfl (X.pickF rfl (by conv => lhs; whnf)) ?_
            refine L.va rfl (X.fieldAddr rfl Try.underlying85 rfl sz_4 (by decide)) ?_
            refine L.va rfl (X.load rfl sc_4 (by first | exact Ld.blk k19 rfl | exact Ld.blk k29 rfl | exact Ld.blk k69 rfl)) ?_
            refine L.va rfl (X.move (by conv => lhs; whnf)) ?_
            cases p4
            · refine L.caseBF (k := 45) rfl (by rfl) ?_
              refine L.va rfl (X.fieldAddr rfl Try.underlying85 rfl sz_4 (by decide)) ?_
              refine L.va rfl (X.load rfl sc_4 (by first | exact Ld.blk k19 rfl | exact Ld.blk k29 rfl | exact Ld.blk k69 rfl)) ?_
              refine L.va rfl (X.pickF rfl (by conv => lhs; whnf)) ?_
              refine L.va rfl (X.loadAgg rfl (range_l k69) Try.underlying80 rfl (by kernel_rfl)) ?_
              refine L.va rfl (sum05 (by conv => lhs; whnf) (by conv => lhs; whnf) (by conv => lhs; whnf) (by conv => lhs; whnf) (by conv => lhs; whnf) (by conv => lhs; whnf)) ?_
              refine L.storeAgg (vs := [_, _, _, _, _, _, _]) rfl rfl rfl rfl sz_85 (k39) rfl ?_
              intro w10 hk10 hg10 hs10
              refine L.va rfl (X.assign (by conv => lhs; whnf)) ?_
              refine L.nil ?_
              refine J.ret ?_
              refine finCT rfl (run_cell hk10 Try.underlying85 rfl (by kernel_rfl)) ?_
              exact FIN w10 _ _ _ _ _ rfl rfl rfl rfl rfl hk10 hg10
            · refine L.caseBT (k := 45) rfl (by rfl) ?_
              refine L.no rfl ?_
              refine L.no rfl ?_
              refine L.va rfl (X.pickT rfl (by conv => lhs; whnf)) ?_
              refine L.va rfl (X.loadAgg rfl (range_l k69) Try.underlying80 rfl (by kernel_rfl)) ?_
              refine L.va rfl (sum05 (by conv => lhs; whnf) (by conv => lhs; whnf) (by conv => lhs; whnf) (by conv => lhs; whnf) (by conv => lhs; whnf) (by conv => lhs; whnf)) ?_
              refine L.storeAgg (vs := [_, _, _, _, _, _, _]) rfl rfl rfl rfl sz_85 (k39) rfl ?_
              intro w10 hk10 hg10 hs10
              refine L.va rfl (X.assign (by conv => lhs; whnf)) ?_
              refine L.nil ?_
              refine J.ret ?_
              refine finCT rfl (run_cell hk10 Try.underlying85 rfl (by kernel_rfl)) ?_
              exact FIN w10 _ _ _ _ _ rfl rfl rfl rfl rfl hk10 hg10
          · refine L.caseBT (k := 39) rfl (by rfl) ?_
            refine L.no rfl ?_
            refine L.no rfl ?_
            refine L.va rfl (X.pickT rfl (by conv => lhs; whnf)) ?_
            refine L.va rfl (X.fieldAddr rfl Try.underlying85 rfl sz_4 (by decide)) ?_
            refine L.va rfl (X.load rfl sc_4 (by first | exact Ld.blk k19 rfl | exact Ld.blk k29 rfl | exact Ld.blk k69 rfl)) ?_
            refine L.va rfl (X.move (by conv => lhs; whnf)) ?_
            cases p4
            · refine L.caseBF (k := 45) rfl (by rfl) ?_
              refine L.va rfl (X.fieldAddr rfl Try.underlying85 rfl sz_4 (by decide)) ?_
              refine L.va rfl (X.load rfl sc_4 (by first | exact Ld.blk k19 rfl | exact Ld.blk k29 rfl | exact Ld.blk k69 rfl)) ?_
              refine L.va rfl (X.pickF rfl (by conv => lhs; whnf)) ?_
              refine L.va rfl (X.loadAgg rfl (range_l k69) Try.underlying80 rfl (by kernel_rfl)) ?_
              refine L.va rfl (sum05 (by conv => lhs; whnf) (by conv => lhs; whnf) (by conv => lhs; whnf) (by conv => lhs; whnf) (by conv => lhs; whnf) (by conv => lhs; whnf)) ?_
              refine L.storeAgg (vs := [_, _, _, _, _, _, _]) rfl rfl rfl rfl sz_85 (k39) rfl ?_
              intro w10 hk10 hg10 hs10
              refine L.va rfl (X.assign (by conv => lhs; whnf)) ?_
              refine L.nil ?_
              refine J.ret ?_
              refine finCT rfl (run_cell hk10 Try.underlying85 rfl (by kernel_rfl)) ?_
              exact FIN w10 _ _ _ _ _ rfl rfl rfl rfl rfl hk10 hg10
            · refine L.caseBT (k := 45) rfl (by rfl) ?_
              refine L.no rfl ?_
              refine L.no rfl ?_
              refine L.va rfl (X.pickT rfl (by conv => lhs; whnf)) ?_
              refine L.va rfl (X.loadAgg rfl (range_l k69) Try.underlying80 rfl (by kernel_rfl)) ?_
              refine L.va rfl (sum05 (by conv => lhs; whnf) (by conv => lhs; whnf) (by conv => lhs; whnf) (by conv => lhs; whnf) (by conv => lhs; whnf) (by conv => lhs; whnf)) ?_
              refine L.storeAgg (vs := [_, _, _, _, _, _, _]) rfl rfl rfl rfl sz_85 (k39) rfl ?_
              intro w10 hk10 hg10 hs10
              refine L.va rfl (X.assign (by conv => lhs; whnf)) ?_
              refine L.nil ?_
              refine J.ret ?_
              refine finCT rfl (run_cell hk10 Try.underlying85 rfl (by kernel_rfl)) ?_
              exact FIN w10 _ _ _ _ _ rfl rfl rfl rfl rfl hk10 hg10
        · refine L.caseBT (k := 33) rfl (by rfl) ?_
          refine L.no rfl ?_
          refine L.no rfl ?_
          refine L.va rfl (X.pickT rfl (by conv => lhs; whnf)) ?_
          refine L.va rfl (X.fieldAddr rfl Try.underlying85 rfl sz_4 (by decide)) ?_
          refine L.va rfl (X.load rfl sc_4 (by first | exact Ld.blk k19 rfl | exact Ld.blk k29 rfl | exact Ld.blk k69 rfl)) ?_
          refine L.va rfl (X.move (by conv => lhs; whnf)) ?_
          cases p3
          · refine L.caseBF (k := 39) rfl (by rfl) ?_
            refine L.va rfl (X.fieldAddr rfl Try.underlying85 rfl sz_4 (by decide)) ?_
            refine L.va rfl (X.load rfl sc_4 (by first | exact Ld.blk k19 rfl | exact Ld.blk k29 rfl | exact Ld.blk k69 rfl)) ?_
            refine L.va rfl (X.pickF rfl (by conv => lhs; whnf)) ?_
            refine L.va rfl (X.fieldAddr rfl Try.underlying85 rfl sz_4 (by decide)) ?_
            refine L.va rfl (X.load rfl sc_4 (by first | exact Ld.blk k19 rfl | exact Ld.blk k29 rfl | exact Ld.blk k69 rfl)) ?_
            refine L.va rfl (X.move (by conv => lhs; whnf)) ?_
            cases p4
            · refine L.caseBF (k := 45) rfl (by rfl) ?_
              refine L.va rfl (X.fieldAddr rfl Try.underlying85 rfl sz_4 (by decide)) ?_
              refine L.va rfl (X.load rfl sc_4 (by first | exact Ld.blk k19 rfl | exact Ld.blk k29 rfl | exact Ld.blk k69 rfl)) ?_
              refine L.va rfl (X.pickF rfl (by conv => lhs; whnf)) ?_
              refine L.va rfl (X.loadAgg rfl (range_l k69) Try.underlying80 rfl (by kernel_rfl)) ?_
              refine L.va rfl (sum05 (by conv => lhs; whnf) (by conv => lhs; whnf) (by conv => lhs; whnf) (by conv => lhs; whnf) (by conv => lhs; whnf) (by conv => lhs; whnf)) ?_
              refine L.storeAgg (vs := [_, _, _, _, _, _, _]) rfl rfl rfl rfl sz_85 (k39) rfl ?_
              intro w10 hk10 hg10 hs10
              refine L.va rfl (X.assign (by conv => lhs; whnf)) ?_
              refine L.nil ?_
              refine J.ret ?_
              refine finCT rfl (run_cell hk10 Try.underlying85 rfl (by kernel_rfl)) ?_
              exact FIN w10 _ _ _ _ _ rfl rfl rfl rfl rfl hk10 hg10
            · refine L.caseBT (k := 45) rfl (by rfl) ?_
              refine L.no rfl ?_
              refine L.no rfl ?_
              refine L.va rfl (X.pickT rfl (by conv => lhs; whnf)) ?_
              refine L.va rfl (X.loadAgg rfl (range_l k69) Try.underlying80 rfl (by kernel_rfl)) ?_
              refine L.va rfl (sum05 (by conv => lhs; whnf) (by conv => lhs; whnf) (by conv => lhs; whnf) (by conv => lhs; whnf) (by conv => lhs; whnf) (by conv => lhs; whnf)) ?_
              refine L.storeAgg (vs := [_, _, _, _, _, _, _]) rfl rfl rfl rfl sz_85 (k39) rfl ?_
              intro w10 hk10 hg10 hs10
              refine L.va rfl (X.assign (by conv => lhs; whnf)) ?_
              refine L.nil ?_
              refine J.ret ?_
              refine finCT rfl (run_cell hk10 Try.underlying85 rfl (by kernel_rfl)) ?_
              exact FIN w10 _ _ _ _ _ rfl rfl rfl rfl rfl hk10 hg10
          · refine L.caseBT (k := 39) rfl (by rfl) ?_
            refine L.no rfl ?_
            refine L.no rfl ?_
            refine L.va rfl (X.pickT rfl (by conv => lhs; whnf)) ?_
            refine L.va rfl (X.fieldAddr rfl Try.underlying85 rfl sz_4 (by decide)) ?_
            refine L.va rfl (X.load rfl sc_4 (by first | exact Ld.blk k19 rfl | exact Ld.blk k29 rfl | exact Ld.blk k69 rfl)) ?_
            refine L.va rfl (X.move (by conv => lhs; whnf)) ?_
            cases p4
            · refine L.caseBF (k := 45) rfl (by rfl) ?_
              refine L.va rfl (X.fieldAddr rfl Try.underlying85 rfl sz_4 (by decide)) ?_
              refine L.va rfl (X.load rfl sc_4 (by first | exact Ld.blk k19 rfl | exact Ld.blk k29 rfl | exact Ld.blk k69 rfl)) ?_
              refine L.va rfl (X.pickF rfl (by conv => lhs; whnf)) ?_
              refine L.va rfl (X.loadAgg rfl (range_l k69) Try.underlying80 rfl (by kernel_rfl)) ?_
              refine L.va rfl (sum05 (by conv => lhs; whnf) (by conv => lhs; whnf) (by conv => lhs; whnf) (by conv => lhs; whnf) (by conv => lhs; whnf) (by conv => lhs; whnf)) ?_
              refine L.storeAgg (vs := [_, _, _, _, _, _, _]) rfl rfl rfl rfl sz_85 (k39) rfl ?_
              intro w10 hk10 hg10 hs10
              refine L.va rfl (X.assign (by conv => lhs; whnf)) ?_
              refine L.nil ?_
              refine J.ret ?_
              refine finCT rfl (run_cell hk10 Try.underlying85 rfl (by kernel_rfl)) ?_
              exact FIN w10 _ _ _ _ _ rfl rfl rfl rfl rfl hk10 hg10
            · refine L.caseBT (k := 45) rfl (by rfl) ?_
              refine L.no rfl ?_
              refine L.no rfl ?_
              refine L.va rfl (X.pickT rfl (by conv => lhs; whnf)) ?_
              refine L.va rfl (X.loadAgg rfl (range_l k69) Try.underlying80 rfl (by kernel_rfl)) ?_
              refine L.va rfl (sum05 (by conv => lhs; whnf) (by conv => lhs; whnf) (by conv => lhs; whnf) (by conv => lhs; whnf) (by conv => lhs; whnf) (by conv => lhs; whnf)) ?_
              refine L.storeAgg (vs := [_, _, _, _, _, _, _]) rfl rfl rfl rfl sz_85 (k39) rfl ?_
              intro w10 hk10 hg10 hs10
              refine L.va rfl (X.assign (by conv => lhs; whnf)) ?_
              refine L.nil ?_
              refine J.ret ?_
              refine finCT rfl (run_cell hk10 Try.underlying85 rfl (by kernel_rfl)) ?_
              exact FIN w10 _ _ _ _ _ rfl rfl rfl rfl rfl hk10 hg10
      · refine L.caseBT (k := 27) rfl (by rfl) ?_
        refine L.no rfl ?_
        refine L.no rfl ?_
        refine L.va rfl (X.pickT rfl (by conv => lhs; whnf)) ?_
        refine L.va rfl (X.fieldAddr rfl Try.underlying85 rfl sz_4 (by decide)) ?_
        refine L.va rfl (X.load rfl sc_4 (by first | exact Ld.blk k19 rfl | exact Ld.blk k29 rfl | exact Ld.blk k69 rfl)) ?_
        refine L.va rfl (X.move (by conv => lhs; whnf)) ?_
        cases p2
        · refine L.caseBF (k := 33) rfl (by rfl) ?_
          refine L.va rfl (X.fieldAddr rfl Try.underlying85 rfl sz_4 (by decide)) ?_
          refine L.va rfl (X.load rfl sc_4 (by first | exact Ld.blk k19 rfl | exact Ld.blk k29 rfl | exact Ld.blk k69 rfl)) ?_
          refine L.va rfl (X.pickF rfl (by conv => lhs; whnf)) ?_
          refine L.va rfl (X.fieldAddr rfl Try.underlying85 rfl sz_4 (by decide)) ?_
          refine L.va rfl (X.load rfl sc_4 (by first | exact Ld.blk k19 rfl | exact Ld.blk k29 rfl | exact Ld.blk k69 rfl)) ?_
          refine L.va rfl (X.move (by conv => lhs; whnf)) ?_
          cases p3
          · refine L.caseBF (k := 39) rfl (by rfl) ?_
            refine L.va rfl (X.fieldAddr rfl Try.underlying85 rfl sz_4 (by decide)) ?_
            refine L.va rfl (X.load rfl sc_4 (by first | exact Ld.blk k19 rfl | exact Ld.blk k29 rfl | exact Ld.blk k69 rfl)) ?_
            refine L.va rfl (X.pickF rfl (by conv => lhs; whnf)) ?_
            refine L.va rfl (X.fieldAddr rfl Try.underlying85 rfl sz_4 (by decide)) ?_
            refine L.va rfl (X.load rfl sc_4 (by first | exact Ld.blk k19 rfl | exact Ld.blk k29 rfl | exact Ld.blk k69 rfl)) ?_
            refine L.va rfl (X.move (by conv => lhs; whnf)) ?_
            cases p4
            · refine L.caseBF (k := 45) rfl (by rfl) ?_
              refine L.va rfl (X.fieldAddr rfl Try.underlying85 rfl sz_4 (by decide)) ?_
              refine L.va rfl (X.load rfl sc_4 (by first | exact Ld.blk k19 rfl | exact Ld.blk k29 rfl | exact Ld.blk k69 rfl)) ?_
              refine L.va rfl (X.pickF rfl (by conv => lhs; whnf)) ?_
              refine L.va rfl (X.loadAgg rfl (range_l k69) Try.underlying80 rfl (by kernel_rfl)) ?_
              refine L.va rfl (sum05 (by conv => lhs; whnf) (by conv => lhs; whnf) (by conv => lhs; whnf) (by conv => lhs; whnf) (by conv => lhs; whnf) (by conv => lhs; whnf)) ?_
              refine L.storeAgg (vs := [_, _, _, _, _, _, _]) rfl rfl rfl rfl sz_85 (k39) rfl ?_
              intro w10 hk10 hg10 hs10
              refine L.va rfl (X.assign (by conv => lhs; whnf)) ?_
              refine L.nil ?_
              refine J.ret ?_
              refine finCT rfl (run_cell hk10 Try.underlying85 rfl (by kernel_rfl)) ?_
              exact FIN w10 _ _ _ _ _ rfl rfl rfl rfl rfl hk10 hg10
            · refine L.caseBT (k := 45) rfl (by rfl) ?_
              refine L.no rfl ?_
              refine L.no rfl ?_
              refine L.va rfl (X.pickT rfl (by conv => lhs; whnf)) ?_
              refine L.va rfl (X.loadAgg rfl (range_l k69) Try.underlying80 rfl (by kernel_rfl)) ?_
              refine L.va rfl (sum05 (by conv => lhs; whnf) (by conv => lhs; whnf) (by conv => lhs; whnf) (by conv => lhs; whnf) (by conv => lhs; whnf) (by conv => lhs; whnf)) ?_
              refine L.storeAgg (vs := [_, _, _, _, _, _, _]) rfl rfl rfl rfl sz_85 (k39) rfl ?_
              intro w10 hk10 hg10 hs10
              refine L.va rfl (X.assign (by conv => lhs; whnf)) ?_
              refine L.nil ?_
              refine J.ret ?_
              refine finCT rfl (run_cell hk10 Try.underlying85 rfl (by kernel_rfl)) ?_
              exact FIN w10 _ _ _ _ _ rfl rfl rfl rfl rfl hk10 hg10
          · refine L.caseBT (k := 39) rfl (by rfl) ?_
            refine L.no rfl ?_
            refine L.no rfl ?_
            refine L.va rfl (X.pickT rfl (by conv => lhs; whnf)) ?_
            refine L.va rfl (X.fieldAddr rfl Try.underlying85 rfl sz_4 (by decide)) ?_
            refine L.va rfl (X.load rfl sc_4 (by first | exact Ld.blk k19 rfl | exact Ld.blk k29 rfl | exact Ld.blk k69 rfl)) ?_
            refine L.va rfl (X.move (by conv => lhs; whnf)) ?_
            cases p4
            · refine L.caseBF (k := 45) rfl (by rfl) ?_
              refine L.va rfl (X.fieldAddr rfl Try.underlying85 rfl sz_4 (by decide)) ?_
              refine L.va rfl (X.load rfl sc_4 (by first | exact Ld.blk k19 rfl | exact Ld.blk k29 rfl | exact Ld.blk k69 rfl)) ?_
              refine L.va rfl (X.pickF rfl (by conv => lhs; whnf)) ?_
              refine L.va rfl (X.loadAgg rfl (range_l k69) Try.underlying80 rfl (by kernel_rfl)) ?_
              refine L.va rfl (sum05 (by conv => lhs; whnf) (by conv => lhs; whnf) (by conv => lhs; whnf) (by conv => lhs; whnf) (by conv => lhs; whnf) (by conv => lhs; whnf)) ?_
              refine L.storeAgg (vs := [_, _, _, _, _, _, _]) rfl rfl rfl rfl sz_85 (k39) rfl ?_
              intro w10 hk10 hg10 hs10
              refine L.va rfl (X.assign (by conv => lhs; whnf)) ?_
              refine L.nil ?_
              refine J.ret ?_
              refine finCT rfl (run_cell hk10 Try.underlying85 rfl (by kernel_rfl)) ?_
              exact FIN w10 _ _ _ _ _ rfl rfl rfl rfl rfl hk10 hg10
            · refine L.caseBT (k := 45) rfl (by rfl) ?_
              refine L.no rfl ?_
              refine L.no rfl ?_
              refine L.va rfl (X.pickT rfl (by conv => lhs; whnf)) ?_
              refine L.va rfl (X.loadAgg rfl (range_l k69) Try.underlying80 rfl (by kernel_rfl)) ?_
              refine L.va rfl (sum05 (by conv => lhs; whnf) (by conv => lhs; whnf) (by conv => lhs; whnf) (by conv => lhs; whnf) (by conv => lhs; whnf) (by conv => lhs; whnf)) ?_
              refine L.storeAgg (vs := [_, _, _, _, _, _, _]) rfl rfl rfl rfl sz_85 (k39) rfl ?_
              intro w10 hk10 hg10 hs10
              refine L.va rfl (X.assign (by conv => lhs; whnf)) ?_
              refine L.nil ?_
              refine J.ret ?_
              refine finCT rfl (run_cell hk10 Try.underlying85 rfl (by kernel_rfl)) ?_
              exact FIN w10 _ _ _ _ _ rfl rfl rfl rfl rfl hk10 hg10
        · refine L.caseBT (k := 33) rfl (by rfl) ?_
          refine L.no rfl ?_
          refine L.no rfl ?_
          refine L.va rfl (X.pickT rfl (by conv => lhs; whnf)) ?_
          refine L.va rfl (X.fieldAddr rfl Try.underlying85 rfl sz_4 (by decide)) ?_
          refine L.va rfl (X.load rfl sc_4 (by first | exact Ld.blk k19 rfl | exact Ld.blk k29 rfl | exact Ld.blk k69 rfl)) ?_
          refine L.va rfl (X.move (by conv => lhs; whnf)) ?_
          cases p3
          · refine L.caseBF (k := 39) rfl (by rfl) ?_
            refine L.va rfl (X.fieldAddr rfl Try.underlying85 rfl sz_4 (by decide)) ?_
            refine L.va rfl (X.load rfl sc_4 (by first | exact Ld.blk k19 rfl | exact Ld.blk k29 rfl | exact Ld.blk k69 rfl)) ?_
            refine L.va rfl (X.pickF rfl (by conv => lhs; whnf)) ?_
            refine L.va rfl (X.fieldAddr rfl Try.underlying85 rfl sz_4 (by decide)) ?_
            refine L.va rfl (X.load rfl sc_4 (by first | exact Ld.blk k19 rfl | exact Ld.blk k29 rfl | exact Ld.blk k69 rfl)) ?_
            refine L.va rfl (X.move (by conv => lhs; whnf)) ?_
            cases p4
            · refine L.caseBF (k := 45) rfl (by rfl) ?_
              refine L.va rfl (X.fieldAddr rfl Try.underlying85 rfl sz_4 (by decide)) ?_
              refine L.va rfl (X.load rfl sc_4 (by first | exact Ld.blk k19 rfl | exact Ld.blk k29 rfl | exact Ld.blk k69 rfl)) ?_
              refine L.va rfl (X.pickF rfl (by conv => lhs; whnf)) ?_
              refine L.va rfl (X.loadAgg rfl (range_l k69) Try.underlying80 rfl (by kernel_rfl)) ?_
              refine L.va rfl (sum05 (by conv => lhs; whnf) (by conv => lhs; whnf) (by conv => lhs; whnf) (by conv => lhs; whnf) (by conv => lhs; whnf) (by conv => lhs; whnf)) ?_
              refine L.storeAgg (vs := [_, _, _, _, _, _, _]) rfl rfl rfl rfl sz_85 (k39) rfl ?_
              intro w10 hk10 hg10 hs10
              refine L.va rfl (X.assign (by conv => lhs; whnf)) ?_
              refine L.nil ?_
              refine J.ret ?_
              refine finCT rfl (run_cell hk10 Try.underlying85 rfl (by kernel_rfl)) ?_
              exact FIN w10 _ _ _ _ _ rfl rfl rfl rfl rfl hk10 hg10
            · refine L.caseBT (k := 45) rfl (by rfl) ?_
              refine L.no rfl ?_
              refine L.no rfl ?_
              refine L.va rfl (X.pickT rfl (by conv => lhs; whnf)) ?_
              refine L.va rfl (X.loadAgg rfl (range_l k69) Try.underlying80 rfl (by kernel_rfl)) ?_
              refine L.va rfl (sum05 (by conv => lhs; whnf) (by conv => lhs; whnf) (by conv => lhs; whnf) (by conv => lhs; whnf) (by conv => lhs; whnf) (by conv => lhs; whnf)) ?_
              refine L.storeAgg (vs := [_, _, _, _, _, _, _]) rfl rfl rfl rfl sz_85 (k39) rfl ?_
              intro w10 hk10 hg10 hs10
              refine L.va rfl (X.assign (by conv => lhs; whnf)) ?_
              refine L.nil ?_
              refine J.ret ?_
              refine finCT rfl (run_cell hk10 Try.underlying85 rfl (by kernel_rfl)) ?_
              exact FIN w10 _ _ _ _ _ rfl rfl rfl rfl rfl hk10 hg10
          · refine L.caseBT (k := 39) rfl (by rfl) ?_
            refine L.no rfl ?_
            refine L.no rfl ?_
            refine L.va rfl (X.pickT rfl (by conv => lhs; whnf)) ?_
            refine L.va rfl (X.fieldAddr rfl Try.underlying85 rfl sz_4 (by decide)) ?_
            refine L.va rfl (X.load rfl sc_4 (by first | exact Ld.blk k19 rfl | exact Ld.blk k29 rfl | exact Ld.blk k69 rfl)) ?_
            refine L.va rfl (X.move (by conv => lhs; whnf)) ?_
            cases p4
            · refine L.caseBF (k := 45) rfl (by rfl) ?_
              refine L.va rfl (X.fieldAddr rfl Try.underlying85 rfl sz_4 (by decide)) ?_
              refine L.va rfl (X.load rfl sc_4 (by first | exact Ld.blk k19 rfl | exact Ld.blk k29 rfl | exact Ld.blk k69 rfl)) ?_
              refine L.va rfl (X.pickF rfl (by conv => lhs; whnf)) ?_
              refine L.va rfl (X.loadAgg rfl (range_l k69) Try.underlying80 rfl (by kernel_rfl)) ?_
              refine L.va rfl (sum05 (by conv => lhs; whnf) (by conv => lhs; whnf) (by conv => lhs; whnf) (by conv => lhs; whnf) (by conv => lhs; whnf) (by conv => lhs; whnf)) ?_
              refine L.storeAgg (vs := [_, _, _, _, _, _, _]) rfl rfl rfl rfl sz_85 (k39) rfl ?_
              intro w10 hk10 hg10 hs10
              refine L.va rfl (X.assign (by conv => lhs; whnf)) ?_
              refine L.nil ?_
              refine J.ret ?_
              refine finCT rfl (run_cell hk10 Try.underlying85 rfl (by kernel_rfl)) ?_
              exact FIN w10 _ _ _ _ _ rfl rfl rfl rfl rfl hk10 hg10
            · refine L.caseBT (k := 45) rfl (by rfl) ?_
              refine L.no rfl ?_
              refine L.no rfl ?_
              refine L.va rfl (X.pickT rfl (by conv => lhs; whnf)) ?_
              refine L.va rfl (X.loadAgg rfl (range_l k69) Try.underlying80 rfl (by kernel_rfl)) ?_
              refine L.va rfl (sum05 (by conv => lhs; whnf) (by conv => lhs; whnf) (by conv => lhs; whnf) (by conv => lhs; whnf) (by conv => lhs; whnf) (by conv => lhs; whnf)) ?_
              refine L.storeAgg (vs := [_, _, _, _, _, _, _]) rfl rfl rfl rfl sz_85 (k39) rfl ?_
              intro w10 hk10 hg10 hs10
              refine L.va rfl (X.assign (by conv => lhs; whnf)) ?_
              refine L.nil ?_
              refine J.ret ?_
              refine finCT rfl (run_cell hk10 Try.underlying85 rfl (by kernel_rfl)) ?_
              exact FIN w10 _ _ _ _ _ rfl rfl rfl rfl rfl hk10 hg10
end Go.Proofs.Ytnndkepnabddgaa
namespace Go.Proofs.Ytnndkepnabddgaa
set_option maxRecDepth 100000
open Go.RowKit H
open Num
set_option linter.unusedVariables false
def hdB (p0 p1 p2 p3 p4 g : Bool) : Int := fb p0 1 + fb p1 2 + fb p2 4 + fb p3 8 + fb p4 16 + fb g 32
theorem hdB_bd (p0 p1 p2 p3 p4 g : Bool) : 0 ≤ hdB p0 p1 p2 p3 p4 g ∧ hdB p0 p1 p2 p3 p4 g ≤ 63 := by
  unfold hdB fb
  cases p0 <;> cases p1 <;> cases p2 <;> cases p3 <;> cases p4 <;> cases g <;> decide
theorem hd_not : ∀ m : Nat, m < 64 → bits .andNot .u8 (m : Int) 32 = ((m % 32 : Nat) : Int) := by decide
abbrev bt (m k : Nat) : Bool := decide (m / k % 2 = 1)
theorem hd_or : ∀ m : Nat, m < 32 → ∀ n : Nat, n < 32 → m ||| n = (if bt m 1 || bt n 1 then 1 else 0) + (if bt m 2 || bt n 2 then 2 else 0) + (if bt m 4 || bt n 4 then 4 else 0) + (if bt m 8 || bt n 8 then 8 else 0) + (if bt m 16 || bt n 16 then 16 else 0) := by decide
theorem hd_top : ∀ c : Nat, c < 32 → bits .or .u8 (c : Int) 32 = ((c + 32 : Nat) : Int) := by decide
theorem bt_mod {m k : Nat} (hk : k = 1 ∨ k = 2 ∨ k = 4 ∨ k = 8 ∨ k = 16) : bt (m % 32) k = bt m k := by
  unfold bt
  rcases hk with rfl | rfl | rfl | rfl | rfl <;> (apply decide_eq_decide.2; omega)
theorem fb_nat (p : Bool) (k : Nat) : fb p (k : Int) = ((if p then k else 0 : Nat) : Int) := by unfold fb; cases p <;> rfl
theorem hdB_eq {a b : Int} (ha : 0 ≤ a ∧ a < 64) (hb : 0 ≤ b ∧ b < 64) (g : Bool) : hdB (decide (a % 2 = 1) || decide (b % 2 = 1)) (decide (a / 2 % 2 = 1) || decide (b / 2 % 2 = 1)) (decide (a / 4 % 2 = 1) || decide (b / 4 % 2 = 1)) (decide (a / 8 % 2 = 1) || decide (b / 8 % 2 = 1)) (decide (a / 16 % 2 = 1) || decide (b / 16 % 2 = 1)) g = if g then bits .or .u8 (bits .or .u8 (bits .andNot .u8 a 32) (bits .andNot .u8 b 32)) 32 else bits .or .u8 (bits .andNot .u8 a 32) (bits .andNot .u8 b 32) := by
  obtain ⟨m, rfl⟩ := Int.eq_ofNat_of_zero_le ha.1
  obtain ⟨n, rfl⟩ := Int.eq_ofNat_of_zero_le hb.1
  rw [hd_not m (by omega), hd_not n (by omega), u8_or_nat _ _ (by omega) (by omega)]
  have h := hd_or (m % 32) (by omega) (n % 32) (by omega)
  simp only [bt_mod (Or.inl rfl), bt_mod (Or.inr (Or.inl rfl)), bt_mod (Or.inr (Or.inr (Or.inl rfl))), bt_mod (Or.inr (Or.inr (Or.inr (Or.inl rfl)))), bt_mod (Or.inr (Or.inr (Or.inr (Or.inr rfl))))] at h
  have e0 : ∀ m : Nat, decide ((m : Int) % 2 = 1) = bt m 1 := fun m => by unfold bt; apply decide_eq_decide.2; omega
  have e1 : ∀ m : Nat, decide ((m : Int) / 2 % 2 = 1) = bt m 2 := fun m => by unfold bt; apply decide_eq_decide.2; omega
  have e2 : ∀ m : Nat, decide ((m : Int) / 4 % 2 = 1) = bt m 4 := fun m => by unfold bt; apply decide_eq_decide.2; omega
  have e3 : ∀ m : Nat, decide ((m : Int) / 8 % 2 = 1) = bt m 8 := fun m => by unfold bt; apply decide_eq_decide.2; omega
  have e4 : ∀ m : Nat, decide ((m : Int) / 16 % 2 = 1) = bt m 16 := fun m => by unfold bt; apply decide_eq_decide.2; omega
  rw [e0, e0, e1, e1, e2, e2, e3, e3, e4, e4]
  have hc : (m % 32 ||| n % 32) < 32 := by
    rw [h]
    split <;> split <;> split <;> split <;> split <;> omega
  have hs : hdB (bt m 1 || bt n 1) (bt m 2 || bt n 2) (bt m 4 || bt n 4) (bt m 8 || bt n 8) (bt m 16 || bt n 16) g = ((m % 32 ||| n % 32 : Nat) : Int) + fb g 32 := by
    unfold hdB
    rw [h, show (1 : Int) = ((1 : Nat) : Int) from rfl, show (2 : Int) = ((2 : Nat) : Int) from rfl, show (4 : Int) = ((4 : Nat) : Int) from rfl, show (8 : Int) = ((8 : Nat) : Int) from rfl, show (16 : Int) = ((16 : Nat) : Int) from rfl, fb_nat, fb_nat, fb_nat, fb_nat, fb_nat]
    simp only [Int.natCast_add]
  rw [hs]
  cases g
  · show _ + 0 = _
    rw [Int.add_zero]
    rfl
  · rw [if_pos rfl, hd_top _ hc]
    rfl
theorem rbytes05 (p0 p1 p2 p3 p4 : Bool) (t : Nu) {w : World} {N : Nat} (hN : N ≤ w.heap.size) (ht : t.At N w) (hs : t.n ≤ 50000) (hl : (Wd.wds (dv t.d).toNat).length ≤ 100) : Calls Try.prog 41 #[.agg (sV p0 p1 p2 p3 p4 t).toArray] w fun e w' => ∃ (z : Nat) (A' : Option Addr) (c' : Nat) (o : List Int), LowN (Wd.wds (dv t.d).toNat) z ∧ e = .returned (.slice A' o.length c') ∧ o = [hdB p0 p1 p2 p3 p4 t.g, (z : Int), (((Wd.wds (dv t.d).toNat).length - z : Nat) : Int)] ++ ((Wd.wds (dv t.d).toNat).drop z).reverse.flatMap be4 ∧ w'.ownsRow w.heap.size 5 1 (.slice A' o.length c') o.length (nums .u8 o) ∧ Ext w w' := by
  obtain ⟨W, hW⟩ : ∃ W, W = Wd.wds (dv t.d).toNat := ⟨_, rfl⟩
  rw [← hW] at hl ⊢
  have dW : Wd.DigW W := by rw [hW]; exact Wd.wds_dig _
  have cW : Wd.CanW W := by rw [hW]; exact Wd.wds_can _
  have hb := hdB_bd p0 p1 p2 p3 p4 t.g
  have fbd : ∀ (p : Bool) (n : Int), 0 ≤ n → 0 ≤ fb p n ∧ fb p n ≤ n := fun p n h => by unfold fb; cases p <;> simp <;> omega
  have f0 := fbd p0 1 (by decide)
  have f1 := fbd p1 2 (by decide)
  have f2 := fbd p2 4 (by decide)
  have f3 := fbd p3 8 (by decide)
  have f4 := fbd p4 16 (by decide)
  have f5 := fbd t.g 32 (by decide)
  refine enter Try.func41 rfl (by kernel_rfl) ?_
  refine J.seq ?_
  refine J.region ?_
  refine L.boxA (l := [_, _, _, _, _, _, _]) rfl rfl ?_
  intro b1 w1 hb1 hs1 hk1 he1
  have hk1 : Blk w1 b1 85 (sV p0 p1 p2 p3 p4 t).toArray := hk1
  have z1 := he1.le
  refine L.va rfl (X.assign (by conv => lhs; whnf)) ?_
  refine L.nil ?_
  refine J.seq ?_
  refine J.region ?_
  refine L.va rfl (X.fieldAddr rfl Try.underlying85 rfl sz_80 (by decide)) ?_
  refine L.va rfl (X.fieldAddr rfl Try.underlying80 rfl sz_35 (by decide)) ?_
  refine L.va rfl (X.load rfl sc_35 (by first | exact Ld.blk hk1 rfl)) ?_
  refine L.va rfl (X.build (l := [.bool false, .slice t.A t.n t.c]) (Evs.cons (by conv => lhs; whnf) Evs.nil) (bld_run Try.underlying80 (bp_80 Try.underlying80) zr_80 (by simp [Instr.fill, Value.cells]))) ?_
  have c2 := rof02 (x := t.ab) (w := w1) (N := N) (by omega) (ht.ext he1).ab hs
  refine L.call rfl en_38 rfl (c2) ?_
  rintro e w2 ⟨A, l, c, rfl, hlW, ho2, he2⟩
  refine ⟨_, rfl, ?_⟩
  have hlW : l = W := hlW.trans hW.symm
  subst hlW
  have he2 : Ext w1 w2 := he2
  have he02 := he1.trans he2
  have hk2 := hk1.ext he2
  have z2 := he02.le
  have hrl := Reads.of_own ho2
  refine L.va rfl (X.assign (by conv => lhs; whnf)) ?_
  refine L.nil ?_
  refine J.seq ?_
  refine J.region ?_
  refine L.va rfl (X.assign (by conv => lhs; whnf)) ?_
  refine L.nil ?_
  refine J.cut (X := Nat) [4, 12, 13, 14, 15, 16, 17, 18, 19, 20, 21, 22, 23, 24] (fun z => [(4, .int .i64 (z : Int))]) (fun z w' => LowN l z ∧ w2 = w') ?_ ?_
  · refine J.block ?_
    refine J.loop (X := Nat) [4, 12, 13, 14, 15, 16, 17, 18, 19, 20, 21, 22, 23, 24] (fun z => [(4, .int .i64 (z : Int))]) (fun z w' => z ≤ l.length ∧ (∀ j, j < z → l.getD j 0 = 0) ∧ w2 = w') (fun z => l.length - z) (0) (At1 (by first | rfl | exact at_int rfl (by omega) | exact at_slice rfl (by omega) | exact at_int rfl (by simp))) ?_ ?_
    · exact ⟨Nat.zero_le _, fun j hj => absurd hj (by omega), rfl⟩
    · rintro z g w3 ⟨hz, hzz, rfl⟩
      refine J.seq ?_
      refine J.seq ?_
      refine J.region ?_
      refine L.va rfl (X.move (by conv => lhs; whnf)) ?_
      refine L.va rfl (X.move (by conv => lhs; whnf)) ?_
      refine L.va rfl (X.len rfl Try.underlying67) ?_
      refine L.va rfl (X.lss rfl rfl) ?_
      refine L.va rfl (X.move (by conv => lhs; whnf)) ?_
      refine L.caseDec (k := 16) rfl (fun h1 => ?_) (fun h1 => ?_)
      · have hA := own_ne ho2 (by omega)
        refine L.va rfl (X.move (by conv => lhs; whnf)) ?_
        refine L.va rfl (X.move (by conv => lhs; whnf)) ?_
        refine L.va rfl ((by first | exact X.index1n rfl rfl Try.underlying67 sz_96 (by first | exact Option.some_ne_none _ | exact hrl.some_ (by omega) | exact hA) (by omega) | exact X.index1 rfl rfl Try.underlying67 sz_96 (by first | exact Option.some_ne_none _ | exact hrl.some_ (by omega) | exact hA) (by omega))) ?_
        refine L.va rfl (X.load rfl sc_96 (by first | exact Ld.blk hk2 rfl | exact Ld.num hrl (by omega) | exact hA)) ?_
        refine L.va rfl (X.eql rfl rfl) ?_
        refine L.va rfl (X.pickT rfl (by conv => lhs; whnf)) ?_
        refine L.nil ?_
        refine J.dec rfl (fun h2 => ?_) (fun h2 => ?_)
        · refine J.skip ?_
          refine J.block ?_
          refine J.region ?_
          refine L.va rfl (X.move (by conv => lhs; whnf)) ?_
          refine L.va rfl (X.add rfl rfl (by omega)) ?_
          refine L.va rfl (X.assign (by conv => lhs; whnf)) ?_
          refine L.nil ?_
          refine ⟨z + 1, At1 (by first | rfl | exact at_int rfl (by omega) | exact at_slice rfl (by omega) | exact at_int rfl (by simp)), (by (iterate 15 refine Agr.lk rfl ?_); exact Agr.lk rfl (Agr.hav rfl Agr.rfl')), ?_⟩
          refine ⟨⟨by omega, fun j hj => ?_, rfl⟩, by omega⟩
          rcases Nat.lt_or_ge j z with h | h
          · exact hzz j h
          · obtain rfl : j = z := by omega
            exact h2
        · refine J.exit ?_
          refine ⟨z, At1 (by first | rfl | exact at_int rfl (by omega) | exact at_slice rfl (by omega) | exact at_int rfl (by simp)), (by (iterate 12 refine Agr.lk rfl ?_); refine Agr.lk rfl ?_; refine Agr.hav rfl ?_; exact Agr.rfl'), ?_⟩
          exact ⟨⟨hzz, .inl h2⟩, rfl⟩
      · have hzl : z = l.length := by omega
        have h0 : l.length = 0 := by
          apply Decidable.byContradiction
          intro h
          exact cW (by omega) (hzz _ (by omega))
        refine L.no rfl ?_
        refine L.no rfl ?_
        refine L.no rfl ?_
        refine L.no rfl ?_
        refine L.no rfl ?_
        refine L.va rfl (X.pickF rfl (by conv => lhs; whnf)) ?_
        refine L.nil ?_
        refine J.iteF rfl ?_
        refine J.exit ?_
        refine ⟨z, At1 (by first | rfl | exact at_int rfl (by omega) | exact at_slice rfl (by omega) | exact at_int rfl (by simp)), (by (iterate 12 refine Agr.lk rfl ?_); refine Agr.lk rfl ?_; refine Agr.hav rfl ?_; exact Agr.rfl'), ?_⟩
        refine ⟨⟨hzz, .inr ⟨by omega, fun j => ?_⟩⟩, rfl⟩
        rw [List.getD, List.getElem?_eq_none (by omega)]
        rfl
  · rintro z g w3 ⟨hz, rfl⟩
    have hzl := hz.le
    obtain ⟨h0, eh0⟩ : ∃ h0, h0 = [hdB p0 p1 p2 p3 p4 t.g, (z : Int), ((l.length - z : Nat) : Int)] := ⟨_, rfl⟩
    have l0 : h0.length = 3 := by rw [eh0]; rfl
    refine J.cut (X := Nat) [5, 25, 26, 27, 28, 29, 30, 31, 32, 33, 34, 35, 36, 37, 38, 39, 40, 41, 42, 43, 44, 45, 46, 47, 48, 49, 50, 51, 52, 53, 54, 55, 56, 57] (fun b => [(5, .slice (some ⟨b, 0, none⟩) 3 3)]) (fun b w' => Blk w' b 5 (nums .u8 h0).toArray ∧ w2.heap.size ≤ b ∧ Ext w2 w') ?_ ?_
    ·
      refine J.draw (ℓ := 1000000) (S := Ext w2) mixed (fun w3 hS hS_h => ?_)
      refine D.va 0 rfl (by kernel_rfl) (fun _ _ _ h => h) rfl (fun w' hw => X.fieldAddr rfl Try.underlying85 rfl sz_4 (by decide)) hS ?_
      refine D.va 1 rfl (by kernel_rfl) (fun _ _ _ h => h) rfl (fun w' hw => X.load rfl sc_4 (by first | exact Ld.blk (hk2.ext hw) rfl | exact Ld.num (hrl.ext hw) (by omega))) hS ?_
      refine D.va 3 rfl (by kernel_rfl) (fun _ _ _ h => h) rfl (fun w' hw => X.fieldAddr rfl Try.underlying85 rfl sz_4 (by decide)) hS ?_
      refine D.va 4 rfl (by kernel_rfl) (fun _ _ _ h => h) rfl (fun w' hw => X.load rfl sc_4 (by first | exact Ld.blk (hk2.ext hw) rfl | exact Ld.num (hrl.ext hw) (by omega))) hS ?_
      refine D.va 7 rfl (by kernel_rfl) (fun _ _ _ h => h) rfl (fun w' hw => X.fieldAddr rfl Try.underlying85 rfl sz_4 (by decide)) hS ?_
      refine D.va 8 rfl (by kernel_rfl) (fun _ _ _ h => h) rfl (fun w' hw => X.load rfl sc_4 (by first | exact Ld.blk (hk2.ext hw) rfl | exact Ld.num (hrl.ext hw) (by omega))) hS ?_
      refine D.va 11 rfl (by kernel_rfl) (fun _ _ _ h => h) rfl (fun w' hw => X.fieldAddr rfl Try.underlying85 rfl sz_4 (by decide)) hS ?_
      refine D.va 12 rfl (by kernel_rfl) (fun _ _ _ h => h) rfl (fun w' hw => X.load rfl sc_4 (by first | exact Ld.blk (hk2.ext hw) rfl | exact Ld.num (hrl.ext hw) (by omega))) hS ?_
      refine D.va 15 rfl (by kernel_rfl) (fun _ _ _ h => h) rfl (fun w' hw => X.fieldAddr rfl Try.underlying85 rfl sz_4 (by decide)) hS ?_
      refine D.va 16 rfl (by kernel_rfl) (fun _ _ _ h => h) rfl (fun w' hw => X.load rfl sc_4 (by first | exact Ld.blk (hk2.ext hw) rfl | exact Ld.num (hrl.ext hw) (by omega))) hS ?_
      refine D.va 19 rfl (by kernel_rfl) (fun _ _ _ h => h) rfl (fun w' hw => X.fieldAddr rfl Try.underlying85 rfl sz_80 (by decide)) hS ?_
      refine D.va 20 rfl (by kernel_rfl) (fun _ _ _ h => h) rfl (fun w' hw => X.fieldAddr rfl Try.underlying80 rfl sz_4 (by decide)) hS ?_
      refine D.va 21 rfl (by kernel_rfl) (fun _ _ _ h => h) rfl (fun w' hw => X.load rfl sc_4 (by first | exact Ld.blk (hk2.ext hw) rfl | exact Ld.num (hrl.ext hw) (by omega))) hS ?_
      refine D.va 25 rfl (by kernel_rfl) (fun _ _ _ h => h) rfl (fun w' hw => X.move (by conv => lhs; whnf)) hS ?_
      refine D.va 26 rfl (by kernel_rfl) (fun _ _ _ h => h) rfl (fun w' hw => (by first | exact X.conv8 rfl is_3 Try.underlying5 (by omega) | exact X.convw rfl is_3 Try.underlying5)) hS ?_
      refine D.va 27 rfl (by kernel_rfl) (fun _ _ _ h => h) rfl (fun w' hw => X.move (by conv => lhs; whnf)) hS ?_
      refine D.va 28 rfl (by kernel_rfl) (fun _ _ _ h => h) rfl (fun w' hw => X.len rfl Try.underlying67) hS ?_
      refine D.va 29 rfl (by kernel_rfl) (fun _ _ _ h => h) rfl (fun w' hw => X.move (by conv => lhs; whnf)) hS ?_
      refine D.va 30 rfl (by kernel_rfl) (fun _ _ _ h => h) rfl (fun w' hw => X.sub rfl rfl (by omega)) hS ?_
      refine D.va 31 rfl (by kernel_rfl) (fun _ _ _ h => h) rfl (fun w' hw => (by first | exact X.conv8 rfl is_3 Try.underlying5 (by omega) | exact X.convw rfl is_3 Try.underlying5)) hS ?_
      refine D.call 2 rfl (by kernel_rfl) (fun _ _ _ h => h) rfl en_70 rfl (fun w' hw => rflag _ _ w') hS ?_
      refine D.call 5 rfl (by kernel_rfl) (fun _ _ _ h => h) rfl en_70 rfl (fun w' hw => rflag _ _ w') hS ?_
      refine D.va 6 rfl (by kernel_rfl) (fun _ _ _ h => h) rfl (fun w' hw => X.add rfl rfl (by omega)) hS ?_
      refine D.call 9 rfl (by kernel_rfl) (fun _ _ _ h => h) rfl en_70 rfl (fun w' hw => rflag _ _ w') hS ?_
      refine D.va 10 rfl (by kernel_rfl) (fun _ _ _ h => h) rfl (fun w' hw => X.add rfl rfl (by omega)) hS ?_
      refine D.call 13 rfl (by kernel_rfl) (fun _ _ _ h => h) rfl en_70 rfl (fun w' hw => rflag _ _ w') hS ?_
      refine D.va 14 rfl (by kernel_rfl) (fun _ _ _ h => h) rfl (fun w' hw => X.add rfl rfl (by omega)) hS ?_
      refine D.call 17 rfl (by kernel_rfl) (fun _ _ _ h => h) rfl en_70 rfl (fun w' hw => rflag _ _ w') hS ?_
      refine D.va 18 rfl (by kernel_rfl) (fun _ _ _ h => h) rfl (fun w' hw => X.add rfl rfl (by omega)) hS ?_
      refine D.call 22 rfl (by kernel_rfl) (fun _ _ _ h => h) rfl en_70 rfl (fun w' hw => rflag _ _ w') hS ?_
      unfold hdB at hb
      refine D.va 23 rfl (by kernel_rfl) (fun _ _ _ h => h) rfl (fun w' hw => X.add rfl rfl (by omega)) hS ?_
      refine D.va 24 rfl (by kernel_rfl) (fun _ _ _ h => h) rfl (fun w' hw => (by first | exact X.conv8 rfl is_3 Try.underlying5 (by omega) | exact X.convw rfl is_3 Try.underlying5)) hS ?_
      refine D.one 32 (by kernel_rfl) rfl ?_
      refine L.bslice (vs := [_, _, _]) rfl (Evs.cons (by conv => lhs; whnf) (Evs.cons (by conv => lhs; whnf) (Evs.cons (by conv => lhs; whnf) Evs.nil))) rfl rfl rfl rfl Try.underlying37 sz_5 zr_5 (by decide) ?_
      intro b4 w4 hb4 hs4 hk4 he4
      have hS1 := hS.trans he4
      refine L.nil ?_
      refine ⟨fun _ => hS1, ?_⟩
      have hk4 : Blk w4 b4 5 (nums .u8 h0).toArray := by
        rw [eh0]
        have e2 : (l.length : Int) - (z : Int) = ((l.length - z : Nat) : Int) := by omega
        rw [← e2]
        exact hk4
      have z4 := hS.le
      refine D.va 33 rfl (by kernel_rfl) (fun _ _ _ h => h) rfl (fun w' hw => X.assign (by conv => lhs; whnf)) hS1 ?_
      refine D.done (by kernel_rfl) ?_
      replace hk2 := hk2.ext hS1
      replace hrl := hrl.ext hS1
      refine ⟨b4, At1 (by first | rfl | exact at_int rfl (by omega) | exact at_slice rfl (by omega) | exact at_int rfl (by simp)), (by (iterate 34 refine Agr.lk rfl ?_); exact Agr.rfl'), ?_⟩
      exact ⟨hk4, by omega, hS1⟩
    · rintro b g w3 ⟨hk3, hb3, he3⟩
      have he03 := he02.trans he3
      have z3 := he3.le
      have hr3 := hrl.ext he3
      have hd3 : w3.ownsRow w2.heap.size 5 1 (.slice (some ⟨b, 0, none⟩) h0.length h0.length) h0.length (nums .u8 h0) := by
        have := blk_own1 (base := w2.heap.size) (q := h0.length) hk3 (by omega) (by unfold maxLen; omega) (by simp [nums])
        exact this
      refine J.seq ?_
      refine J.seq ?_
      refine J.region ?_
      refine L.va rfl (X.move (by conv => lhs; whnf)) ?_
      refine L.va rfl (X.len rfl Try.underlying67) ?_
      refine L.va rfl (X.sub rfl rfl (by omega)) ?_
      refine L.va rfl (X.assign (by conv => lhs; whnf)) ?_
      refine L.nil ?_
      refine J.block ?_
      refine J.loop (X := Nat × Option Addr × Nat × List Int) [5, 6, 61, 62, 63, 64, 65, 66, 67, 68, 69, 70, 71, 72, 73, 74, 75, 76, 77, 78, 79, 80, 81, 82, 83, 84, 85, 86, 87, 88, 89, 90, 91] (fun (k, B, oc, o) => [(6, .int .i64 ((k : Int) - 1)), (5, .slice B o.length oc)]) (fun (k, B, oc, o) w' => z ≤ k ∧ k ≤ l.length ∧ o = h0 ++ (l.drop k).reverse.flatMap be4 ∧ w'.ownsRow w2.heap.size 5 1 (.slice B o.length oc) o.length (nums .u8 o) ∧ Ext w2 w') (fun (k, _) => k) ((l.length, some ⟨b, 0, none⟩, 3, h0)) (At2 (by first | rfl | exact at_int rfl (by omega) | exact at_slice rfl (by omega) | exact at_int rfl (by simp)) (by first | rfl | exact at_int rfl (by omega) | exact at_slice rfl (by omega) | exact at_int rfl (by simp))) ?_ ?_
      · refine ⟨by omega, Nat.le_refl _, ?_, ?_, he3⟩
        · rw [List.drop_length]
          simp
        · rw [l0] at hd3 ⊢
          exact hd3
      · rintro ⟨k, B, oc, o⟩ g2 w4 ⟨hzk, hkn, ho, own, he⟩
        have z4 := he.le
        have hr4 := hrl.ext he
        refine J.seq ?_
        refine J.seq ?_
        refine J.region ?_
        refine L.va rfl (X.move (by conv => lhs; whnf)) ?_
        refine L.va rfl (X.move (by conv => lhs; whnf)) ?_
        refine L.va rfl (X.geq rfl rfl) ?_
        refine L.nil ?_
        refine J.dec rfl (fun h1 => ?_) (fun h1 => ?_)
        · obtain ⟨m, rfl⟩ : ∃ m, k = m + 1 := ⟨k - 1, by omega⟩
          have hA := hrl.some_ (by omega)
          have d0 := dW m
          have hol : o.length = 3 + 4 * (l.length - (m + 1)) := by rw [ho, List.length_append, be4_len, List.length_reverse, List.length_drop, l0]
          refine J.skip ?_
          refine J.seq ?_
          refine J.block ?_
          refine J.draw (ℓ := 1000000) (S := Below w2.heap.size w4) mixed (fun w5 hSE hS_h => ?_)
          have hS : (Below w2.heap.size w4) w5 := Below.mono hSE (by omega)
          have z5 := hSE.le
          refine D.va 0 rfl (by kernel_rfl) (fun _ _ _ h => h) rfl (fun w' hw => X.move (by conv => lhs; whnf)) hS ?_
          refine D.va 1 rfl (by kernel_rfl) (fun _ _ _ h => h) rfl (fun w' hw => X.move (by conv => lhs; whnf)) hS ?_
          refine D.va 2 rfl (by kernel_rfl) (fun _ _ _ h => h) rfl (fun w' hw => X.move (by conv => lhs; whnf)) hS ?_
          refine D.va 3 rfl (by kernel_rfl) (fun _ _ _ h => h) rfl (fun w' hw => X.index1e (j := m) rfl rfl (by omega) Try.underlying67 sz_96 hA (by omega)) hS ?_
          refine D.va 4 rfl (by kernel_rfl) (fun _ _ _ h => h) rfl (fun w' hw => X.load rfl sc_96 (by first | exact Ld.num (hr4.low hw (by omega)) (by omega))) hS ?_
          refine D.va 5 rfl (by kernel_rfl) (fun _ _ _ h => h) rfl (fun w' hw => X.shr rfl rfl (by omega)) hS ?_
          refine D.va 6 rfl (by kernel_rfl) (fun _ _ _ h => h) rfl (fun w' hw => (by first | exact X.conv8 rfl is_96 Try.underlying5 (by omega) | exact X.convw rfl is_96 Try.underlying5)) hS ?_
          refine D.va 7 rfl (by kernel_rfl) (fun _ _ _ h => h) rfl (fun w' hw => X.move (by conv => lhs; whnf)) hS ?_
          refine D.va 8 rfl (by kernel_rfl) (fun _ _ _ h => h) rfl (fun w' hw => X.move (by conv => lhs; whnf)) hS ?_
          refine D.va 9 rfl (by kernel_rfl) (fun _ _ _ h => h) rfl (fun w' hw => X.index1e (j := m) rfl rfl (by omega) Try.underlying67 sz_96 hA (by omega)) hS ?_
          refine D.va 10 rfl (by kernel_rfl) (fun _ _ _ h => h) rfl (fun w' hw => X.load rfl sc_96 (by first | exact Ld.num (hr4.low hw (by omega)) (by omega))) hS ?_
          refine D.va 11 rfl (by kernel_rfl) (fun _ _ _ h => h) rfl (fun w' hw => X.shr rfl rfl (by omega)) hS ?_
          refine D.va 12 rfl (by kernel_rfl) (fun _ _ _ h => h) rfl (fun w' hw => (by first | exact X.conv8 rfl is_96 Try.underlying5 (by omega) | exact X.convw rfl is_96 Try.underlying5)) hS ?_
          refine D.va 13 rfl (by kernel_rfl) (fun _ _ _ h => h) rfl (fun w' hw => X.move (by conv => lhs; whnf)) hS ?_
          refine D.va 14 rfl (by kernel_rfl) (fun _ _ _ h => h) rfl (fun w' hw => X.move (by conv => lhs; whnf)) hS ?_
          refine D.va 15 rfl (by kernel_rfl) (fun _ _ _ h => h) rfl (fun w' hw => X.index1e (j := m) rfl rfl (by omega) Try.underlying67 sz_96 hA (by omega)) hS ?_
          refine D.va 16 rfl (by kernel_rfl) (fun _ _ _ h => h) rfl (fun w' hw => X.load rfl sc_96 (by first | exact Ld.num (hr4.low hw (by omega)) (by omega))) hS ?_
          refine D.va 17 rfl (by kernel_rfl) (fun _ _ _ h => h) rfl (fun w' hw => X.shr rfl rfl (by omega)) hS ?_
          refine D.va 18 rfl (by kernel_rfl) (fun _ _ _ h => h) rfl (fun w' hw => (by first | exact X.conv8 rfl is_96 Try.underlying5 (by omega) | exact X.convw rfl is_96 Try.underlying5)) hS ?_
          refine D.va 19 rfl (by kernel_rfl) (fun _ _ _ h => h) rfl (fun w' hw => X.move (by conv => lhs; whnf)) hS ?_
          refine D.va 20 rfl (by kernel_rfl) (fun _ _ _ h => h) rfl (fun w' hw => X.move (by conv => lhs; whnf)) hS ?_
          refine D.va 21 rfl (by kernel_rfl) (fun _ _ _ h => h) rfl (fun w' hw => X.index1e (j := m) rfl rfl (by omega) Try.underlying67 sz_96 hA (by omega)) hS ?_
          refine D.va 22 rfl (by kernel_rfl) (fun _ _ _ h => h) rfl (fun w' hw => X.load rfl sc_96 (by first | exact Ld.num (hr4.low hw (by omega)) (by omega))) hS ?_
          refine D.va 23 rfl (by kernel_rfl) (fun _ _ _ h => h) rfl (fun w' hw => (by first | exact X.conv8 rfl is_96 Try.underlying5 (by omega) | exact X.convw rfl is_96 Try.underlying5)) hS ?_
          refine D.one 24 (by kernel_rfl) rfl ?_
          refine L.bslice (vs := [_, _, _, _]) rfl (Evs.cons (by conv => lhs; whnf) (Evs.cons (by conv => lhs; whnf) (Evs.cons (by conv => lhs; whnf) (Evs.cons (by conv => lhs; whnf) Evs.nil)))) rfl rfl rfl rfl Try.underlying37 sz_5 zr_5 (by decide) ?_
          intro b6 w6 hb6 hs6 hk6 he6
          have hS1 := hS.trans (Below.mono he6 (by omega))
          refine L.nil ?_
          refine ⟨fun _ => hS1, ?_⟩
          have hk6 : Blk w6 b6 5 (nums .u8 (be4 (l.getD m 0))).toArray := by
            unfold be4
            rw [← wrap8e, ← wrap8e, ← wrap8e, ← wrap8e]
            exact hk6
          have ho6 := own.ext (hSE.trans he6)
          have z6 := (hSE.trans he6).le
          refine D.one 25 (by kernel_rfl) rfl ?_
          refine L.appendQ (q := o.length + 4) (ys := o ++ be4 (l.getD m 0)) rfl rfl rfl Try.underlying37 el_5 (ho6) ((blk_reads (q := 4) (l := nums .u8 (be4 (l.getD m 0))) hk6 hk6.lt rfl)) (by omega) (by simp) (by unfold maxLen; omega) (by omega) ?_
          intro B7 c7 w7 ho7 hg7 hb7 hor7
          have hS2 := hS1.trans hb7
          refine L.nil ?_
          refine ⟨fun _ => hS2, ?_⟩
          have he7 : Ext w2 w7 := ((he.trans hSE).trans he6).grw hg7 (fun g hg => (ho6.lt g hg).1)
          have el : (o ++ be4 (l.getD m 0)).length = o.length + 4 := by rw [List.length_append]; rfl
          refine D.va 26 rfl (by kernel_rfl) (fun _ _ _ h => h) rfl (fun w' hw => X.assign (by conv => lhs; whnf)) hS2 ?_
          refine D.done (by kernel_rfl) ?_
          replace hr4 := hr4.low hS2 (by omega)
          refine J.region ?_
          refine L.va rfl (X.move (by conv => lhs; whnf)) ?_
          refine L.va rfl (X.sub rfl rfl (by omega)) ?_
          refine L.va rfl (X.assign (by conv => lhs; whnf)) ?_
          refine L.nil ?_
          refine ⟨(m, B7, c7, o ++ be4 (l.getD m 0)), At2 (at_int rfl (by omega)) (at_slice rfl el.symm), (by (iterate 33 refine Agr.lk rfl ?_); exact Agr.lk rfl (Agr.hav rfl Agr.rfl')), ?_⟩
          refine ⟨⟨by omega, by omega, ?_, by rw [el]; exact ho7, he7⟩, by show m < m + 1; omega⟩
          rw [sumB_next (by omega), ho, List.append_assoc]
        · obtain rfl : k = z := by omega
          refine J.exit ?_
          refine J.seq ?_
          refine J.region ?_
          refine L.va rfl (X.move (by conv => lhs; whnf)) ?_
          refine L.va rfl (X.assign (by conv => lhs; whnf)) ?_
          refine L.nil ?_
          refine J.ret ?_
          refine fin1 ?_
          exact ⟨k, B, oc, o, hz, rfl, by rw [ho, eh0], own_lowN own z2, he02.trans he⟩
end Go.Proofs.Ytnndkepnabddgaa
namespace Go.Proofs.Ytnndkepnabddgaa
set_option maxRecDepth 100000
open Go.RowKit H
open Num Exa
set_option linter.unusedVariables false
structure K4 (b1 t1 : Nat) (v1 : Array Value) (b2 t2 : Nat) (v2 : Array Value) (b3 t3 : Nat) (v3 : Array Value) (b4 t4 : Nat) (v4 : Array Value) (w w' : World) : Prop where
  a : Blk w' b1 t1 v1
  b : Blk w' b2 t2 v2
  c : Blk w' b3 t3 v3
  d : Blk w' b4 t4 v4
  e : Ext w w'
section
variable {b1 t1 b2 t2 b3 t3 b4 t4 : Nat} {v1 v2 v3 v4 : Array Value} {w w1 w2 : World}
theorem K4.ext (h : K4 b1 t1 v1 b2 t2 v2 b3 t3 v3 b4 t4 v4 w w1) (he : Ext w1 w2) : K4 b1 t1 v1 b2 t2 v2 b3 t3 v3 b4 t4 v4 w w2 := ⟨h.a.ext he, h.b.ext he, h.c.ext he, h.d.ext he, h.e.trans he⟩
theorem K4.row {e n sz : Nat} {v : Value} {xs : List Value} (h : K4 b1 t1 v1 b2 t2 v2 b3 t3 v3 b4 t4 v4 w w1) (ho : w1.ownsRow w.heap.size e sz v n xs) (hg : w1.grownBy w2 v.ownBlock) (hne : t1 ≠ e ∧ t2 ≠ e ∧ t3 ≠ e ∧ t4 ≠ e) : K4 b1 t1 v1 b2 t2 v2 b3 t3 v3 b4 t4 v4 w w2 :=
  have hC : TCh e w1 w2 := TCh.row ho hg
  ⟨hC.blk h.a hne.1, hC.blk h.b hne.2.1, hC.blk h.c hne.2.2.1, hC.blk h.d hne.2.2.2, h.e.grw hg (fun g hg => (ho.lt g hg).1)⟩
theorem K4.row2 {e n sz : Nat} {v : Value} {xs : List Value} (h : K4 b1 t1 v1 b2 t2 v2 b3 t3 v3 b4 t4 v4 w w1) (ho : w1.ownsRow w.heap.size e sz v n xs) (hg : w1.grownBy w2 v.ownBlock) (hne : t1 ≠ e ∧ t4 ≠ e) (hd : ∀ g, v.ownBlock = some g → g ≠ b2 ∧ g ≠ b3) : K4 b1 t1 v1 b2 t2 v2 b3 t3 v3 b4 t4 v4 w w2 :=
  have hC : TCh e w1 w2 := TCh.row ho hg
  ⟨hC.blk h.a hne.1, h.b.grown hg (fun e => (hd _ e.symm).1 rfl), h.c.grown hg (fun e => (hd _ e.symm).2 rfl), hC.blk h.d hne.2, h.e.grw hg (fun g hg => (ho.lt g hg).1)⟩
end
theorem neg_dec {b : List Int} (hb : InB 256 b) (h : readE b = 0) : negB b = decide (b.getD 0 0 / 32 = 1) := by
  have h0 := read_ok hb h
  have b0 := at_b hb 0
  have h1 := h0.1
  unfold H1 at h1
  unfold negB
  rw [and32 b0]
  have hl := h0.2.2.2.1
  generalize b.getD 0 0 = g at *
  rw [← decide_not]
  apply decide_eq_decide.2
  omega
theorem read_iv {b : List Int} (hb : InB 256 b) (h : readE b = 0) {t : Nu} {N : Nat} {w : World} (ht : t.At N w) (hg : t.g = (decide (b.getD 0 0 / 32 = 1) && decide (0 < t.n))) (hv : dv t.d = nv (magOf b)) : t.iv = numB b := by
  rw [iv_made ht hg, hv]
  unfold numB
  rw [neg_dec hb h]
theorem iv_neg {t : Nu} {N : Nat} {w : World} (h : t.At N w) : t.g = decide (t.iv < 0) := by
  have n0 := dv_nn h.dg
  have e : t.iv = sgz t.g (dv t.d) := rfl
  cases hg : t.g with
  | false =>
    rw [hg] at e
    rw [decide_eq_false (by rw [e]; unfold sgz; simp; omega)]
  | true =>
    have hp := dv_pos h.dg h.cn (by rw [h.len]; exact h.sg hg)
    rw [hg] at e
    rw [decide_eq_true (by rw [e]; unfold sgz; simp; omega)]
theorem bytes_eq {b c : List Int} (hb : InB 256 b) (hc : InB 256 c) (h1 : readE b = 0) (h2 : readE c = 0) {r : Nu} {N : Nat} {w : World} (hr : r.At N w) (hv : r.iv = numB b + numB c) {z : Nat} {o : List Int} (hz : LowN (Wd.wds (dv r.d).toNat) z)
    (ho : o = [hdB (decide (b.getD 0 0 % 2 = 1) || decide (c.getD 0 0 % 2 = 1)) (decide (b.getD 0 0 / 2 % 2 = 1) || decide (c.getD 0 0 / 2 % 2 = 1)) (decide (b.getD 0 0 / 4 % 2 = 1) || decide (c.getD 0 0 / 4 % 2 = 1)) (decide (b.getD 0 0 / 8 % 2 = 1) || decide (c.getD 0 0 / 8 % 2 = 1)) (decide (b.getD 0 0 / 16 % 2 = 1) || decide (c.getD 0 0 / 16 % 2 = 1)) r.g, (z : Int), (((Wd.wds (dv r.d).toNat).length - z : Nat) : Int)] ++ ((Wd.wds (dv r.d).toNat).drop z).reverse.flatMap be4) :
    o = bytB (bits .or .u8 (cameB b) (cameB c)) (numB b + numB c) := by
  have b63 : 0 ≤ b.getD 0 0 ∧ b.getD 0 0 < 64 := by
    have h0 := (read_ok hb h1).1
    have := at_b hb 0
    have l := (read_ok hb h1).2.2.2.1
    unfold H1 at h0
    omega
  have c63 : 0 ≤ c.getD 0 0 ∧ c.getD 0 0 < 64 := by
    have h0 := (read_ok hc h2).1
    have := at_b hc 0
    have l := (read_ok hc h2).2.2.2.1
    unfold H1 at h0
    omega
  have e1 : (dv r.d).toNat = (numB b + numB c).natAbs := by
    have := iv_abs hr
    rw [hv] at this
    omega
  rw [e1] at hz ho
  rw [ho, hdB_eq b63 c63 r.g, iv_neg hr, hv]
  unfold bytB sumB
  rw [hz.eq]
theorem wds_room {v : Int} (h : (v.natAbs : Int) < 2 ^ rm) : (Wd.wds v.natAbs).length ≤ 70 := by
  refine Wd.wds_len ?_
  rw [← pow_rm] at h
  have : ((4294967296 ^ 70 : Nat) : Int) = (4294967296 : Int) ^ 70 := by simp
  rw [← this] at h
  omega
end Go.Proofs.Ytnndkepnabddgaa
namespace Go.Proofs.Ytnndkepnabddgaa
set_option maxRecDepth 100000
open Go.RowKit H
open Num Exa
set_option linter.unusedVariables false
set_option maxHeartbeats 2000000 in
theorem rjoin14 {x y : Ce} {q : Nat} {w : World} {N : Nat} (hN : N ≤ w.heap.size) (hx : x.At N w) (hy : y.At N w) (Lx : x.LtQ q) (Ly : y.LtQ q) (hq : q ≤ 900) : Calls Try.prog 21 #[x.val, y.val] w fun e w' => ∃ z : Ce, e = .returned (.tuple #[z.val, .int .i64 (eJ x.con y.con)]) ∧ z.con = vJ x.con y.con ∧ z.My w.heap.size w' ∧ z.LtQ (q + 1) ∧ Ext w w' := by
  have kx := hx.k
  have ky := hy.k
  have tx := hx.t
  have ty := hy.t
  have lxi := hx.li
  have lyi := hy.li
  have lxr := hx.lr
  have lyr := hy.lr
  have L1 := Lx.i
  have L2 := Lx.r
  have L3 := Ly.i
  have L4 := Ly.r
  refine enter Try.func21 rfl (by kernel_rfl) ?_
  refine J.seq ?_
  refine J.region ?_
  refine L.boxA (l := [_, _, _, _]) rfl rfl ?_
  intro b1 w1 hb1 hs1 hk1 he1
  refine L.boxA (l := [_, _, _, _]) rfl rfl ?_
  intro b2 w2 hb2 hs2 hk2 he2
  refine L.alloc rfl zr_48 ?_
  intro b3 w3 hb3 hs3 hk3 he3
  have he03 := (he1.trans he2).trans he3
  have z3 := he03.le
  have hk1 : Blk w3 b1 48 x.vs.toArray := (hk1.ext he2).ext he3
  have hk2 : Blk w3 b2 48 y.vs.toArray := hk2.ext he3
  have c1 := rroom x.t y.t w3 tx ty
  refine L.va rfl (X.assign (by conv => lhs; whnf)) ?_
  refine L.nil ?_
  refine J.seq ?_
  refine J.seq ?_
  refine J.region ?_
  refine L.va rfl (X.fieldAddr rfl Try.underlying48 rfl sz_44 (by decide)) ?_
  refine L.va rfl (X.load rfl sc_44 (by first | exact Ld.blk hk1 rfl | exact Ld.blk hk2 rfl)) ?_
  refine L.va rfl (X.fieldAddr rfl Try.underlying48 rfl sz_44 (by decide)) ?_
  refine L.va rfl (X.load rfl sc_44 (by first | exact Ld.blk hk1 rfl | exact Ld.blk hk2 rfl)) ?_
  refine L.va rfl (X.neq rfl rfl) ?_
  refine L.va rfl (X.move (by conv => lhs; whnf)) ?_
  refine L.caseNdec (k := 31) rfl (fun h1 => ?_) (fun h1 => ?_)
  · have hE : eJ x.con y.con = 1 := eJ_shape fun k => by omega
    refine L.no rfl ?_
    refine L.no rfl ?_
    refine L.no rfl ?_
    refine L.no rfl ?_
    refine L.no rfl ?_
    refine L.no rfl ?_
    refine L.no rfl ?_
    refine L.va rfl (X.pickT rfl (by conv => lhs; whnf)) ?_
    refine L.va rfl (X.move (by conv => lhs; whnf)) ?_
    refine L.no rfl ?_
    refine L.no rfl ?_
    refine L.no rfl ?_
    refine L.no rfl ?_
    refine L.no rfl ?_
    refine L.no rfl ?_
    refine L.no rfl ?_
    refine L.va rfl (X.pickT rfl (by conv => lhs; whnf)) ?_
    refine L.nil ?_
    refine J.iteT rfl ?_
    refine J.seq ?_
    refine J.region ?_
    refine L.va rfl (X.build (l := [_, _, _, _]) Evs.nil (bld_run Try.underlying48 (bp_48 Try.underlying48) zr_48 rfl)) ?_
    refine L.storeAgg (vs := [_, _, _, _]) rfl rfl rfl rfl sz_48 (hk3) rfl ?_
    intro w4 hk4 hg4 hs4
    have he4 : Ext w w4 := he03.grw hg4 (by intro g hg; injection hg with hg; omega)
    refine L.va rfl (X.assign (by conv => lhs; whnf)) ?_
    refine L.nil ?_
    refine J.ret ?_
    refine thn_ret <| ?_
    refine finCT rfl (run_cell hk4 Try.underlying48 rfl (by kernel_rfl)) ?_
    exact ⟨ce0, by rw [hE]; rfl, by rw [vJ_no (by rw [hE]; decide)]; rfl, ce0_my _ _, ce0_lt _, he4⟩
  · refine L.va rfl (X.fieldAddr rfl Try.underlying48 rfl sz_45 (by decide)) ?_
    refine L.va rfl (X.load rfl sc_45 (by first | exact Ld.blk hk1 rfl | exact Ld.blk hk2 rfl)) ?_
    refine L.va rfl (X.len rfl Try.underlying45) ?_
    refine L.va rfl (X.fieldAddr rfl Try.underlying48 rfl sz_45 (by decide)) ?_
    refine L.va rfl (X.load rfl sc_45 (by first | exact Ld.blk hk1 rfl | exact Ld.blk hk2 rfl)) ?_
    refine L.va rfl (X.len rfl Try.underlying45) ?_
    refine L.va rfl (X.neq rfl rfl) ?_
    refine L.va rfl (X.pickF rfl (by conv => lhs; whnf)) ?_
    refine L.va rfl (X.move (by conv => lhs; whnf)) ?_
    refine L.caseNdec (k := 40) rfl (fun h2 => ?_) (fun h2 => ?_)
    · have hE : eJ x.con y.con = 1 := eJ_shape fun k => by omega
      refine L.no rfl ?_
      refine L.no rfl ?_
      refine L.no rfl ?_
      refine L.no rfl ?_
      refine L.no rfl ?_
      refine L.no rfl ?_
      refine L.no rfl ?_
      refine L.va rfl (X.pickT rfl (by conv => lhs; whnf)) ?_
      refine L.nil ?_
      refine J.iteT rfl ?_
      refine J.seq ?_
      refine J.region ?_
      refine L.va rfl (X.build (l := [_, _, _, _]) Evs.nil (bld_run Try.underlying48 (bp_48 Try.underlying48) zr_48 rfl)) ?_
      refine L.storeAgg (vs := [_, _, _, _]) rfl rfl rfl rfl sz_48 (hk3) rfl ?_
      intro w4 hk4 hg4 hs4
      have he4 : Ext w w4 := he03.grw hg4 (by intro g hg; injection hg with hg; omega)
      refine L.va rfl (X.assign (by conv => lhs; whnf)) ?_
      refine L.nil ?_
      refine J.ret ?_
      refine thn_ret <| ?_
      refine finCT rfl (run_cell hk4 Try.underlying48 rfl (by kernel_rfl)) ?_
      exact ⟨ce0, by rw [hE]; rfl, by rw [vJ_no (by rw [hE]; decide)]; rfl, ce0_my _ _, ce0_lt _, he4⟩
    · refine L.va rfl (X.fieldAddr rfl Try.underlying48 rfl sz_46 (by decide)) ?_
      refine L.va rfl (X.load rfl sc_46 (by first | exact Ld.blk hk1 rfl | exact Ld.blk hk2 rfl)) ?_
      refine L.va rfl (X.len rfl Try.underlying46) ?_
      refine L.va rfl (X.fieldAddr rfl Try.underlying48 rfl sz_46 (by decide)) ?_
      refine L.va rfl (X.load rfl sc_46 (by first | exact Ld.blk hk1 rfl | exact Ld.blk hk2 rfl)) ?_
      refine L.va rfl (X.len rfl Try.underlying46) ?_
      refine L.va rfl (X.neq rfl rfl) ?_
      refine L.va rfl (X.pickF rfl (by conv => lhs; whnf)) ?_
      refine L.nil ?_
      refine J.ndec rfl (fun h3 => ?_) (fun h3 => ?_)
      · have hE : eJ x.con y.con = 1 := eJ_shape fun k => by omega
        refine J.seq ?_
        refine J.region ?_
        refine L.va rfl (X.build (l := [_, _, _, _]) Evs.nil (bld_run Try.underlying48 (bp_48 Try.underlying48) zr_48 rfl)) ?_
        refine L.storeAgg (vs := [_, _, _, _]) rfl rfl rfl rfl sz_48 (hk3) rfl ?_
        intro w4 hk4 hg4 hs4
        have he4 : Ext w w4 := he03.grw hg4 (by intro g hg; injection hg with hg; omega)
        refine L.va rfl (X.assign (by conv => lhs; whnf)) ?_
        refine L.nil ?_
        refine J.ret ?_
        refine thn_ret <| ?_
        refine finCT rfl (run_cell hk4 Try.underlying48 rfl (by kernel_rfl)) ?_
        exact ⟨ce0, by rw [hE]; rfl, by rw [vJ_no (by rw [hE]; decide)]; rfl, ce0_my _ _, ce0_lt _, he4⟩
      · refine J.skip ?_
        refine J.seq ?_
        refine J.region ?_
        refine L.va rfl (X.fieldAddr rfl Try.underlying48 rfl sz_2 (by decide)) ?_
        refine L.va rfl (X.load rfl sc_2 (by first | exact Ld.blk hk1 rfl | exact Ld.blk hk2 rfl)) ?_
        refine L.va rfl (X.fieldAddr rfl Try.underlying48 rfl sz_2 (by decide)) ?_
        refine L.va rfl (X.load rfl sc_2 (by first | exact Ld.blk hk1 rfl | exact Ld.blk hk2 rfl)) ?_
        have hsh : shape x.con y.con := shape_of ⟨by omega, by omega, by omega⟩
        refine L.call rfl en_35 rfl (c1) ?_
        rintro e w4 ⟨⟨nt, okt, rfl, hT, hF⟩, he34⟩
        refine ⟨_, rfl, ?_⟩
        have he34 : Ext w3 w4 := he34
        have z34 := he34.le
        have he04 := he03.trans he34
        have hk1 := hk1.ext he34
        have hk2 := hk2.ext he34
        have hk3 := hk3.ext he34
        refine L.va rfl (X.move (by conv => lhs; whnf)) ?_
        refine L.va rfl (X.extract rfl rfl) ?_
        refine L.va rfl (X.extract rfl rfl) ?_
        refine L.va rfl (X.assign (by conv => lhs; whnf)) ?_
        refine L.va rfl (X.assign (by conv => lhs; whnf)) ?_
        refine L.nil ?_
        refine J.seq ?_
        refine J.seq ?_
        refine J.region ?_
        refine L.va rfl (X.move (by conv => lhs; whnf)) ?_
        refine L.va rfl (X.not rfl) ?_
        refine L.nil ?_
        cases okt
        · have hE := eJ_over hsh (hF rfl)
          refine J.iteT rfl ?_
          refine J.seq ?_
          refine J.region ?_
          refine L.va rfl (X.build (l := [_, _, _, _]) Evs.nil (bld_run Try.underlying48 (bp_48 Try.underlying48) zr_48 rfl)) ?_
          refine L.storeAgg (vs := [_, _, _, _]) rfl rfl rfl rfl sz_48 (hk3) rfl ?_
          intro w5 hk5 hg5 hs5
          have he5 : Ext w w5 := he04.grw hg5 (by intro g hg; injection hg with hg; omega)
          refine L.va rfl (X.assign (by conv => lhs; whnf)) ?_
          refine L.nil ?_
          refine J.ret ?_
          refine thn_ret <| ?_
          refine finCT rfl (run_cell hk5 Try.underlying48 rfl (by kernel_rfl)) ?_
          exact ⟨ce0, by rw [hE]; rfl, by rw [vJ_no (by rw [hE]; decide)]; rfl, ce0_my _ _, ce0_lt _, he5⟩
        · obtain ⟨h4, rfl⟩ := hT rfl
          refine J.iteF rfl ?_
          refine J.skip ?_
          refine J.seq ?_
          refine J.region ?_
          refine L.va rfl (X.fieldAddr rfl Try.underlying48 rfl sz_44 (by decide)) ?_
          refine L.va rfl (X.load rfl sc_44 (by first | exact Ld.blk hk1 rfl | exact Ld.blk hk2 rfl)) ?_
          refine L.va rfl (X.move (by conv => lhs; whnf)) ?_
          refine L.va rfl (X.build (l := [_, _, _, _]) (Evs.cons (by conv => lhs; whnf) (Evs.cons (by conv => lhs; whnf) Evs.nil)) (bld_run Try.underlying48 (bp_48 Try.underlying48) zr_48 rfl)) ?_
          refine L.alloc rfl zr_48 ?_
          intro b4 w44 hb4 hs4 hk4 he4
          have hk1 := hk1.ext he4
          have hk2 := hk2.ext he4
          have hk3 := hk3.ext he4
          refine L.storeAgg (vs := [_, _, _, _]) rfl rfl rfl rfl sz_48 (hk4) rfl ?_
          intro w5 hk5 hg5 hs5
          have hk1 := hk1.grown hg5 (fun e => by injection e with e; omega)
          have hk2 := hk2.grown hg5 (fun e => by injection e with e; omega)
          have hk3 := hk3.grown hg5 (fun e => by injection e with e; omega)
          have he05 : Ext w w5 := (he04.trans he4).grw hg5 (by intro g hg; injection hg with hg; omega)
          have hk5 : Blk w5 b4 48 #[.int .u64 (x.k : Int), .int .i64 (x.t + y.t), .slice none 0 0, .slice none 0 0] := hk5
          have z5 := he05.le
          refine L.nil ?_
          refine J.seq ?_
          refine J.seq ?_
          refine J.region ?_
          refine L.va rfl (X.assign (by conv => lhs; whnf)) ?_
          refine L.nil ?_
          refine J.block ?_
          refine J.loop (X := Nat × Option Addr × Nat × List Wh) [5, 9, 10, 11, 12, 13, 14, 15, 16, 65, 66, 67, 68, 69, 70, 71, 72, 73, 74, 75, 76, 77, 78, 79, 80, 81, 82, 83, 84, 85, 86, 87, 88, 89, 90, 91, 92, 93, 94, 95, 96, 97, 98, 99, 100, 101, 102, 103, 104, 105, 106, 107, 108, 109, 110, 111, 112, 113, 114, 115, 116, 117, 118, 119, 120, 121, 122, 123, 124, 125, 126, 127, 128, 129, 130, 131] (fun (i, A, c, zs) => [(9, .int .i64 (i : Int))]) (fun (i, A, c, zs) w' => i ≤ x.ni ∧ zs.length = i ∧ (∀ j, j < i → eW (x.is.getD j wh0).con (y.is.getD j wh0).con = 0 ∧ (zs.getD j wh0).con = vW (x.is.getD j wh0).con (y.is.getD j wh0).con) ∧ (∀ z ∈ zs, z.My w.heap.size w' ∧ z.n ≤ q + 1) ∧ w'.ownsRow w.heap.size 69 5 (.slice A i c) i (zs.flatMap Wh.vs) ∧ Blk w' b4 48 #[.int .u64 (x.k : Int), .int .i64 (x.t + y.t), .slice A i c, .slice none 0 0] ∧ Blk w' b1 48 x.vs.toArray ∧ Blk w' b2 48 y.vs.toArray ∧ Blk w' b3 48 #[.int .u64 0, .int .i64 0, .slice none 0 0, .slice none 0 0] ∧ Ext w w' ∧ w5.heap.size ≤ w'.heap.size) (fun (i, _) => x.ni - i) ((0, none, 0, [])) (At1 (by first | rfl | exact at_int rfl (by omega) | exact at_slice rfl (by omega) | exact at_int rfl (by simp))) ?_ ?_
          · exact ⟨Nat.zero_le _, rfl, fun j hj => absurd hj (by omega), (fun z hz => by cases hz), own_nil _ _ _ _, hk5, hk1, hk2, hk3, he05, Nat.le_refl _⟩
          · rintro ⟨i, A, c, zs⟩ g w6 ⟨hi, hl6, hv6, hz6, ho6, hk46, hk16, hk26, hk36, he6, z6⟩
            refine J.seq ?_
            refine J.seq ?_
            refine J.region ?_
            refine L.va rfl (X.move (by conv => lhs; whnf)) ?_
            refine L.va rfl (X.fieldAddr rfl Try.underlying48 rfl sz_45 (by decide)) ?_
            refine L.va rfl (X.load rfl sc_45 (by first | exact Ld.blk hk16 rfl | exact Ld.blk hk26 rfl)) ?_
            refine L.va rfl (X.len rfl Try.underlying45) ?_
            refine L.va rfl (X.lss rfl rfl) ?_
            refine L.nil ?_
            refine J.dec rfl (fun hlt => ?_) (fun hlt => ?_)
            · have hlt : (i : Int) < (x.ni : Int) := hlt
              obtain ⟨p, hp⟩ : ∃ p, p = x.is.getD i wh0 := ⟨_, rfl⟩
              obtain ⟨r, hr⟩ : ∃ r, r = y.is.getD i wh0 := ⟨_, rfl⟩
              have gp := gtW (l := x.is) (i := i) (by omega)
              have gr := gtW (l := y.is) (i := i) (by omega)
              rw [← hp] at gp
              rw [← hr] at gr
              have hAx := hx.i.some_ (by omega)
              have hAy := hy.i.some_ (by omega)
              have zo := (Lx.li p (by rw [hp]; exact memD (by omega)))
              have zr := (Ly.li r (by rw [hr]; exact memD (by omega)))
              have hpA := hx.hi p (by rw [hp]; exact memD (by omega))
              have hrA := hy.hi r (by rw [hr]; exact memD (by omega))
              have lp := hpA.len
              have lr := hrA.len
              refine J.skip ?_
              refine J.seq ?_
              refine J.block ?_
              refine J.cut (X := Nat × Nat) [10, 11, 72, 73, 74, 75, 76, 77, 78, 79, 80, 81] (fun (g10, g11) => [(10, .pointer (some ⟨g10, 0, none⟩)), (11, .pointer (some ⟨g11, 0, none⟩))]) (fun (g10, g11) w' => Blk w' g10 69 p.vs.toArray ∧ Blk w' g11 69 r.vs.toArray ∧ w6.heap.size ≤ g10 ∧ w6.heap.size ≤ g11 ∧ Ext w6 w') ?_ ?_
              · skip
                refine J.draw (ℓ := 1000000) (S := Ext w6) mixed (fun w7 hS hS_h => ?_)
                refine D.va 0 rfl (by kernel_rfl) (fun _ _ _ h => h) rfl (fun w' hw => X.fieldAddr rfl Try.underlying48 rfl sz_45 (by decide)) hS ?_
                refine D.va 1 rfl (by kernel_rfl) (fun _ _ _ h => h) rfl (fun w' hw => X.load rfl sc_45 (by first | exact Ld.blk (hk16.ext hw) rfl | exact Ld.blk (hk26.ext hw) rfl | exact hAx | exact hAy)) hS ?_
                refine D.va 2 rfl (by kernel_rfl) (fun _ _ _ h => h) rfl (fun w' hw => X.move (by conv => lhs; whnf)) hS ?_
                refine D.va 3 rfl (by kernel_rfl) (fun _ _ _ h => h) rfl (fun w' hw => (by first | exact X.indexAddrn rfl rfl Try.underlying45 sz_69 (by first | exact Option.some_ne_none _ | exact hAx | exact hAy) (by omega) | exact X.indexAddr rfl rfl Try.underlying45 sz_69 (by first | exact Option.some_ne_none _ | exact hAx | exact hAy) (by omega))) hS ?_
                refine D.va 4 rfl (by kernel_rfl) (fun _ _ _ h => h) rfl (fun w' hw => X.loadRow (cs := p.vs) rfl (hx.i.ext (he6.trans hw)) (fun r u hu => flat_row wh_len gp r u hu) (Nat.zero_lt_succ _) Try.underlying69 rfl (by kernel_rfl)) hS ?_
                refine D.va 5 rfl (by kernel_rfl) (fun _ _ _ h => h) rfl (fun w' hw => X.fieldAddr rfl Try.underlying48 rfl sz_45 (by decide)) hS ?_
                refine D.va 6 rfl (by kernel_rfl) (fun _ _ _ h => h) rfl (fun w' hw => X.load rfl sc_45 (by first | exact Ld.blk (hk16.ext hw) rfl | exact Ld.blk (hk26.ext hw) rfl | exact hAx | exact hAy)) hS ?_
                refine D.va 7 rfl (by kernel_rfl) (fun _ _ _ h => h) rfl (fun w' hw => X.move (by conv => lhs; whnf)) hS ?_
                refine D.va 8 rfl (by kernel_rfl) (fun _ _ _ h => h) rfl (fun w' hw => (by first | exact X.indexAddrn rfl rfl Try.underlying45 sz_69 (by first | exact Option.some_ne_none _ | exact hAx | exact hAy) (by omega) | exact X.indexAddr rfl rfl Try.underlying45 sz_69 (by first | exact Option.some_ne_none _ | exact hAx | exact hAy) (by omega))) hS ?_
                refine D.va 9 rfl (by kernel_rfl) (fun _ _ _ h => h) rfl (fun w' hw => X.loadRow (cs := r.vs) rfl (hy.i.ext (he6.trans hw)) (fun r u hu => flat_row wh_len gr r u hu) (Nat.zero_lt_succ _) Try.underlying69 rfl (by kernel_rfl)) hS ?_
                refine D.two 10 11 (by kernel_rfl) rfl rfl ?_ ?_
                · have za := (hS).le
                  try have l11 := hk11.lt
                  refine L.alloc rfl zr_69 ?_
                  intro b10 wa hb10 hs10 hk10 hea
                  have hS1 := (hS).trans hea
                  refine L.nil ?_
                  refine ⟨fun _ => hS1, ?_⟩
                  have g10 : w6.heap.size ≤ b10 := by omega
                  try replace hk11 := hk11.ext hea
                  have zb := (hS1).le
                  try have l10 := hk10.lt
                  refine D.one 11 (by kernel_rfl) rfl ?_
                  refine L.alloc rfl zr_69 ?_
                  intro b11 wb hb11 hs11 hk11 heb
                  have hS2 := (hS1).trans heb
                  refine L.nil ?_
                  refine ⟨fun _ => hS2, ?_⟩
                  have g11 : w6.heap.size ≤ b11 := by omega
                  try replace hk10 := hk10.ext heb
                  refine D.one 12 (by kernel_rfl) rfl ?_
                  refine L.storeAgg (vs := [_, _, _, _, _]) rfl rfl rfl rfl sz_69 (hk10) rfl ?_
                  intro wc hk10' hgc hsc
                  have hS3 := (hS2).grw hgc (by intro g hg; injection hg with hg; omega)
                  refine L.nil ?_
                  refine ⟨fun _ => hS3, ?_⟩
                  have hk10 : Blk wc b10 69 p.vs.toArray := hk10'
                  try replace hk11 := hk11.grown hgc (fun e => by injection e with e; omega)
                  refine D.one 13 (by kernel_rfl) rfl ?_
                  refine L.storeAgg (vs := [_, _, _, _, _]) rfl rfl rfl rfl sz_69 (hk11) rfl ?_
                  intro wd hk11' hgd hsd
                  have hS4 := (hS3).grw hgd (by intro g hg; injection hg with hg; omega)
                  refine L.nil ?_
                  refine ⟨fun _ => hS4, ?_⟩
                  have hk11 : Blk wd b11 69 r.vs.toArray := hk11'
                  try replace hk10 := hk10.grown hgd (fun e => by injection e with e; omega)
                  refine D.done (by kernel_rfl) ?_
                  replace hk16 := hk16.ext hS4
                  replace hk26 := hk26.ext hS4
                  refine ⟨(b10, b11), At2 (by first | rfl | exact at_int rfl (by omega) | exact at_slice rfl (by omega) | exact at_int rfl (by simp)) (by first | rfl | exact at_int rfl (by omega) | exact at_slice rfl (by omega) | exact at_int rfl (by simp)), (by (iterate 12 refine Agr.lk rfl ?_); exact Agr.rfl'), ?_⟩
                  exact ⟨hk10, hk11, g10, g11, hS4⟩
                · have zb := (hS).le
                  try have l10 := hk10.lt
                  refine L.alloc rfl zr_69 ?_
                  intro b11 wb hb11 hs11 hk11 heb
                  have hS1 := (hS).trans heb
                  refine L.nil ?_
                  refine ⟨fun _ => hS1, ?_⟩
                  have g11 : w6.heap.size ≤ b11 := by omega
                  try replace hk10 := hk10.ext heb
                  have za := (hS1).le
                  try have l11 := hk11.lt
                  refine D.one 10 (by kernel_rfl) rfl ?_
                  refine L.alloc rfl zr_69 ?_
                  intro b10 wa hb10 hs10 hk10 hea
                  have hS2 := (hS1).trans hea
                  refine L.nil ?_
                  refine ⟨fun _ => hS2, ?_⟩
                  have g10 : w6.heap.size ≤ b10 := by omega
                  try replace hk11 := hk11.ext hea
                  refine D.one 12 (by kernel_rfl) rfl ?_
                  refine L.storeAgg (vs := [_, _, _, _, _]) rfl rfl rfl rfl sz_69 (hk10) rfl ?_
                  intro wc hk10' hgc hsc
                  have hS3 := (hS2).grw hgc (by intro g hg; injection hg with hg; omega)
                  refine L.nil ?_
                  refine ⟨fun _ => hS3, ?_⟩
                  have hk10 : Blk wc b10 69 p.vs.toArray := hk10'
                  try replace hk11 := hk11.grown hgc (fun e => by injection e with e; omega)
                  refine D.one 13 (by kernel_rfl) rfl ?_
                  refine L.storeAgg (vs := [_, _, _, _, _]) rfl rfl rfl rfl sz_69 (hk11) rfl ?_
                  intro wd hk11' hgd hsd
                  have hS4 := (hS3).grw hgd (by intro g hg; injection hg with hg; omega)
                  refine L.nil ?_
                  refine ⟨fun _ => hS4, ?_⟩
                  have hk11 : Blk wd b11 69 r.vs.toArray := hk11'
                  try replace hk10 := hk10.grown hgd (fun e => by injection e with e; omega)
                  refine D.done (by kernel_rfl) ?_
                  replace hk16 := hk16.ext hS4
                  replace hk26 := hk26.ext hS4
                  refine ⟨(b10, b11), At2 (by first | rfl | exact at_int rfl (by omega) | exact at_slice rfl (by omega) | exact at_int rfl (by simp)) (by first | rfl | exact at_int rfl (by omega) | exact at_slice rfl (by omega) | exact at_int rfl (by simp)), (by (iterate 12 refine Agr.lk rfl ?_); exact Agr.rfl'), ?_⟩
                  exact ⟨hk10, hk11, g10, g11, hS4⟩
              · rintro ⟨g10, g11⟩ g w7 ⟨hk10, hk11, hg10, hg11, he67⟩
                have he7 := he6.trans he67
                refine J.seq ?_
                refine J.region ?_
                refine L.va rfl (X.fieldAddr rfl Try.underlying69 rfl sz_2 (by decide)) ?_
                refine L.va rfl (X.load rfl sc_2 (by first | exact Ld.blk hk10 rfl | exact Ld.blk hk11 rfl)) ?_
                refine L.va rfl (X.fieldAddr rfl Try.underlying69 rfl sz_2 (by decide)) ?_
                refine L.va rfl (X.load rfl sc_2 (by first | exact Ld.blk hk10 rfl | exact Ld.blk hk11 rfl)) ?_
                refine L.call rfl en_35 rfl ((rroom p.s r.s w7 hpA.o.s hrA.o.s)) ?_
                rintro e w8 ⟨⟨ns, ok1, rfl, hT1, hF1⟩, he78⟩
                refine ⟨_, rfl, ?_⟩
                have he78 : Ext w7 w8 := he78
                have hk10 := hk10.ext he78
                have hk11 := hk11.ext he78
                refine L.va rfl (X.move (by conv => lhs; whnf)) ?_
                refine L.va rfl (X.extract rfl rfl) ?_
                refine L.va rfl (X.extract rfl rfl) ?_
                refine L.va rfl (X.assign (by conv => lhs; whnf)) ?_
                refine L.va rfl (X.assign (by conv => lhs; whnf)) ?_
                refine L.nil ?_
                refine J.seq ?_
                refine J.region ?_
                refine L.va rfl (X.fieldAddr rfl Try.underlying69 rfl sz_2 (by decide)) ?_
                refine L.va rfl (X.load rfl sc_2 (by first | exact Ld.blk hk10 rfl | exact Ld.blk hk11 rfl)) ?_
                refine L.va rfl (X.fieldAddr rfl Try.underlying69 rfl sz_2 (by decide)) ?_
                refine L.va rfl (X.load rfl sc_2 (by first | exact Ld.blk hk10 rfl | exact Ld.blk hk11 rfl)) ?_
                refine L.call rfl en_35 rfl ((rroom p.a r.a w8 hpA.o.a hrA.o.a)) ?_
                rintro e w9 ⟨⟨na, ok2, rfl, hT2, hF2⟩, he89⟩
                refine ⟨_, rfl, ?_⟩
                have he89 : Ext w8 w9 := he89
                have hk10 := hk10.ext he89
                have hk11 := hk11.ext he89
                have he69 := (he67.trans he78).trans he89
                have he09 := he6.trans he69
                have z9 := he09.le
                have hk49 := hk46.ext he69
                have hk19 := hk16.ext he69
                have hk29 := hk26.ext he69
                have hk39 := hk36.ext he69
                have ho9 := ho6.ext he69
                refine L.va rfl (X.move (by conv => lhs; whnf)) ?_
                refine L.va rfl (X.extract rfl rfl) ?_
                refine L.va rfl (X.extract rfl rfl) ?_
                refine L.va rfl (X.assign (by conv => lhs; whnf)) ?_
                refine L.va rfl (X.assign (by conv => lhs; whnf)) ?_
                refine L.nil ?_
                refine J.seq ?_
                refine J.seq ?_
                refine J.region ?_
                refine L.va rfl (X.move (by conv => lhs; whnf)) ?_
                refine L.va rfl (X.not rfl) ?_
                refine L.va rfl (X.move (by conv => lhs; whnf)) ?_
                have bad : ¬ okWh p.con r.con → eJ x.con y.con = 10 := fun h => by
                  have h10 := eW_no h
                  rw [hp, hr] at h10
                  rw [← h10]
                  exact eJ_i hsh h4 (by omega) (fun j hj => (hv6 j hj).1) (by rw [h10]; decide)
                cases ok1
                · have hE := bad fun h => hF1 rfl h.1
                  refine L.caseBT (k := 100) rfl (by rfl) ?_
                  refine L.no rfl ?_
                  refine L.no rfl ?_
                  refine L.va rfl (X.pickT rfl (by conv => lhs; whnf)) ?_
                  refine L.nil ?_
                  refine J.iteT rfl ?_
                  refine J.seq ?_
                  refine J.region ?_
                  refine L.va rfl (X.build (l := [_, _, _, _]) Evs.nil (bld_run Try.underlying48 (bp_48 Try.underlying48) zr_48 rfl)) ?_
                  refine L.storeAgg (vs := [_, _, _, _]) rfl rfl rfl rfl sz_48 (hk39) rfl ?_
                  intro w10 hk10' hg10' hs10'
                  have he10 : Ext w w10 := he09.grw hg10' (by intro g hg; injection hg with hg; omega)
                  refine L.va rfl (X.assign (by conv => lhs; whnf)) ?_
                  refine L.nil ?_
                  refine J.ret ?_
                  refine thn_ret <|  inB_ret <|  thn_ret <|  thn_ret <|  inB_ret <|  thn_ret <| ?_
                  refine finCT rfl (run_cell hk10' Try.underlying48 rfl (by kernel_rfl)) ?_
                  exact ⟨ce0, by rw [hE]; rfl, by rw [vJ_no (by rw [hE]; decide)]; rfl, ce0_my _ _, ce0_lt _, he10⟩
                · obtain ⟨hs1, rfl⟩ := hT1 rfl
                  refine L.caseBF (k := 100) rfl (by rfl) ?_
                  refine L.va rfl (X.move (by conv => lhs; whnf)) ?_
                  refine L.va rfl (X.not rfl) ?_
                  refine L.va rfl (X.pickF rfl (by conv => lhs; whnf)) ?_
                  refine L.nil ?_
                  cases ok2
                  · have hE := bad fun h => hF2 rfl h.2
                    refine J.iteT rfl ?_
                    refine J.seq ?_
                    refine J.region ?_
                    refine L.va rfl (X.build (l := [_, _, _, _]) Evs.nil (bld_run Try.underlying48 (bp_48 Try.underlying48) zr_48 rfl)) ?_
                    refine L.storeAgg (vs := [_, _, _, _]) rfl rfl rfl rfl sz_48 (hk39) rfl ?_
                    intro w10 hk10' hg10' hs10'
                    have he10 : Ext w w10 := he09.grw hg10' (by intro g hg; injection hg with hg; omega)
                    refine L.va rfl (X.assign (by conv => lhs; whnf)) ?_
                    refine L.nil ?_
                    refine J.ret ?_
                    refine thn_ret <|  inB_ret <|  thn_ret <|  thn_ret <|  inB_ret <|  thn_ret <| ?_
                    refine finCT rfl (run_cell hk10' Try.underlying48 rfl (by kernel_rfl)) ?_
                    exact ⟨ce0, by rw [hE]; rfl, by rw [vJ_no (by rw [hE]; decide)]; rfl, ce0_my _ _, ce0_lt _, he10⟩
                  · obtain ⟨hs2, rfl⟩ := hT2 rfl
                    have hyes : okWh p.con r.con := ⟨hs1, hs2⟩
                    refine J.iteF rfl ?_
                    refine J.skip ?_
                    refine J.cut (X := Nat × Nu) [16, 105, 106, 107, 108, 109, 110, 111] (fun (g16, m) => [(16, .pointer (some ⟨g16, 0, none⟩))]) (fun (g16, m) w' => Blk w' g16 80 m.vs.toArray ∧ m.At w'.heap.size w' ∧ dv m.d = nv p.q + nv r.q ∧ m.n ≤ 40000 ∧ Ext w9 w') ?_ ?_
                    · skip
                      refine J.draw (ℓ := 1000000) (S := Ext w9) mixed (fun w10 hS hS_h => ?_)
                      refine D.va 0 rfl (by kernel_rfl) (fun _ _ _ h => h) rfl (fun w' hw => X.fieldAddr rfl Try.underlying69 rfl sz_67 (by decide)) hS ?_
                      refine D.va 1 rfl (by kernel_rfl) (fun _ _ _ h => h) rfl (fun w' hw => X.load rfl sc_67 (by first | exact Ld.blk (hk10.ext hw) rfl | exact Ld.blk (hk11.ext hw) rfl)) hS ?_
                      refine D.va 3 rfl (by kernel_rfl) (fun _ _ _ h => h) rfl (fun w' hw => X.fieldAddr rfl Try.underlying69 rfl sz_67 (by decide)) hS ?_
                      refine D.va 4 rfl (by kernel_rfl) (fun _ _ _ h => h) rfl (fun w' hw => X.load rfl sc_67 (by first | exact Ld.blk (hk10.ext hw) rfl | exact Ld.blk (hk11.ext hw) rfl)) hS ?_
                      refine D.two 2 7 (by kernel_rfl) rfl rfl ?_ ?_
                      · have za := (he09.trans hS).le
                        refine L.call rfl en_37 rfl ((rnum p.A p.n p.c p.q _ (N := N) (by omega) (hpA.r.ext (he09.trans hS)) lp hpA.o.q (by omega))) ?_
                        rintro e wa ⟨u1, rfl, hu1A, hu1g, hu1v, hu1n, _, hea⟩
                        refine ⟨_, rfl, ?_⟩
                        have hS1 := (hS).trans hea
                        refine L.nil ?_
                        refine ⟨fun _ => hS1, ?_⟩
                        try replace hu2A := (hu2A.ext hea).more hea.le
                        try replace hk16 := hk16.ext hea
                        refine D.two 5 7 (by kernel_rfl) rfl rfl ?_ ?_
                        · have zb := (he09.trans hS1).le
                          refine L.call rfl en_37 rfl ((rnum r.A r.n r.c r.q _ (N := N) (by omega) (hrA.r.ext (he09.trans hS1)) lr hrA.o.q (by omega))) ?_
                          rintro e wb ⟨u2, rfl, hu2A, hu2g, hu2v, hu2n, _, heb⟩
                          refine ⟨_, rfl, ?_⟩
                          have hS2 := (hS1).trans heb
                          refine L.nil ?_
                          refine ⟨fun _ => hS2, ?_⟩
                          try replace hu1A := (hu1A.ext heb).more heb.le
                          try replace hk16 := hk16.ext heb
                          refine D.two 6 7 (by kernel_rfl) rfl rfl ?_ ?_
                          · refine L.call rfl en_36 rfl ((radd (Nat.le_refl _) hu1A hu2A (by rw [hu1g, hu2g]) (by omega))) ?_
                            rintro e wc ⟨m, rfl, hmA, hmg, hmv, hmn, hmO, hec⟩
                            refine ⟨_, rfl, ?_⟩
                            have hS3 := (hS2).trans hec
                            refine L.nil ?_
                            refine ⟨fun _ => hS3, ?_⟩
                            try replace hk16 := hk16.ext hec
                            have zd := (hS3).le
                            refine D.one 7 (by kernel_rfl) rfl ?_
                            refine L.alloc rfl zr_80 ?_
                            intro b16 wd hb16 hs16 hk16 hed
                            have hS4 := (hS3).trans hed
                            refine L.nil ?_
                            refine ⟨fun _ => hS4, ?_⟩
                            have g16 : w9.heap.size ≤ b16 := by omega
                            try replace hu1A := (hu1A.ext hed).more hed.le
                            try replace hu2A := (hu2A.ext hed).more hed.le
                            try replace hmO := hmO.ext hed
                            refine D.one 8 (by kernel_rfl) rfl ?_
                            refine L.storeAgg (vs := [_, _]) rfl rfl rfl rfl sz_80 (hk16) rfl ?_
                            intro we hke hge hse
                            have hS5 := (hS4).grw hge (by intro g hg; injection hg with hg; omega)
                            refine L.nil ?_
                            refine ⟨fun _ => hS5, ?_⟩
                            refine D.done (by kernel_rfl) ?_
                            replace hk10 := hk10.ext hS5
                            replace hk11 := hk11.ext hS5
                            have hmO' := (TCh.put hk16 hge).own hmO (by decide)
                            refine ⟨(b16, m), At1 (by first | rfl | exact at_int rfl (by omega) | exact at_slice rfl (by omega) | exact at_int rfl (by simp)), (by (iterate 8 refine Agr.lk rfl ?_); exact Agr.rfl'), ?_⟩
                            exact ⟨hke, ⟨Reads.of_own hmO', hmA.dg, hmA.cn, hmA.sg, hmA.cp, hmA.sm⟩, by rw [hmv, hu1v, hu2v], by omega, hS5⟩
                          · have zd := (hS2).le
                            refine L.alloc rfl zr_80 ?_
                            intro b16 wd hb16 hs16 hk16 hed
                            have hS3 := (hS2).trans hed
                            refine L.nil ?_
                            refine ⟨fun _ => hS3, ?_⟩
                            have g16 : w9.heap.size ≤ b16 := by omega
                            try replace hu1A := (hu1A.ext hed).more hed.le
                            try replace hu2A := (hu2A.ext hed).more hed.le
                            try replace hmO := hmO.ext hed
                            refine D.one 6 (by kernel_rfl) rfl ?_
                            refine L.call rfl en_36 rfl ((radd (Nat.le_refl _) hu1A hu2A (by rw [hu1g, hu2g]) (by omega))) ?_
                            rintro e wc ⟨m, rfl, hmA, hmg, hmv, hmn, hmO, hec⟩
                            refine ⟨_, rfl, ?_⟩
                            have hS4 := (hS3).trans hec
                            refine L.nil ?_
                            refine ⟨fun _ => hS4, ?_⟩
                            try replace hk16 := hk16.ext hec
                            refine D.one 8 (by kernel_rfl) rfl ?_
                            refine L.storeAgg (vs := [_, _]) rfl rfl rfl rfl sz_80 (hk16) rfl ?_
                            intro we hke hge hse
                            have hS5 := (hS4).grw hge (by intro g hg; injection hg with hg; omega)
                            refine L.nil ?_
                            refine ⟨fun _ => hS5, ?_⟩
                            refine D.done (by kernel_rfl) ?_
                            replace hk10 := hk10.ext hS5
                            replace hk11 := hk11.ext hS5
                            have hmO' := (TCh.put hk16 hge).own hmO (by decide)
                            refine ⟨(b16, m), At1 (by first | rfl | exact at_int rfl (by omega) | exact at_slice rfl (by omega) | exact at_int rfl (by simp)), (by (iterate 8 refine Agr.lk rfl ?_); exact Agr.rfl'), ?_⟩
                            exact ⟨hke, ⟨Reads.of_own hmO', hmA.dg, hmA.cn, hmA.sg, hmA.cp, hmA.sm⟩, by rw [hmv, hu1v, hu2v], by omega, hS5⟩
                        · have zd := (hS1).le
                          refine L.alloc rfl zr_80 ?_
                          intro b16 wd hb16 hs16 hk16 hed
                          have hS2 := (hS1).trans hed
                          refine L.nil ?_
                          refine ⟨fun _ => hS2, ?_⟩
                          have g16 : w9.heap.size ≤ b16 := by omega
                          try replace hu1A := (hu1A.ext hed).more hed.le
                          try replace hu2A := (hu2A.ext hed).more hed.le
                          try replace hmO := hmO.ext hed
                          have zb := (he09.trans hS2).le
                          refine D.one 5 (by kernel_rfl) rfl ?_
                          refine L.call rfl en_37 rfl ((rnum r.A r.n r.c r.q _ (N := N) (by omega) (hrA.r.ext (he09.trans hS2)) lr hrA.o.q (by omega))) ?_
                          rintro e wb ⟨u2, rfl, hu2A, hu2g, hu2v, hu2n, _, heb⟩
                          refine ⟨_, rfl, ?_⟩
                          have hS3 := (hS2).trans heb
                          refine L.nil ?_
                          refine ⟨fun _ => hS3, ?_⟩
                          try replace hu1A := (hu1A.ext heb).more heb.le
                          try replace hk16 := hk16.ext heb
                          refine D.one 6 (by kernel_rfl) rfl ?_
                          refine L.call rfl en_36 rfl ((radd (Nat.le_refl _) hu1A hu2A (by rw [hu1g, hu2g]) (by omega))) ?_
                          rintro e wc ⟨m, rfl, hmA, hmg, hmv, hmn, hmO, hec⟩
                          refine ⟨_, rfl, ?_⟩
                          have hS4 := (hS3).trans hec
                          refine L.nil ?_
                          refine ⟨fun _ => hS4, ?_⟩
                          try replace hk16 := hk16.ext hec
                          refine D.one 8 (by kernel_rfl) rfl ?_
                          refine L.storeAgg (vs := [_, _]) rfl rfl rfl rfl sz_80 (hk16) rfl ?_
                          intro we hke hge hse
                          have hS5 := (hS4).grw hge (by intro g hg; injection hg with hg; omega)
                          refine L.nil ?_
                          refine ⟨fun _ => hS5, ?_⟩
                          refine D.done (by kernel_rfl) ?_
                          replace hk10 := hk10.ext hS5
                          replace hk11 := hk11.ext hS5
                          have hmO' := (TCh.put hk16 hge).own hmO (by decide)
                          refine ⟨(b16, m), At1 (by first | rfl | exact at_int rfl (by omega) | exact at_slice rfl (by omega) | exact at_int rfl (by simp)), (by (iterate 8 refine Agr.lk rfl ?_); exact Agr.rfl'), ?_⟩
                          exact ⟨hke, ⟨Reads.of_own hmO', hmA.dg, hmA.cn, hmA.sg, hmA.cp, hmA.sm⟩, by rw [hmv, hu1v, hu2v], by omega, hS5⟩
                      · have zd := (hS).le
                        refine L.alloc rfl zr_80 ?_
                        intro b16 wd hb16 hs16 hk16 hed
                        have hS1 := (hS).trans hed
                        refine L.nil ?_
                        refine ⟨fun _ => hS1, ?_⟩
                        have g16 : w9.heap.size ≤ b16 := by omega
                        try replace hu1A := (hu1A.ext hed).more hed.le
                        try replace hu2A := (hu2A.ext hed).more hed.le
                        try replace hmO := hmO.ext hed
                        have za := (he09.trans hS1).le
                        refine D.one 2 (by kernel_rfl) rfl ?_
                        refine L.call rfl en_37 rfl ((rnum p.A p.n p.c p.q _ (N := N) (by omega) (hpA.r.ext (he09.trans hS1)) lp hpA.o.q (by omega))) ?_
                        rintro e wa ⟨u1, rfl, hu1A, hu1g, hu1v, hu1n, _, hea⟩
                        refine ⟨_, rfl, ?_⟩
                        have hS2 := (hS1).trans hea
                        refine L.nil ?_
                        refine ⟨fun _ => hS2, ?_⟩
                        try replace hu2A := (hu2A.ext hea).more hea.le
                        try replace hk16 := hk16.ext hea
                        have zb := (he09.trans hS2).le
                        refine D.one 5 (by kernel_rfl) rfl ?_
                        refine L.call rfl en_37 rfl ((rnum r.A r.n r.c r.q _ (N := N) (by omega) (hrA.r.ext (he09.trans hS2)) lr hrA.o.q (by omega))) ?_
                        rintro e wb ⟨u2, rfl, hu2A, hu2g, hu2v, hu2n, _, heb⟩
                        refine ⟨_, rfl, ?_⟩
                        have hS3 := (hS2).trans heb
                        refine L.nil ?_
                        refine ⟨fun _ => hS3, ?_⟩
                        try replace hu1A := (hu1A.ext heb).more heb.le
                        try replace hk16 := hk16.ext heb
                        refine D.one 6 (by kernel_rfl) rfl ?_
                        refine L.call rfl en_36 rfl ((radd (Nat.le_refl _) hu1A hu2A (by rw [hu1g, hu2g]) (by omega))) ?_
                        rintro e wc ⟨m, rfl, hmA, hmg, hmv, hmn, hmO, hec⟩
                        refine ⟨_, rfl, ?_⟩
                        have hS4 := (hS3).trans hec
                        refine L.nil ?_
                        refine ⟨fun _ => hS4, ?_⟩
                        try replace hk16 := hk16.ext hec
                        refine D.one 8 (by kernel_rfl) rfl ?_
                        refine L.storeAgg (vs := [_, _]) rfl rfl rfl rfl sz_80 (hk16) rfl ?_
                        intro we hke hge hse
                        have hS5 := (hS4).grw hge (by intro g hg; injection hg with hg; omega)
                        refine L.nil ?_
                        refine ⟨fun _ => hS5, ?_⟩
                        refine D.done (by kernel_rfl) ?_
                        replace hk10 := hk10.ext hS5
                        replace hk11 := hk11.ext hS5
                        have hmO' := (TCh.put hk16 hge).own hmO (by decide)
                        refine ⟨(b16, m), At1 (by first | rfl | exact at_int rfl (by omega) | exact at_slice rfl (by omega) | exact at_int rfl (by simp)), (by (iterate 8 refine Agr.lk rfl ?_); exact Agr.rfl'), ?_⟩
                        exact ⟨hke, ⟨Reads.of_own hmO', hmA.dg, hmA.cn, hmA.sg, hmA.cp, hmA.sm⟩, by rw [hmv, hu1v, hu2v], by omega, hS5⟩
                    · rintro ⟨g16, m⟩ g w10 ⟨hk16', hmA, hmv, hmn, he910⟩
                      have hkA := hk10.ext he910
                      have hkB := hk11.ext he910
                      have hk4A := hk49.ext he910
                      have hk1A := hk19.ext he910
                      have hk2A := hk29.ext he910
                      have hk3A := hk39.ext he910
                      have hoA := ho9.ext he910
                      have he0A := he09.trans he910
                      have he6A := he69.trans he910
                      have zA := he0A.le
                      have hK : K4 b4 48 #[.int .u64 (x.k : Int), .int .i64 (x.t + y.t), .slice A i c, .slice none 0 0] g10 69 p.vs.toArray g11 69 r.vs.toArray g16 80 m.vs.toArray w w10 := ⟨hk4A, hkA, hkB, hk16', he0A⟩
                      have hmm : m.n ≤ 50000 := by omega
                      refine J.draw (ℓ := 20) (S := (fun w' => K4 b4 48 #[.int .u64 (x.k : Int), .int .i64 (x.t + y.t), .slice A i c, .slice none 0 0] g10 69 p.vs.toArray g11 69 r.vs.toArray g16 80 m.vs.toArray w w')) mixed (fun w11 hSE hS_h => ?_)
                      have hS : ((fun w' => K4 b4 48 #[.int .u64 (x.k : Int), .int .i64 (x.t + y.t), .slice A i c, .slice none 0 0] g10 69 p.vs.toArray g11 69 r.vs.toArray g16 80 m.vs.toArray w w')) w11 := hK.ext hSE
                      refine D.va 0 rfl (by kernel_rfl) (fun _ _ _ h => h) rfl (fun w' hw => X.fieldAddr rfl Try.underlying48 rfl sz_45 (by decide)) hS ?_
                      refine D.va 1 rfl (by kernel_rfl) (fun _ _ _ h => h) rfl (fun w' hw => X.load rfl sc_45 (by first | exact Ld.blk hw.a rfl | exact Ld.blk hw.b rfl | exact Ld.blk hw.c rfl)) hS ?_
                      refine D.va 2 rfl (by kernel_rfl) (fun _ _ _ h => h) rfl (fun w' hw => X.move (by conv => lhs; whnf)) hS ?_
                      refine D.va 3 rfl (by kernel_rfl) (fun _ _ _ h => h) rfl (fun w' hw => X.move (by conv => lhs; whnf)) hS ?_
                      refine D.va 4 rfl (by kernel_rfl) (fun _ _ _ h => h) rfl (fun w' hw => X.loadAgg rfl (range_l hw.d) Try.underlying80 rfl (by kernel_rfl)) hS ?_
                      refine D.va 6 rfl (by kernel_rfl) (fun _ _ _ h => h) rfl (fun w' hw => X.fieldAddr rfl Try.underlying69 rfl sz_2 (by decide)) hS ?_
                      refine D.va 7 rfl (by kernel_rfl) (fun _ _ _ h => h) rfl (fun w' hw => X.load rfl sc_2 (by first | exact Ld.blk hw.a rfl | exact Ld.blk hw.b rfl | exact Ld.blk hw.c rfl)) hS ?_
                      refine D.va 8 rfl (by kernel_rfl) (fun _ _ _ h => h) rfl (fun w' hw => X.fieldAddr rfl Try.underlying69 rfl sz_2 (by decide)) hS ?_
                      refine D.va 9 rfl (by kernel_rfl) (fun _ _ _ h => h) rfl (fun w' hw => X.load rfl sc_2 (by first | exact Ld.blk hw.a rfl | exact Ld.blk hw.b rfl | exact Ld.blk hw.c rfl)) hS ?_
                      refine D.va 10 rfl (by kernel_rfl) (fun _ _ _ h => h) rfl (fun w' hw => X.min2 rfl rfl) hS ?_
                      refine D.va 11 rfl (by kernel_rfl) (fun _ _ _ h => h) rfl (fun w' hw => X.fieldAddr rfl Try.underlying69 rfl sz_2 (by decide)) hS ?_
                      refine D.va 12 rfl (by kernel_rfl) (fun _ _ _ h => h) rfl (fun w' hw => X.load rfl sc_2 (by first | exact Ld.blk hw.a rfl | exact Ld.blk hw.b rfl | exact Ld.blk hw.c rfl)) hS ?_
                      refine D.va 13 rfl (by kernel_rfl) (fun _ _ _ h => h) rfl (fun w' hw => X.fieldAddr rfl Try.underlying69 rfl sz_2 (by decide)) hS ?_
                      refine D.va 14 rfl (by kernel_rfl) (fun _ _ _ h => h) rfl (fun w' hw => X.load rfl sc_2 (by first | exact Ld.blk hw.a rfl | exact Ld.blk hw.b rfl | exact Ld.blk hw.c rfl)) hS ?_
                      refine D.va 15 rfl (by kernel_rfl) (fun _ _ _ h => h) rfl (fun w' hw => X.max2 rfl rfl) hS ?_
                      have zS := hSE.le
                      have he0S := he0A.trans hSE
                      have c12 := rof02 (x := m) (w := w11) (Nat.le_refl _) ((hmA.ext hSE).more hSE.le) hmm
                      refine D.one 5 (by kernel_rfl) rfl ?_
                      refine L.call rfl en_38 rfl (c12) ?_
                      rintro e w12 ⟨A12, l12, c12', rfl, hl12, hq12, he12⟩
                      refine ⟨_, rfl, ?_⟩
                      have hS1 := hS.ext he12
                      refine L.nil ?_
                      refine ⟨fun _ => hS1, ?_⟩
                      have ln12 := wds_sum_len (Wd.digw_inb hpA.o.q) (Wd.digw_inb hrA.o.q)
                      rw [hmv] at hl12
                      rw [← hl12, lp, lr] at ln12
                      obtain ⟨z, hz⟩ : ∃ z : Wh, z = ⟨p.s + r.s, p.a + r.a, A12, l12.length, c12', l12, min p.lo r.lo, max p.hi r.hi⟩ := ⟨_, rfl⟩
                      refine D.va 16 rfl (by kernel_rfl) (fun _ _ _ h => h) rfl (fun w' hw => X.build (l := [_, _, _, _, _]) (Evs.cons (by conv => lhs; whnf) (Evs.cons (by conv => lhs; whnf) (Evs.cons (by conv => lhs; whnf) (Evs.cons (by conv => lhs; whnf) (Evs.cons (by conv => lhs; whnf) Evs.nil))))) (bld_run Try.underlying69 (bp_69 Try.underlying69) zr_69 rfl)) hS1 ?_
                      refine D.one 17 (by kernel_rfl) rfl ?_
                      refine L.bslice1 (l := [_, _, _, _, _]) rfl rfl rfl Try.underlying45 sz_69 zr_69 rfl ?_
                      intro b13 w13 hb13 hs13 hk13 he13
                      have hS2 := hS1.ext he13
                      refine L.nil ?_
                      refine ⟨fun _ => hS2, ?_⟩
                      have hk13 : Blk w13 b13 69 z.vs.toArray := by rw [hz]; exact hk13
                      have e13 := (hSE.trans he12).trans he13
                      have ho13 := hoA.ext e13
                      have z13 := e13.le
                      refine D.one 18 (by kernel_rfl) rfl ?_
                      refine L.appendV (q := i + 1) (ys := ((zs ++ [z]).flatMap Wh.vs)) rfl rfl rfl Try.underlying45 el_69 (ho13) ((blk_readsN (sz := 5) (q := 1) (l := z.vs) hk13 hk13.lt rfl)) (by first | rfl | exact strs_ones _ | assumption) (by omega) (by simp) (by unfold maxLen; omega) (by omega) ?_
                      intro A9 c9 w14 ho14 hg14 hb14 hor14
                      have hS3 := hS2.row2 ho13 hg14 (by decide) (fun g hg ↦ by have := (ho6.lt g hg).2; omega)
                      refine L.nil ?_
                      refine ⟨fun _ => hS3, ?_⟩
                      have hC14 : TCh 69 w13 w14 := TCh.row ho13 hg14
                      have hk14 := hS3.a
                      have he14 := hS3.e
                      have z14 := hg14.size
                      have hk114 := hC14.blk (hk1A.ext e13) (by decide)
                      have hk214 := hC14.blk (hk2A.ext e13) (by decide)
                      have hk314 := hC14.blk (hk3A.ext e13) (by decide)
                      refine D.va 19 rfl (by kernel_rfl) (fun _ _ _ h => h) rfl (fun w' hw => X.fieldAddr rfl Try.underlying48 rfl sz_45 (by decide)) hS3 ?_
                      refine D.one 20 (by kernel_rfl) rfl ?_
                      refine L.store rfl rfl (by conv => lhs; whnf) rfl sz_45 (hk14) (by first | decide | exact Nat.le_of_ble_eq_true rfl) ?_
                      intro w15 hk415 hg15 hs15
                      refine L.nil ?_
                      refine ⟨fun h => absurd rfl h, ?_⟩
                      have hk415 : Blk w15 b4 48 #[.int .u64 (x.k : Int), .int .i64 (x.t + y.t), .slice A9 ((i + 1 : Nat) : Nat) c9, .slice none 0 0] := hk415
                      have hC15 : TCh 48 w14 w15 := TCh.put hk14 hg15
                      have he15 : Ext w w15 := he14.grw hg15 (by intro g hg; injection hg with hg; omega)
                      have hk115 := hk114.grown hg15 (fun e => by injection e with e; omega)
                      have hk215 := hk214.grown hg15 (fun e => by injection e with e; omega)
                      have hk315 := hk314.grown hg15 (fun e => by injection e with e; omega)
                      have ho15 := hC15.own ho14 (by decide)
                      have e6 := he6A.trans e13
                      have hzc : z.con = vW p.con r.con := by rw [vW_ok hyes, ← hl12, hz]
                      have hq15 := hC15.own (hC14.own (hq12.ext he13) (by decide)) (by decide)
                      have hzM : z.My w.heap.size w15 := by
                        have lo1 := hpA.o.lo
                        have lo2 := hrA.o.lo
                        have hi1 := hpA.o.hi
                        have hi2 := hrA.o.hi
                        rw [hz]
                        exact ⟨own_lowN hq15 he0S.le, by show l12.length ≤ _; unfold maxLen; omega, ⟨hs1, hs2, by rw [hl12]; exact Wd.inb_digw (Wd.wds_dig _), by show In64 (min p.lo r.lo); omega, by show In64 (max p.hi r.hi); omega⟩, own_le' hq15⟩
                      have hzn : z.n ≤ q + 1 := by rw [hz]; show l12.length ≤ q + 1; omega
                      refine D.done (by kernel_rfl) ?_
                      refine J.region ?_
                      refine L.va rfl (X.move (by conv => lhs; whnf)) ?_
                      refine L.va rfl (X.add rfl rfl (by omega)) ?_
                      refine L.va rfl (X.assign (by conv => lhs; whnf)) ?_
                      refine L.nil ?_
                      refine ⟨(i + 1, A9, c9, zs ++ [z]), At1 (by first | rfl | exact at_int rfl (by omega) | exact at_slice rfl (by omega) | exact at_int rfl (by simp)), (by (iterate 23 refine Agr.lk rfl ?_); refine Agr.lk rfl ?_; refine Agr.hav rfl ?_; (iterate 27 refine Agr.lk rfl ?_); refine Agr.lk rfl ?_; refine Agr.hav rfl ?_; (iterate 5 refine Agr.lk rfl ?_); exact Agr.lk rfl (Agr.hav rfl Agr.rfl')), ?_⟩
                      refine ⟨⟨by omega, by rw [List.length_append, hl6]; rfl, fun j hj => ?_, fun u hu => ?_, ho15, hk415, hk115, hk215, hk315, he15, by have := e6.le; omega⟩, by show x.ni - (i + 1) < x.ni - i; omega⟩
                      · rcases Nat.lt_or_ge j i with h | h
                        · rw [gd_l (by omega)]
                          exact hv6 j h
                        · rw [gd_r (by omega), show j = i by omega, ← hp, ← hr]
                          exact ⟨eW_ok hyes, hzc⟩
                      · rcases List.mem_append.1 hu with hu | hu
                        · exact ⟨(((hz6 u hu).1.ext e6).put hC14 (by decide)).put hC15 (by decide), (hz6 u hu).2⟩
                        · rw [List.mem_singleton] at hu
                          rw [hu]
                          exact ⟨hzM, hzn⟩
            · have hlt : ¬ (i : Int) < (x.ni : Int) := hlt
              obtain rfl : i = x.ni := by omega
              have hI0 := first_i0 (x := x) (y := y) fun j hj => (hv6 j (by omega)).1
              refine J.exit ?_
              refine J.seq ?_
              refine J.seq ?_
              refine J.region ?_
              refine L.va rfl (X.assign (by conv => lhs; whnf)) ?_
              refine L.nil ?_
              refine J.block ?_
              refine J.loop (X := Nat × Option Addr × Nat × List Re) [5, 17, 18, 19, 20, 21, 22, 23, 24, 25, 132, 133, 134, 135, 136, 137, 138, 139, 140, 141, 142, 143, 144, 145, 146, 147, 148, 149, 150, 151, 152, 153, 154, 155, 156, 157, 158, 159, 160, 161, 162, 163, 164, 165, 166, 167, 168, 169, 170, 171, 172, 173, 174, 175, 176, 177, 178, 179, 180, 181, 182, 183, 184, 185, 186, 187, 188, 189, 190, 191, 192, 193, 194] (fun (j, B, d, us) => [(17, .int .i64 (j : Int))]) (fun (j, B, d, us) w' => j ≤ x.nr ∧ us.length = j ∧ (∀ k, k < j → eR (x.rs.getD k re0).con (y.rs.getD k re0).con = 0 ∧ (us.getD k re0).con = vR (x.rs.getD k re0).con (y.rs.getD k re0).con) ∧ (∀ z ∈ us, z.My w.heap.size w' ∧ z.n ≤ 300) ∧ w'.ownsRow w.heap.size 72 3 (.slice B j d) j (us.flatMap Re.vs) ∧ (∀ z ∈ zs, z.My w.heap.size w' ∧ z.n ≤ q + 1) ∧ w'.ownsRow w.heap.size 69 5 (.slice A x.ni c) x.ni (zs.flatMap Wh.vs) ∧ Blk w' b4 48 #[.int .u64 (x.k : Int), .int .i64 (x.t + y.t), .slice A x.ni c, .slice B j d] ∧ Blk w' b1 48 x.vs.toArray ∧ Blk w' b2 48 y.vs.toArray ∧ Blk w' b3 48 #[.int .u64 0, .int .i64 0, .slice none 0 0, .slice none 0 0] ∧ Ext w w' ∧ w5.heap.size ≤ w'.heap.size) (fun (j, _) => x.nr - j) ((0, none, 0, [])) (At1 (by first | rfl | exact at_int rfl (by omega) | exact at_slice rfl (by omega) | exact at_int rfl (by simp))) ?_ ?_
              · exact ⟨Nat.zero_le _, rfl, fun j hj => absurd hj (by omega), (fun z hz => by cases hz), own_nil _ _ _ _, hz6, ho6, hk46, hk16, hk26, hk36, he6, z6⟩
              · rintro ⟨j, B, d, us⟩ g w6' ⟨hj, hl11, hv11, hz11, hr11, hzi11, ho11, hk411, hk111, hk211, hk311, he11, z11⟩
                refine J.seq ?_
                refine J.seq ?_
                refine J.region ?_
                refine L.va rfl (X.move (by conv => lhs; whnf)) ?_
                refine L.va rfl (X.fieldAddr rfl Try.underlying48 rfl sz_46 (by decide)) ?_
                refine L.va rfl (X.load rfl sc_46 (by first | exact Ld.blk hk111 rfl | exact Ld.blk hk211 rfl)) ?_
                refine L.va rfl (X.len rfl Try.underlying46) ?_
                refine L.va rfl (X.lss rfl rfl) ?_
                refine L.nil ?_
                refine J.dec rfl (fun hlt2 => ?_) (fun hlt2 => ?_)
                · have hlt2 : (j : Int) < (x.nr : Int) := hlt2
                  obtain ⟨p, hp⟩ : ∃ p, p = x.rs.getD j re0 := ⟨_, rfl⟩
                  obtain ⟨r, hr⟩ : ∃ r, r = y.rs.getD j re0 := ⟨_, rfl⟩
                  have gp := gtR (l := x.rs) (i := j) (by omega)
                  have gr := gtR (l := y.rs) (i := j) (by omega)
                  rw [← hp] at gp
                  rw [← hr] at gr
                  have hAx := hx.r.some_ (by omega)
                  have hAy := hy.r.some_ (by omega)
                  have zo := (Lx.lr p (by rw [hp]; exact memD (by omega)))
                  have zr := (Ly.lr r (by rw [hr]; exact memD (by omega)))
                  have hpA := hx.hr p (by rw [hp]; exact memD (by omega))
                  have hrA := hy.hr r (by rw [hr]; exact memD (by omega))
                  have lp := hpA.len
                  have lr := hrA.len
                  refine J.skip ?_
                  refine J.seq ?_
                  refine J.block ?_
                  refine J.cut (X := Nat × Nat) [18, 19, 139, 140, 141, 142, 143, 144, 145, 146, 147, 148] (fun (g10, g11) => [(18, .pointer (some ⟨g10, 0, none⟩)), (19, .pointer (some ⟨g11, 0, none⟩))]) (fun (g10, g11) w' => Blk w' g10 72 p.vs.toArray ∧ Blk w' g11 72 r.vs.toArray ∧ w6'.heap.size ≤ g10 ∧ w6'.heap.size ≤ g11 ∧ Ext w6' w') ?_ ?_
                  · skip
                    refine J.draw (ℓ := 1000000) (S := Ext w6') mixed (fun w7 hS hS_h => ?_)
                    refine D.va 0 rfl (by kernel_rfl) (fun _ _ _ h => h) rfl (fun w' hw => X.fieldAddr rfl Try.underlying48 rfl sz_46 (by decide)) hS ?_
                    refine D.va 1 rfl (by kernel_rfl) (fun _ _ _ h => h) rfl (fun w' hw => X.load rfl sc_46 (by first | exact Ld.blk (hk111.ext hw) rfl | exact Ld.blk (hk211.ext hw) rfl | exact hAx | exact hAy)) hS ?_
                    refine D.va 2 rfl (by kernel_rfl) (fun _ _ _ h => h) rfl (fun w' hw => X.move (by conv => lhs; whnf)) hS ?_
                    refine D.va 3 rfl (by kernel_rfl) (fun _ _ _ h => h) rfl (fun w' hw => (by first | exact X.indexAddrn rfl rfl Try.underlying46 sz_72 (by first | exact Option.some_ne_none _ | exact hAx | exact hAy) (by omega) | exact X.indexAddr rfl rfl Try.underlying46 sz_72 (by first | exact Option.some_ne_none _ | exact hAx | exact hAy) (by omega))) hS ?_
                    refine D.va 4 rfl (by kernel_rfl) (fun _ _ _ h => h) rfl (fun w' hw => X.loadRow (cs := p.vs) rfl (hx.r.ext (he11.trans hw)) (fun r u hu => flat_row re_len gp r u hu) (Nat.zero_lt_succ _) Try.underlying72 rfl (by kernel_rfl)) hS ?_
                    refine D.va 5 rfl (by kernel_rfl) (fun _ _ _ h => h) rfl (fun w' hw => X.fieldAddr rfl Try.underlying48 rfl sz_46 (by decide)) hS ?_
                    refine D.va 6 rfl (by kernel_rfl) (fun _ _ _ h => h) rfl (fun w' hw => X.load rfl sc_46 (by first | exact Ld.blk (hk111.ext hw) rfl | exact Ld.blk (hk211.ext hw) rfl | exact hAx | exact hAy)) hS ?_
                    refine D.va 7 rfl (by kernel_rfl) (fun _ _ _ h => h) rfl (fun w' hw => X.move (by conv => lhs; whnf)) hS ?_
                    refine D.va 8 rfl (by kernel_rfl) (fun _ _ _ h => h) rfl (fun w' hw => (by first | exact X.indexAddrn rfl rfl Try.underlying46 sz_72 (by first | exact Option.some_ne_none _ | exact hAx | exact hAy) (by omega) | exact X.indexAddr rfl rfl Try.underlying46 sz_72 (by first | exact Option.some_ne_none _ | exact hAx | exact hAy) (by omega))) hS ?_
                    refine D.va 9 rfl (by kernel_rfl) (fun _ _ _ h => h) rfl (fun w' hw => X.loadRow (cs := r.vs) rfl (hy.r.ext (he11.trans hw)) (fun r u hu => flat_row re_len gr r u hu) (Nat.zero_lt_succ _) Try.underlying72 rfl (by kernel_rfl)) hS ?_
                    refine D.two 10 11 (by kernel_rfl) rfl rfl ?_ ?_
                    · have za := (hS).le
                      try have l11 := hk11.lt
                      refine L.alloc rfl zr_72 ?_
                      intro b10 wa hb10 hs10 hk10 hea
                      have hS1 := (hS).trans hea
                      refine L.nil ?_
                      refine ⟨fun _ => hS1, ?_⟩
                      have g10 : w6'.heap.size ≤ b10 := by omega
                      try replace hk11 := hk11.ext hea
                      have zb := (hS1).le
                      try have l10 := hk10.lt
                      refine D.one 11 (by kernel_rfl) rfl ?_
                      refine L.alloc rfl zr_72 ?_
                      intro b11 wb hb11 hs11 hk11 heb
                      have hS2 := (hS1).trans heb
                      refine L.nil ?_
                      refine ⟨fun _ => hS2, ?_⟩
                      have g11 : w6'.heap.size ≤ b11 := by omega
                      try replace hk10 := hk10.ext heb
                      refine D.one 12 (by kernel_rfl) rfl ?_
                      refine L.storeAgg (vs := [_, _, _]) rfl rfl rfl rfl sz_72 (hk10) rfl ?_
                      intro wc hk10' hgc hsc
                      have hS3 := (hS2).grw hgc (by intro g hg; injection hg with hg; omega)
                      refine L.nil ?_
                      refine ⟨fun _ => hS3, ?_⟩
                      have hk10 : Blk wc b10 72 p.vs.toArray := hk10'
                      try replace hk11 := hk11.grown hgc (fun e => by injection e with e; omega)
                      refine D.one 13 (by kernel_rfl) rfl ?_
                      refine L.storeAgg (vs := [_, _, _]) rfl rfl rfl rfl sz_72 (hk11) rfl ?_
                      intro wd hk11' hgd hsd
                      have hS4 := (hS3).grw hgd (by intro g hg; injection hg with hg; omega)
                      refine L.nil ?_
                      refine ⟨fun _ => hS4, ?_⟩
                      have hk11 : Blk wd b11 72 r.vs.toArray := hk11'
                      try replace hk10 := hk10.grown hgd (fun e => by injection e with e; omega)
                      refine D.done (by kernel_rfl) ?_
                      replace hk111 := hk111.ext hS4
                      replace hk211 := hk211.ext hS4
                      refine ⟨(b10, b11), At2 (by first | rfl | exact at_int rfl (by omega) | exact at_slice rfl (by omega) | exact at_int rfl (by simp)) (by first | rfl | exact at_int rfl (by omega) | exact at_slice rfl (by omega) | exact at_int rfl (by simp)), (by (iterate 12 refine Agr.lk rfl ?_); exact Agr.rfl'), ?_⟩
                      exact ⟨hk10, hk11, g10, g11, hS4⟩
                    · have zb := (hS).le
                      try have l10 := hk10.lt
                      refine L.alloc rfl zr_72 ?_
                      intro b11 wb hb11 hs11 hk11 heb
                      have hS1 := (hS).trans heb
                      refine L.nil ?_
                      refine ⟨fun _ => hS1, ?_⟩
                      have g11 : w6'.heap.size ≤ b11 := by omega
                      try replace hk10 := hk10.ext heb
                      have za := (hS1).le
                      try have l11 := hk11.lt
                      refine D.one 10 (by kernel_rfl) rfl ?_
                      refine L.alloc rfl zr_72 ?_
                      intro b10 wa hb10 hs10 hk10 hea
                      have hS2 := (hS1).trans hea
                      refine L.nil ?_
                      refine ⟨fun _ => hS2, ?_⟩
                      have g10 : w6'.heap.size ≤ b10 := by omega
                      try replace hk11 := hk11.ext hea
                      refine D.one 12 (by kernel_rfl) rfl ?_
                      refine L.storeAgg (vs := [_, _, _]) rfl rfl rfl rfl sz_72 (hk10) rfl ?_
                      intro wc hk10' hgc hsc
                      have hS3 := (hS2).grw hgc (by intro g hg; injection hg with hg; omega)
                      refine L.nil ?_
                      refine ⟨fun _ => hS3, ?_⟩
                      have hk10 : Blk wc b10 72 p.vs.toArray := hk10'
                      try replace hk11 := hk11.grown hgc (fun e => by injection e with e; omega)
                      refine D.one 13 (by kernel_rfl) rfl ?_
                      refine L.storeAgg (vs := [_, _, _]) rfl rfl rfl rfl sz_72 (hk11) rfl ?_
                      intro wd hk11' hgd hsd
                      have hS4 := (hS3).grw hgd (by intro g hg; injection hg with hg; omega)
                      refine L.nil ?_
                      refine ⟨fun _ => hS4, ?_⟩
                      have hk11 : Blk wd b11 72 r.vs.toArray := hk11'
                      try replace hk10 := hk10.grown hgd (fun e => by injection e with e; omega)
                      refine D.done (by kernel_rfl) ?_
                      replace hk111 := hk111.ext hS4
                      replace hk211 := hk211.ext hS4
                      refine ⟨(b10, b11), At2 (by first | rfl | exact at_int rfl (by omega) | exact at_slice rfl (by omega) | exact at_int rfl (by simp)) (by first | rfl | exact at_int rfl (by omega) | exact at_slice rfl (by omega) | exact at_int rfl (by simp)), (by (iterate 12 refine Agr.lk rfl ?_); exact Agr.rfl'), ?_⟩
                      exact ⟨hk10, hk11, g10, g11, hS4⟩
                  · rintro ⟨g10, g11⟩ g w7 ⟨hk10, hk11, hg10, hg11, he67⟩
                    have he7 := he11.trans he67
                    have zz7 := he7.le
                    have c8 := rread05 p.A p.n p.c p.b w7 (N := N) (by omega) (hpA.r.ext he7) hpA.o.b lp (by omega)
                    refine J.seq ?_
                    refine J.region ?_
                    refine L.va rfl (X.fieldAddr rfl Try.underlying72 rfl sz_37 (by decide)) ?_
                    refine L.va rfl (X.load rfl sc_37 (by first | exact Ld.blk hk10 rfl | exact Ld.blk hk11 rfl)) ?_
                    refine L.call rfl en_39 rfl (c8) ?_
                    rintro e w8 ⟨v1, rfl, he78, ⟨vs1, rfl, hl1, hones1⟩, hok1⟩
                    refine ⟨_, rfl, ?_⟩
                    have he78 : Ext w7 w8 := he78
                    refine L.va rfl (X.move (by conv => lhs; whnf)) ?_
                    refine L.va rfl (X.extract rfl rfl) ?_
                    refine L.va rfl (X.extract rfl rfl) ?_
                    refine L.alloc rfl zr_85 ?_
                    intro b20 w9 hb20 hs20 hk20 he89
                    refine L.storeAgg (vs := vs1) rfl rfl rfl hones1 (by rw [hl1]; exact sz_85) hk20 (by rw [hl1]; rfl) ?_
                    intro w10 hk20' hg20 hs20'
                    have hk20 : Blk w10 b20 85 vs1.toArray := hk20'
                    have he810 : Ext w8 w10 := he89.grw hg20 (by intro g hg; injection hg with hg; omega)
                    have he710 := he78.trans he810
                    have he10 := he7.trans he710
                    have hk10 := hk10.ext he710
                    have hk11 := hk11.ext he710
                    have zz10 := he10.le
                    have c11 := rread05 r.A r.n r.c r.b w10 (N := N) (by omega) (hrA.r.ext he10) hrA.o.b lr (by omega)
                    refine L.va rfl (X.assign (by conv => lhs; whnf)) ?_
                    refine L.nil ?_
                    refine J.seq ?_
                    refine J.region ?_
                    refine L.va rfl (X.fieldAddr rfl Try.underlying72 rfl sz_37 (by decide)) ?_
                    refine L.va rfl (X.load rfl sc_37 (by first | exact Ld.blk hk10 rfl | exact Ld.blk hk11 rfl)) ?_
                    refine L.call rfl en_39 rfl (c11) ?_
                    rintro e w11 ⟨v2, rfl, he1011, ⟨vs2, rfl, hl2, hones2⟩, hok2⟩
                    refine ⟨_, rfl, ?_⟩
                    have he1011 : Ext w10 w11 := he1011
                    refine L.va rfl (X.move (by conv => lhs; whnf)) ?_
                    refine L.va rfl (X.extract rfl rfl) ?_
                    refine L.va rfl (X.extract rfl rfl) ?_
                    refine L.alloc rfl zr_85 ?_
                    intro b22 w12 hb22 hs22 hk22 he1112
                    refine L.storeAgg (vs := vs2) rfl rfl rfl hones2 (by rw [hl2]; exact sz_85) hk22 (by rw [hl2]; rfl) ?_
                    intro w13 hk22' hg22 hs22'
                    have hk22 : Blk w13 b22 85 vs2.toArray := hk22'
                    have he1113 : Ext w11 w13 := he1112.grw hg22 (by intro g hg; injection hg with hg; omega)
                    have he1013 := he1011.trans he1113
                    have he713 := he710.trans he1013
                    have he613 := he67.trans he713
                    have he013 := he11.trans he613
                    have hk20 := hk20.ext he1013
                    have hk10 := hk10.ext he1013
                    have hk11 := hk11.ext he1013
                    have zz13 := he013.le
                    have hk313 := hk311.ext he613
                    have bad : eR p.con r.con ≠ 0 → eJ x.con y.con = eR p.con r.con := fun h => by
                      rw [hp, hr] at h ⊢
                      exact eJ_r hsh h4 hI0 (by omega) (fun j hj => (hv11 j hj).1) h
                    refine L.va rfl (X.assign (by conv => lhs; whnf)) ?_
                    refine L.nil ?_
                    refine J.seq ?_
                    refine J.seq ?_
                    refine J.region ?_
                    refine L.va rfl (X.move (by conv => lhs; whnf)) ?_
                    refine L.va rfl (X.neq rfl rfl) ?_
                    refine L.va rfl (X.move (by conv => lhs; whnf)) ?_
                    refine L.caseNdec (k := 163) rfl (fun hb1 => ?_) (fun hb1 => ?_)
                    · have h13 : eR p.con r.con = 13 := eR_rot (.inl (show readE p.b ≠ 0 from hb1))
                      have hE := bad (by rw [h13]; decide)
                      rw [h13] at hE
                      refine L.no rfl ?_
                      refine L.no rfl ?_
                      refine L.va rfl (X.pickT rfl (by conv => lhs; whnf)) ?_
                      refine L.nil ?_
                      refine J.iteT rfl ?_
                      refine J.seq ?_
                      refine J.region ?_
                      refine L.va rfl (X.build (l := [_, _, _, _]) Evs.nil (bld_run Try.underlying48 (bp_48 Try.underlying48) zr_48 rfl)) ?_
                      refine L.storeAgg (vs := [_, _, _, _]) rfl rfl rfl rfl sz_48 (hk313) rfl ?_
                      intro w14 hk14 hg14 hs14
                      have he14 : Ext w w14 := he013.grw hg14 (by intro g hg; injection hg with hg; omega)
                      refine L.va rfl (X.assign (by conv => lhs; whnf)) ?_
                      refine L.nil ?_
                      refine J.ret ?_
                      refine thn_ret <|  inB_ret <|  thn_ret <|  thn_ret <|  inB_ret <|  thn_ret <| ?_
                      refine finCT rfl (run_cell hk14 Try.underlying48 rfl (by kernel_rfl)) ?_
                      exact ⟨ce0, by rw [hE]; rfl, by rw [vJ_no (by rw [hE]; decide)]; rfl, ce0_my _ _, ce0_lt _, he14⟩
                    · have h1r : readE p.b = 0 := by simpa using hb1
                      refine L.va rfl (X.move (by conv => lhs; whnf)) ?_
                      refine L.va rfl (X.neq rfl rfl) ?_
                      refine L.va rfl (X.pickF rfl (by conv => lhs; whnf)) ?_
                      refine L.nil ?_
                      refine J.ndec rfl (fun hb2 => ?_) (fun hb2 => ?_)
                      · have h13 : eR p.con r.con = 13 := eR_rot (.inr (show readE r.b ≠ 0 from hb2))
                        have hE := bad (by rw [h13]; decide)
                        rw [h13] at hE
                        refine J.seq ?_
                        refine J.region ?_
                        refine L.va rfl (X.build (l := [_, _, _, _]) Evs.nil (bld_run Try.underlying48 (bp_48 Try.underlying48) zr_48 rfl)) ?_
                        refine L.storeAgg (vs := [_, _, _, _]) rfl rfl rfl rfl sz_48 (hk313) rfl ?_
                        intro w14 hk14 hg14 hs14
                        have he14 : Ext w w14 := he013.grw hg14 (by intro g hg; injection hg with hg; omega)
                        refine L.va rfl (X.assign (by conv => lhs; whnf)) ?_
                        refine L.nil ?_
                        refine J.ret ?_
                        refine thn_ret <|  inB_ret <|  thn_ret <|  thn_ret <|  inB_ret <|  thn_ret <| ?_
                        refine finCT rfl (run_cell hk14 Try.underlying48 rfl (by kernel_rfl)) ?_
                        exact ⟨ce0, by rw [hE]; rfl, by rw [vJ_no (by rw [hE]; decide)]; rfl, ce0_my _ _, ce0_lt _, he14⟩
                      · have h2r : readE r.b = 0 := by simpa using hb2
                        obtain ⟨t1, ht1, hA1, hg1, hv1, hn1⟩ := hok1 h1r
                        obtain ⟨t2, ht2, hA2, hg2, hv2, hn2⟩ := hok2 h2r
                        have i1 := read_iv hpA.o.b h1r hA1 hg1 hv1
                        have i2 := read_iv hrA.o.b h2r hA2 hg2 hv2
                        injection ht1 with ht1
                        injection ht2 with ht2
                        rw [ht1] at hk20
                        rw [ht2] at hk22
                        refine J.skip ?_
                        refine J.seq ?_
                        refine J.region ?_
                        refine L.va rfl (X.loadAgg rfl (range_l hk20) Try.underlying85 rfl (by kernel_rfl)) ?_
                        refine L.va rfl (X.loadAgg rfl (range_l hk22) Try.underlying85 rfl (by kernel_rfl)) ?_
                        have c14 := rjoin05 (decide (p.b.getD 0 0 % 2 = 1)) (decide (p.b.getD 0 0 / 2 % 2 = 1)) (decide (p.b.getD 0 0 / 4 % 2 = 1)) (decide (p.b.getD 0 0 / 8 % 2 = 1)) (decide (p.b.getD 0 0 / 16 % 2 = 1)) t1 (decide (r.b.getD 0 0 % 2 = 1)) (decide (r.b.getD 0 0 / 2 % 2 = 1)) (decide (r.b.getD 0 0 / 4 % 2 = 1)) (decide (r.b.getD 0 0 / 8 % 2 = 1)) (decide (r.b.getD 0 0 / 16 % 2 = 1)) t2 (w := w13) (Nat.le_refl _) ((hA1.ext (he810.trans he1013)).more (he810.trans he1013).le) ((hA2.ext he1113).more he1113.le) (by omega)
                        refine L.call rfl en_40 rfl (c14) ?_
                        rintro e w14 ⟨he1314, v3, okj, rfl, hl3, hones3, hzj, hrj⟩
                        refine ⟨_, rfl, ?_⟩
                        have he1314 : Ext w13 w14 := he1314
                        rw [i1, i2] at hzj hrj
                        refine L.va rfl (X.move (by conv => lhs; whnf)) ?_
                        refine L.va rfl (X.extract rfl rfl) ?_
                        refine L.va rfl (X.extract rfl rfl) ?_
                        refine L.alloc rfl zr_85 ?_
                        intro b24 w15 hb24 hs24 hk24 he1415
                        refine L.storeAgg (vs := v3) rfl rfl rfl hones3 (by rw [hl3]; exact sz_85) hk24 (by rw [hl3]; rfl) ?_
                        intro w16 hk24' hg24 hs24'
                        have hk24 : Blk w16 b24 85 v3.toArray := hk24'
                        have he1416 : Ext w14 w16 := he1415.grw hg24 (by intro g hg; injection hg with hg; omega)
                        have he1316 := he1314.trans he1416
                        have he616 := he613.trans he1316
                        have he016 := he11.trans he616
                        have zz16 := he016.le
                        have hk10 := hk10.ext he1316
                        have hk11 := hk11.ext he1316
                        have hk416 := hk411.ext he616
                        have hk116 := hk111.ext he616
                        have hk216 := hk211.ext he616
                        have hk316 := hk311.ext he616
                        have ho16 := ho11.ext he616
                        have hr16 := hr11.ext he616
                        refine L.va rfl (X.assign (by conv => lhs; whnf)) ?_
                        refine L.nil ?_
                        refine J.seq ?_
                        refine J.seq ?_
                        refine J.region ?_
                        refine L.va rfl (X.move (by conv => lhs; whnf)) ?_
                        refine L.va rfl (X.not rfl) ?_
                        refine L.nil ?_
                        cases okj
                        · have hno : ¬ ((numB p.con.1 + numB r.con.1).natAbs : Int) < 2 ^ rm := fun h => by
                            have := hzj.2 h
                            cases this
                          have h10 : eR p.con r.con = 10 := eR_no h1r h2r hno
                          have hE := bad (by rw [h10]; decide)
                          rw [h10] at hE
                          refine J.iteT rfl ?_
                          refine J.seq ?_
                          refine J.region ?_
                          refine L.va rfl (X.build (l := [_, _, _, _]) Evs.nil (bld_run Try.underlying48 (bp_48 Try.underlying48) zr_48 rfl)) ?_
                          refine L.storeAgg (vs := [_, _, _, _]) rfl rfl rfl rfl sz_48 (hk316) rfl ?_
                          intro w17 hk17 hg17 hs17
                          have he17 : Ext w w17 := he016.grw hg17 (by intro g hg; injection hg with hg; omega)
                          refine L.va rfl (X.assign (by conv => lhs; whnf)) ?_
                          refine L.nil ?_
                          refine J.ret ?_
                          refine thn_ret <|  inB_ret <|  thn_ret <|  thn_ret <|  inB_ret <|  thn_ret <| ?_
                          refine finCT rfl (run_cell hk17 Try.underlying48 rfl (by kernel_rfl)) ?_
                          exact ⟨ce0, by rw [hE]; rfl, by rw [vJ_no (by rw [hE]; decide)]; rfl, ce0_my _ _, ce0_lt _, he17⟩
                        · have hyes : ((numB p.b + numB r.b).natAbs : Int) < 2 ^ rm := hzj.1 rfl
                          have hE0 : eR p.con r.con = 0 := eR_ok h1r h2r hyes
                          obtain ⟨rj, hv3, hAj, hij, hnj⟩ := hrj rfl
                          rw [hv3] at hk24
                          have hAj16 := (hAj.ext he1416).more he1416.le
                          have hroom := wds_room hyes
                          have hdj : (dv rj.d).toNat = (numB p.b + numB r.b).natAbs := by
                            have := iv_abs hAj
                            rw [hij] at this
                            omega
                          have hb := hpA.o.b
                          have hc := hrA.o.b
                          have k1 := hpA.o.lo
                          have k2 := hrA.o.lo
                          have k3 := hpA.o.hi
                          have k4 := hrA.o.hi
                          have hK : K4 b4 48 #[.int .u64 (x.k : Int), .int .i64 (x.t + y.t), .slice A x.ni c, .slice B j d] g10 72 p.vs.toArray g11 72 r.vs.toArray b24 85 (sV (decide (p.b.getD 0 0 % 2 = 1) || decide (r.b.getD 0 0 % 2 = 1)) (decide (p.b.getD 0 0 / 2 % 2 = 1) || decide (r.b.getD 0 0 / 2 % 2 = 1)) (decide (p.b.getD 0 0 / 4 % 2 = 1) || decide (r.b.getD 0 0 / 4 % 2 = 1)) (decide (p.b.getD 0 0 / 8 % 2 = 1) || decide (r.b.getD 0 0 / 8 % 2 = 1)) (decide (p.b.getD 0 0 / 16 % 2 = 1) || decide (r.b.getD 0 0 / 16 % 2 = 1)) rj).toArray w w16 := ⟨hk416, hk10, hk11, hk24, he016⟩
                          refine J.iteF rfl ?_
                          refine J.skip ?_
                          refine J.draw (ℓ := 18) (S := (fun w' => K4 b4 48 #[.int .u64 (x.k : Int), .int .i64 (x.t + y.t), .slice A x.ni c, .slice B j d] g10 72 p.vs.toArray g11 72 r.vs.toArray b24 85 (sV (decide (p.b.getD 0 0 % 2 = 1) || decide (r.b.getD 0 0 % 2 = 1)) (decide (p.b.getD 0 0 / 2 % 2 = 1) || decide (r.b.getD 0 0 / 2 % 2 = 1)) (decide (p.b.getD 0 0 / 4 % 2 = 1) || decide (r.b.getD 0 0 / 4 % 2 = 1)) (decide (p.b.getD 0 0 / 8 % 2 = 1) || decide (r.b.getD 0 0 / 8 % 2 = 1)) (decide (p.b.getD 0 0 / 16 % 2 = 1) || decide (r.b.getD 0 0 / 16 % 2 = 1)) rj).toArray w w')) mixed (fun w17 hSE hS_h => ?_)
                          have hS : ((fun w' => K4 b4 48 #[.int .u64 (x.k : Int), .int .i64 (x.t + y.t), .slice A x.ni c, .slice B j d] g10 72 p.vs.toArray g11 72 r.vs.toArray b24 85 (sV (decide (p.b.getD 0 0 % 2 = 1) || decide (r.b.getD 0 0 % 2 = 1)) (decide (p.b.getD 0 0 / 2 % 2 = 1) || decide (r.b.getD 0 0 / 2 % 2 = 1)) (decide (p.b.getD 0 0 / 4 % 2 = 1) || decide (r.b.getD 0 0 / 4 % 2 = 1)) (decide (p.b.getD 0 0 / 8 % 2 = 1) || decide (r.b.getD 0 0 / 8 % 2 = 1)) (decide (p.b.getD 0 0 / 16 % 2 = 1) || decide (r.b.getD 0 0 / 16 % 2 = 1)) rj).toArray w w')) w17 := hK.ext hSE
                          have eX := hSE
                          have hRJ := (hAj16.ext hSE).more hSE.le
                          refine D.va 0 rfl (by kernel_rfl) (fun _ _ _ h => h) rfl (fun w' hw => X.fieldAddr rfl Try.underlying48 rfl sz_46 (by decide)) hS ?_
                          refine D.va 1 rfl (by kernel_rfl) (fun _ _ _ h => h) rfl (fun w' hw => X.load rfl sc_46 (by first | exact Ld.blk hw.a rfl | exact Ld.blk hw.b rfl | exact Ld.blk hw.c rfl)) hS ?_
                          refine D.va 2 rfl (by kernel_rfl) (fun _ _ _ h => h) rfl (fun w' hw => X.loadAgg rfl (range_l hw.d) Try.underlying85 rfl (by kernel_rfl)) hS ?_
                          refine D.va 4 rfl (by kernel_rfl) (fun _ _ _ h => h) rfl (fun w' hw => X.fieldAddr rfl Try.underlying72 rfl sz_70 (by decide)) hS ?_
                          refine D.va 5 rfl (by kernel_rfl) (fun _ _ _ h => h) rfl (fun w' hw => X.load rfl sc_70 (by first | exact Ld.blk hw.a rfl | exact Ld.blk hw.b rfl | exact Ld.blk hw.c rfl)) hS ?_
                          refine D.va 6 rfl (by kernel_rfl) (fun _ _ _ h => h) rfl (fun w' hw => X.fieldAddr rfl Try.underlying72 rfl sz_70 (by decide)) hS ?_
                          refine D.va 7 rfl (by kernel_rfl) (fun _ _ _ h => h) rfl (fun w' hw => X.load rfl sc_70 (by first | exact Ld.blk hw.a rfl | exact Ld.blk hw.b rfl | exact Ld.blk hw.c rfl)) hS ?_
                          refine D.va 9 rfl (by kernel_rfl) (fun _ _ _ h => h) rfl (fun w' hw => X.fieldAddr rfl Try.underlying72 rfl sz_70 (by decide)) hS ?_
                          refine D.va 10 rfl (by kernel_rfl) (fun _ _ _ h => h) rfl (fun w' hw => X.load rfl sc_70 (by first | exact Ld.blk hw.a rfl | exact Ld.blk hw.b rfl | exact Ld.blk hw.c rfl)) hS ?_
                          refine D.va 11 rfl (by kernel_rfl) (fun _ _ _ h => h) rfl (fun w' hw => X.fieldAddr rfl Try.underlying72 rfl sz_70 (by decide)) hS ?_
                          refine D.va 12 rfl (by kernel_rfl) (fun _ _ _ h => h) rfl (fun w' hw => X.load rfl sc_70 (by first | exact Ld.blk hw.a rfl | exact Ld.blk hw.b rfl | exact Ld.blk hw.c rfl)) hS ?_
                          refine D.one 3 (by kernel_rfl) rfl ?_
                          refine L.call rfl en_41 rfl ((rbytes05 _ _ _ _ _ rj (Nat.le_refl _) hRJ (by omega) (by rw [hdj]; omega))) ?_
                          rintro e wa ⟨zl, A12, c12', o12, hlow, rfl, ho12, hq12, hea⟩
                          refine ⟨_, rfl, ?_⟩
                          have hS1 := (hS).ext hea
                          refine L.nil ?_
                          refine ⟨fun _ => hS1, ?_⟩
                          have zq := eX.le
                          replace eX := eX.trans hea
                          replace hRJ := (hRJ.ext hea).more hea.le
                          refine D.one 8 (by kernel_rfl) rfl ?_
                          refine L.call rfl en_42 rfl ((rleast03 p.lo r.lo _ k1 k2)) ?_
                          rintro e wb ⟨rfl, heb⟩
                          refine ⟨_, rfl, ?_⟩
                          have hS2 := (hS1).ext heb
                          refine L.nil ?_
                          refine ⟨fun _ => hS2, ?_⟩
                          replace eX := eX.trans heb
                          replace hRJ := (hRJ.ext heb).more heb.le
                          try replace hq12 := hq12.ext heb
                          refine D.one 13 (by kernel_rfl) rfl ?_
                          refine L.call rfl en_43 rfl ((rmost03 p.hi r.hi _ k3 k4)) ?_
                          rintro e wc ⟨rfl, hec⟩
                          refine ⟨_, rfl, ?_⟩
                          have hS3 := (hS2).ext hec
                          refine L.nil ?_
                          refine ⟨fun _ => hS3, ?_⟩
                          replace eX := eX.trans hec
                          replace hRJ := (hRJ.ext hec).more hec.le
                          try replace hq12 := hq12.ext hec
                          refine D.va 14 rfl (by kernel_rfl) (fun _ _ _ h => h) rfl (fun w' hw => X.build (l := [_, _, _]) (Evs.cons (by conv => lhs; whnf) (Evs.cons (by conv => lhs; whnf) (Evs.cons (by conv => lhs; whnf) Evs.nil))) (bld_run Try.underlying72 (bp_72 Try.underlying72) zr_72 rfl)) hS3 ?_
                          refine D.one 15 (by kernel_rfl) rfl ?_
                          refine L.bslice1 (l := [_, _, _]) rfl rfl rfl Try.underlying46 sz_72 zr_72 rfl ?_
                          intro b13 wd hb13 hs13 hk13 hed
                          have hS4 := (hS3).ext hed
                          refine L.nil ?_
                          refine ⟨fun _ => hS4, ?_⟩
                          replace eX := eX.trans hed
                          replace hq12 := hq12.ext hed
                          obtain ⟨z, hz⟩ : ∃ z : Re, z = ⟨A12, o12.length, c12', o12, leastF p.lo r.lo, mostF p.hi r.hi⟩ := ⟨_, rfl⟩
                          have hk13 : Blk wd b13 72 z.vs.toArray := by rw [hz]; exact hk13
                          have hrX := hr16.ext eX
                          have zX := eX.le
                          refine D.one 16 (by kernel_rfl) rfl ?_
                          refine L.appendV (q := j + 1) (ys := ((us ++ [z]).flatMap Re.vs)) rfl rfl rfl Try.underlying46 el_72 (hrX) ((blk_readsN (sz := 3) (q := 1) (l := z.vs) hk13 hk13.lt rfl)) (by first | rfl | exact strs_ones _ | assumption) (by omega) (by simp) (by unfold maxLen; omega) (by omega) ?_
                          intro A9 c9 we ho14 hg14 hb14 hor14
                          have hS5 := (hS4).row2 hrX hg14 (by decide) (fun g hg ↦ by have := (hr11.lt g hg).2; omega)
                          refine L.nil ?_
                          refine ⟨fun _ => hS5, ?_⟩
                          have hC14 : TCh 72 wd we := TCh.row hrX hg14
                          have hk14 := (hS5).a
                          have he14 := (hS5).e
                          have z14 := hg14.size
                          have hk114 := hC14.blk (hk116.ext eX) (by decide)
                          have hk214 := hC14.blk (hk216.ext eX) (by decide)
                          have hk314 := hC14.blk (hk316.ext eX) (by decide)
                          have hoX := hC14.own (ho16.ext eX) (by decide)
                          refine D.va 17 rfl (by kernel_rfl) (fun _ _ _ h => h) rfl (fun w' hw => X.fieldAddr rfl Try.underlying48 rfl sz_46 (by decide)) hS5 ?_
                          refine D.one 18 (by kernel_rfl) rfl ?_
                          refine L.store rfl rfl (by conv => lhs; whnf) rfl sz_46 (hk14) (by first | decide | exact Nat.le_of_ble_eq_true rfl) ?_
                          intro w15' hk415 hg15 hs15
                          refine L.nil ?_
                          refine ⟨fun h => absurd rfl h, ?_⟩
                          refine D.done (by kernel_rfl) ?_
                          refine J.region ?_
                          refine L.va rfl (X.move (by conv => lhs; whnf)) ?_
                          refine L.va rfl (X.add rfl rfl (by omega)) ?_
                          refine L.va rfl (X.assign (by conv => lhs; whnf)) ?_
                          refine L.nil ?_
                          have hk415 : Blk w15' b4 48 #[.int .u64 (x.k : Int), .int .i64 (x.t + y.t), .slice A x.ni c, .slice A9 ((j + 1 : Nat) : Nat) c9] := hk415
                          have hC15 : TCh 48 we w15' := TCh.put hk14 hg15
                          have he15 : Ext w w15' := he14.grw hg15 (by intro g hg; injection hg with hg; omega)
                          have hk115 := hk114.grown hg15 (fun e => by injection e with e; omega)
                          have hk215 := hk214.grown hg15 (fun e => by injection e with e; omega)
                          have hk315 := hk314.grown hg15 (fun e => by injection e with e; omega)
                          have hr15 := hC15.own ho14 (by decide)
                          have ho15 := hC15.own hoX (by decide)
                          have hq15 := hC15.own (hC14.own hq12 (by decide)) (by decide)
                          have e6 := he616.trans eX
                          have ho12e := bytes_eq hb hc h1r h2r hAj hij hlow ho12
                          have lB := bytB_len (bits .or .u8 (cameB p.b) (cameB r.b)) (numB p.b + numB r.b)
                          have hzc : z.con = vR p.con r.con := by rw [vR_ok hE0, hz, ← ho12e]
                          have hzM : z.My w.heap.size w15' := by
                            rw [hz]
                            refine ⟨own_lowN hq15 (by omega), by show o12.length ≤ _; unfold maxLen; rw [ho12e]; exact Nat.le_trans lB (by omega), ⟨?_, leastF_b k1 k2, mostF_b k3 k4⟩⟩
                            show InB 256 o12
                            rw [ho12e]
                            exact bytB_b (or8_b (cameB_b hb) (cameB_b hc)) hroom
                          have hzn : z.n ≤ 300 := by rw [hz]; show o12.length ≤ 300; rw [ho12e]; exact Nat.le_trans lB (by omega)
                          refine ⟨(j + 1, A9, c9, us ++ [z]), At1 (by first | rfl | exact at_int rfl (by omega) | exact at_slice rfl (by omega) | exact at_int rfl (by simp)), (by (iterate 54 refine Agr.lk rfl ?_); refine Agr.lk rfl ?_; refine Agr.hav rfl ?_; (iterate 5 refine Agr.lk rfl ?_); exact Agr.lk rfl (Agr.hav rfl Agr.rfl')), ?_⟩
                          refine ⟨⟨by omega, by rw [List.length_append, hl11]; rfl, fun k hk => ?_, fun u hu => ?_, hr15, fun u hu => ⟨(((hzi11 u hu).1.ext e6).put hC14 (by decide)).put hC15 (by decide), (hzi11 u hu).2⟩, ho15, hk415, hk115, hk215, hk315, he15, by have := e6.le; omega⟩, by show x.nr - (j + 1) < x.nr - j; omega⟩
                          · rcases Nat.lt_or_ge k j with h | h
                            · rw [gd_l (by omega)]
                              exact hv11 k h
                            · rw [gd_r (by omega), show k = j by omega, ← hp, ← hr]
                              exact ⟨hE0, hzc⟩
                          · rcases List.mem_append.1 hu with hu | hu
                            · exact ⟨(((hz11 u hu).1.ext e6).put hC14 (by decide)).put hC15 (by decide), (hz11 u hu).2⟩
                            · rw [List.mem_singleton] at hu
                              rw [hu]
                              exact ⟨hzM, hzn⟩
                · have hlt2 : ¬ (j : Int) < (x.nr : Int) := hlt2
                  obtain rfl : j = x.nr := by omega
                  have hE := eJ_0 hsh h4 hI0 fun k hk => (hv11 k (by omega)).1
                  have hV := vJ_0 hE (zs := zs) (us := us) (by omega) (fun k hk => (hv6 k (by omega)).2) (by omega) (fun k hk => (hv11 k (by omega)).2)
                  refine J.exit ?_
                  refine J.seq ?_
                  refine J.region ?_
                  refine L.va rfl (X.loadAgg rfl (range_l hk411) Try.underlying48 rfl (by kernel_rfl)) ?_
                  refine L.storeAgg (vs := [_, _, _, _]) rfl rfl rfl rfl sz_48 (hk311) rfl ?_
                  intro w8 hk8 hg8 hs8
                  have hC8 : TCh 48 w6' w8 := TCh.put hk311 hg8
                  have he8 : Ext w w8 := he11.grw hg8 (by intro g hg; injection hg with hg; omega)
                  refine L.va rfl (X.assign (by conv => lhs; whnf)) ?_
                  refine L.nil ?_
                  refine J.ret ?_
                  refine finCT rfl (run_cell hk8 Try.underlying48 rfl (by kernel_rfl)) ?_
                  refine ⟨⟨x.k, x.t + y.t, A, x.ni, c, zs, B, x.nr, d, us⟩, by rw [hE]; rfl, hV, ⟨kx, h4, hC8.own ho11 (by decide), fun u hu => (hzi11 u hu).1.put hC8 (by decide), hl6, hC8.own hr11 (by decide), fun u hu => (hz11 u hu).1.put hC8 (by decide), hl11⟩, ⟨L1, L2, fun u hu => (hzi11 u hu).2, fun u hu => (hz11 u hu).2⟩, he8⟩
end Go.Proofs.Ytnndkepnabddgaa
