import Derived.Test.YtjleobcbgldhmaaZOrderKeys2
/-
  What the law leans on, part 3: WOrdI, LOrderRows, FltPlain, FltLogic, WFltA, WFltB, WFltC, LOrderKeys.
-/
namespace Go.Proofs.Ytjleobcbgldhmaa
set_option maxRecDepth 100000
open Go.RowKit H
open Odr Tou
set_option linter.unusedVariables false
theorem by_flat (K : List By) : K.flatMap By.vs = K.map fun k : By => Value.slice k.A k.n k.c := by
  induction K with
  | nil => rfl
  | cons a K ih => rw [List.flatMap_cons, ih]; rfl
theorem by_set (K : List By) (i : Nat) (x : By) : (K.flatMap By.vs).set i (.slice x.A x.n x.c) = (K.set i x).flatMap By.vs := by rw [by_flat, by_flat, List.map_set]
def KOwn (x : By) (N : Nat) (w : World) : Prop := w.ownsRow N 5 1 (.slice x.A x.n x.c) x.n (nums .u8 x.l)
theorem KOwn.at {x : By} {N : Nat} {w : World} (h : KOwn x N w) : x.At w.heap.size w := ⟨Reads.of_own h, own_max h⟩
structure RwOwn (r : Rw) (N : Nat) (w : World) : Prop where
  hc : w.ownsRow N 3 1 (.slice r.Ac r.nc r.cc) r.nc (nums .i64 r.c)
  hv : w.ownsRow N 40 3 (.slice r.Av r.nv r.cv) r.nv (r.v.flatMap Vl.vs)
  hw : wfV r.v
  lv : r.v.length = r.nv
theorem RwOwn.at {r : Rw} {N : Nat} {w : World} (h : RwOwn r N w) : r.At w.heap.size w := ⟨Reads.of_own h.hc, Reads.of_own h.hv, h.hw, h.lv, own_max h.hc, own_max h.hv⟩
theorem RwOwn.ext {r : Rw} {N : Nat} {w w' : World} (h : RwOwn r N w) (he : Ext w w') : RwOwn r N w' := ⟨h.hc.ext he, h.hv.ext he, h.hw, h.lv⟩
theorem RwOwn.kept {r : Rw} {N N' n sz : Nat} {w w' : World} {v : Value} {xs : List Value} (h : RwOwn r N w) (ho : w.ownsRow N' 26 sz v n xs) (hg : w.grownBy w' v.ownBlock) : RwOwn r N w' :=
  ⟨h.hc.kept hg (own_or h.hc ho (by decide)), h.hv.kept hg (own_or h.hv ho (by decide)), h.hw, h.lv⟩
def Rw.say (r : Rw) : List Int × List Vl := (r.c, r.v)
theorem take_snoc {l : List Int} {i : Nat} (h : i < l.length) : l.take (i + 1) = l.take i ++ [l.getD i 0] := by
  rw [List.take_add_one, List.getElem?_eq_getElem h]
  simp [List.getD, h]
def OrRows (s : Rws) (o : Or) (lim : Int) (w : World) (e : Ending) (w' : World) : Prop :=
  ∃ (A : Option Addr) (m c : Nat) (L : List Rw) (z : List Int), e = .returned (.slice A m c) ∧ w'.ownsRow w.heap.size 26 2 (.slice A m c) m (L.flatMap Rw.vs) ∧ L.length = m ∧ (∀ x ∈ L, RwOwn x w.heap.size w') ∧
    L.map Rw.say = z.map (fun x : Int => (s.l.getD x.toNat rw0).say) ∧ Firsts (ahL (s.l.map (keyO o))) s.n m z ∧ m = min s.n (if lim ≤ 0 then (s.n : Int) else lim).toNat ∧ Ext w w'
theorem orows (A : Option Addr) (n c : Nat) (o : Or) (s : Rws) (lim : Int) (w : World) (ho : Reads w w.heap.size 2 A n (o.flatMap oR)) (lo : o.length = n) (hn : n ≤ 20) (hs : s.At w.heap.size w) (hL : s.Light) (hk : ∀ x ∈ s.l, x.Ok) :
    Calls Try.prog 13 #[.slice A n c, s.val, .int .i64 lim] w (OrRows s o lim w) := by
  have ls := hs.l
  have hsn := hL.1
  refine enter Try.func13 rfl (by kernel_rfl) ?_
  refine J.seq ?_
  refine J.region ?_
  refine L.va rfl (X.assign (by conv => lhs; whnf)) ?_
  refine L.nil ?_
  refine J.seq ?_
  refine J.region ?_
  refine L.va rfl (X.move (by conv => lhs; whnf)) ?_
  refine L.va rfl (X.len rfl Try.underlying28) ?_
  refine L.make (q := s.n) (c := s.n) rfl rfl rfl Try.underlying47 el_30 (by omega) ?_
  intro b1 w1 hb1 hs1 hk1 he1
  rw [made_one rfl] at hk1
  have z1 := he1.le
  have hwb : w.heap.size ≤ b1 := by omega
  have ho1 : w1.ownsRow w.heap.size 30 1 (.slice (some ⟨b1, 0, none⟩) s.n s.n) s.n ((List.replicate s.n by0).flatMap By.vs) := by
    have := blk_own1 (base := w.heap.size) (q := s.n) (l := List.replicate s.n (Value.slice none 0 0)) hk1 hwb (by unfold maxLen; omega) (by simp)
    rw [by_flat, List.map_replicate]
    exact this
  refine L.va rfl (X.assign (by conv => lhs; whnf)) ?_
  refine L.nil ?_
  refine J.seq ?_
  refine J.seq ?_
  refine J.region ?_
  refine L.va rfl (X.move (by conv => lhs; whnf)) ?_
  refine L.va rfl (X.len rfl Try.underlying28) ?_
  refine L.va rfl (X.move (by conv => lhs; whnf)) ?_
  refine L.nil ?_
  refine J.block ?_
  refine J.loop (X := Nat × List By) [8, 9, 18, 19, 20, 21, 22, 23, 24, 25, 26, 27, 28, 29] (fun (i, K) => [(18, .int .i64 (i : Int))]) (fun (i, K) w' => i ≤ s.n ∧ K.length = s.n ∧ (∀ x ∈ K, KOwn x w.heap.size w') ∧ (∀ j, j < i → (K.getD j by0).l = keyO o (s.l.getD j rw0)) ∧ w'.ownsRow w.heap.size 30 1 (.slice (some ⟨b1, 0, none⟩) s.n s.n) s.n (K.flatMap By.vs) ∧ Ext w w') (fun (i, _) => s.n - i) ((0, List.replicate s.n by0)) (At1 (by first | rfl | exact at_int rfl (by omega) | exact at_slice rfl (by omega) | exact at_int rfl (by simp))) ?_ ?_
  · refine ⟨Nat.zero_le _, List.length_replicate .., fun x hx => ?_, fun j hj => absurd hj (by omega), ho1, he1⟩
    rw [(List.mem_replicate.1 hx).2]
    exact own_nil _ _ _ _
  · rintro ⟨i, K⟩ g w2 ⟨hi, hKl, hKo, hKe, ho2, he2⟩
    have z2 := he2.le
    have S2 := hs.ext he2
    refine J.seq ?_
    refine J.region ?_
    refine L.va rfl (X.lss rfl rfl) ?_
    refine L.nil ?_
    refine J.seq ?_
    refine J.dec rfl (fun hlt => ?_) (fun hlt => ?_)
    · have hin : i < s.n := by omega
      have hA := S2.r.some_ (by omega)
      obtain ⟨x, hx⟩ : ∃ x, x = s.l.getD i rw0 := ⟨_, rfl⟩
      have gx := gtR (l := s.l) (i := i) (by omega)
      have mx := memR (l := s.l) (i := i) (by omega)
      rw [← hx] at gx mx
      refine J.skip ?_
      refine J.seq ?_
      refine J.block ?_
      refine J.seq ?_
      refine J.region ?_
      refine L.va rfl (X.move (by conv => lhs; whnf)) ?_
      refine L.va rfl ((by first | exact X.indexAddrn rfl rfl Try.underlying28 sz_26 (by first | exact Option.some_ne_none _ | exact hA) (by omega) | exact X.indexAddr rfl rfl Try.underlying28 sz_26 (by first | exact Option.some_ne_none _ | exact hA) (by omega))) ?_
      refine L.va rfl (X.loadRow (cs := x.vs) rfl S2.r (fun r u hu => flat_row rw_len gx r u hu) (Nat.zero_lt_succ _) Try.underlying26 rfl (by kernel_rfl)) ?_
      refine L.alloc rfl zr_26 ?_
      intro b9 w3 hb9 hs9 hk9 he3
      have ho3 := ho2.ext he3
      refine L.va rfl (X.assign (by conv => lhs; whnf)) ?_
      refine L.storeAgg (vs := [_, _]) rfl rfl rfl rfl sz_26 (hk9) rfl ?_
      intro w4 hk4 hg4 hs4
      have he24 : Ext w2 w4 := he3.grw hg4 (by intro g hg; injection hg with hg; omega)
      have hk4 : Blk w4 b9 26 x.vs.toArray := hk4
      have ho4 := ho3.kept hg4 (.inr (own_blk_ne ho3 hk9 (by decide)))
      have he4 := he2.trans he24
      have z4 := he4.le
      have c1 := okey A n c o x w4 ((ho.ext he4).more z4) lo hn (((hs.h x mx).ext he4).more z4) (hk x mx) (hL.2 x mx).1
      refine L.nil ?_
      refine J.region ?_
      refine L.va rfl (X.move (by conv => lhs; whnf)) ?_
      refine L.va rfl (X.move (by conv => lhs; whnf)) ?_
      refine L.va rfl (X.move (by conv => lhs; whnf)) ?_
      refine L.va rfl ((by first | exact X.loadAgg rfl (range_l hk4) Try.underlying26 rfl (by kernel_rfl) | exact X.loadAgg rfl (range_blk hk4) Try.underlying26 rfl (by kernel_rfl))) ?_
      refine L.call rfl en_6 rfl (c1) ?_
      rintro e w5 ⟨A5, c5, rfl, hq5, he5⟩
      refine ⟨_, rfl, ?_⟩
      have ho5 := ho4.ext he5
      refine L.va rfl ((by first | exact X.index1n rfl rfl Try.underlying47 sz_30 (by first | exact Option.some_ne_none _ | exact hA) (by omega) | exact X.index1 rfl rfl Try.underlying47 sz_30 (by first | exact Option.some_ne_none _ | exact hA) (by omega))) ?_
      refine L.storeO rfl rfl (by conv => lhs; whnf) rfl sz_30 (ho5) (by first | omega | (simp; omega)) ?_
      intro w6 ho6 hg6 hb6 hs6
      have hK1 : ∀ y ∈ K, KOwn y w.heap.size w6 := fun y hy => (((hKo y hy).ext he24).ext he5).kept hg6 (own_or (((hKo y hy).ext he24).ext he5) ho5 (by decide))
      have hK2 : KOwn ⟨A5, (keyO o x).length, c5, keyO o x⟩ w.heap.size w6 := (own_lower hq5 z4).kept hg6 (own_or (own_lower hq5 z4) ho5 (by decide))
      rw [by_set K i ⟨A5, (keyO o x).length, c5, keyO o x⟩] at ho6
      have he6 : Ext w w6 := (he4.trans he5).grw hg6 (by intro g hg; injection hg with hg; subst hg; exact hwb)
      refine L.nil ?_
      refine J.region ?_
      refine L.va rfl (X.add rfl rfl (by omega)) ?_
      refine L.va rfl (X.move (by conv => lhs; whnf)) ?_
      refine L.nil ?_
      refine ⟨(i + 1, K.set i ⟨A5, (keyO o x).length, c5, keyO o x⟩), At1 (by first | rfl | exact at_int rfl (by omega) | exact at_slice rfl (by omega) | exact at_int rfl (by simp)), (by (iterate 14 refine Agr.lk rfl ?_); exact Agr.lk rfl (Agr.hav rfl Agr.rfl')), ?_⟩
      refine ⟨⟨by omega, by rw [List.length_set]; exact hKl, fun y hy => ?_, fun j hj => ?_, ho6, he6⟩, by show s.n - (i + 1) < s.n - i; omega⟩
      · rcases List.mem_or_eq_of_mem_set hy with hy | rfl
        · exact hK1 y hy
        · exact hK2
      · rw [List.getD, List.getElem?_set]
        by_cases e : i = j
        · subst e
          rw [if_pos rfl, if_pos (by omega), ← hx]
          rfl
        · rw [if_neg e]
          exact hKe j (by omega)
    · obtain rfl : i = s.n := by omega
      obtain ⟨lm, hlm⟩ : ∃ lm : Int, lm = if lim ≤ 0 then (s.n : Int) else lim := ⟨_, rfl⟩
      refine J.exit ?_
      refine J.cut (X := Unit) [2, 30, 31, 32, 33] (fun _ => [(2, .int .i64 lm)]) (fun _ w' => Ext w2 w') ?_ ?_
      · refine J.seq ?_
        refine J.region ?_
        refine L.va rfl (X.move (by conv => lhs; whnf)) ?_
        refine L.va rfl (X.leq rfl rfl) ?_
        refine L.nil ?_
        refine J.dec rfl (fun hle => ?_) (fun hle => ?_)
        · rw [if_pos hle] at hlm
          subst hlm
          refine J.region ?_
          refine L.va rfl (X.move (by conv => lhs; whnf)) ?_
          refine L.va rfl (X.len rfl Try.underlying28) ?_
          refine L.va rfl (X.assign (by conv => lhs; whnf)) ?_
          refine L.nil ?_
          refine ⟨(), At1 (by first | rfl | exact at_int rfl (by omega) | exact at_slice rfl (by omega) | exact at_int rfl (by simp)), (by (iterate 5 refine Agr.lk rfl ?_); exact Agr.rfl'), ?_⟩
          exact Ext.refl _
        · rw [if_neg hle] at hlm
          subst hlm
          refine J.skip ?_
          refine ⟨(), At1 (by first | rfl | exact at_int rfl (by omega) | exact at_slice rfl (by omega) | exact at_int rfl (by simp)), (by (iterate 2 refine Agr.lk rfl ?_); exact Agr.rfl'), ?_⟩
          exact Ext.refl _
      · rintro ⟨⟩ g w3 he3
        have he03 := he2.trans he3
        obtain ⟨t, ht⟩ : ∃ t : Bys, t = ⟨some ⟨b1, 0, none⟩, s.n, s.n, K⟩ := ⟨_, rfl⟩
        have hks : t.ks = s.l.map (keyO o) := by
          rw [ht]
          apply List.ext_getElem?
          intro j
          show (K.map By.l)[j]? = _
          rw [List.getElem?_map, List.getElem?_map]
          by_cases hj : j < s.n
          · have := hKe j hj
            rw [List.getD, List.getD, List.getElem?_eq_getElem (by omega), List.getElem?_eq_getElem (show j < s.l.length by omega)] at this
            rw [List.getElem?_eq_getElem (by omega), List.getElem?_eq_getElem (show j < s.l.length by omega)]
            exact congrArg some this
          · rw [List.getElem?_eq_none (by omega), List.getElem?_eq_none (by omega)]
            rfl
        have ht3 : t.At w3.heap.size w3 := by
          rw [ht]
          exact ⟨Reads.of_own (ho2.ext he3), fun x hx => (KOwn.at ((hKo x hx).ext he3)), hKl, by show s.n ≤ maxLen; unfold maxLen; omega⟩
        have c1 := tleast t lm w3 ht3 (by rw [ht]; show s.n ≤ 900000; omega)
        rw [hks, show t.n = s.n by rw [ht], show t.val = .slice (some ⟨b1, 0, none⟩) s.n s.n by rw [ht]] at c1
        refine J.seq ?_
        refine J.region ?_
        refine L.va rfl (X.assign (by conv => lhs; whnf)) ?_
        refine L.nil ?_
        refine J.seq ?_
        refine J.seq ?_
        refine J.region ?_
        refine L.va rfl (X.move (by conv => lhs; whnf)) ?_
        refine L.va rfl (X.move (by conv => lhs; whnf)) ?_
        refine L.call rfl en_26 rfl (c1) ?_
        rintro e w4 ⟨A4, m, c4, z, rfl, hz4, hF, hm, he4⟩
        refine ⟨_, rfl, ?_⟩
        have he04 := he03.trans he4
        have hmn : m ≤ s.n := by omega
        have hzl := hF.1
        refine L.va rfl (X.len rfl Try.underlying23) ?_
        refine L.va rfl (X.move (by conv => lhs; whnf)) ?_
        refine L.nil ?_
        refine J.block ?_
        refine J.loop (X := Nat × Option Addr × Nat × List Rw) [10, 12, 38, 39, 40, 41, 42, 43, 44, 45, 46, 47, 48, 49, 50, 51, 52, 53, 54, 55, 56, 57, 58] (fun (i, B, d, l) => [(38, .int .i64 (i : Int)), (10, .slice B i d)]) (fun (i, B, d, l) w' => i ≤ m ∧ l.length = i ∧ (∀ x ∈ l, RwOwn x w.heap.size w') ∧ l.map Rw.say = (z.take i).map (fun x : Int => (s.l.getD x.toNat rw0).say) ∧ w'.ownsRow w4.heap.size 26 2 (.slice B i d) i (l.flatMap Rw.vs) ∧ Ext w4 w') (fun (i, _) => m - i) ((0, none, 0, [])) (At2 (by first | rfl | exact at_int rfl (by omega) | exact at_slice rfl (by omega) | exact at_int rfl (by simp)) (by first | rfl | exact at_int rfl (by omega) | exact at_slice rfl (by omega) | exact at_int rfl (by simp))) ?_ ?_
        · exact ⟨Nat.zero_le _, rfl, (fun x hx => by cases hx), rfl, own_nil _ _ _ _, Ext.refl _⟩
        · rintro ⟨i, B, d, l⟩ g w5 ⟨hi, hll, hlo, hls, ho5, he5⟩
          have he05 := he04.trans he5
          have z5 := he05.le
          have hzr := Reads.of_own (hz4.ext he5)
          refine J.seq ?_
          refine J.region ?_
          refine L.va rfl (X.lss rfl rfl) ?_
          refine L.nil ?_
          refine J.seq ?_
          refine J.dec rfl (fun hlt => ?_) (fun hlt => ?_)
          · have him : i < m := by omega
            have hA := hzr.some_ (by omega)
            obtain ⟨e1, e2, e3⟩ := hF.2 i him
            have hzt : z.take (i + 1) = z.take i ++ [z.getD i 0] := take_snoc (by omega)
            obtain ⟨k, hk'⟩ := Int.eq_ofNat_of_zero_le e1
            have hkn : k < s.n := by omega
            obtain ⟨x, hx⟩ : ∃ x, x = s.l.getD k rw0 := ⟨_, rfl⟩
            have gx := gtR (l := s.l) (i := k) (by omega)
            have mx := memR (l := s.l) (i := k) (by omega)
            rw [← hx] at gx mx
            have hnc := (hL.2 x mx).1
            have hnv := (hL.2 x mx).2
            have hAs := hs.r.some_ (by omega)
            have hx0 := hs.h x mx
            refine J.skip ?_
            refine J.seq ?_
            refine J.block ?_
            refine J.seq ?_
            refine J.region ?_
            refine L.va rfl ((by first | exact X.index1n rfl rfl Try.underlying23 sz_3 (by first | exact Option.some_ne_none _ | exact hzr.some_ (by omega) | exact hA) (by omega) | exact X.index1 rfl rfl Try.underlying23 sz_3 (by first | exact Option.some_ne_none _ | exact hzr.some_ (by omega) | exact hA) (by omega))) ?_
            refine L.va rfl (X.load rfl sc_3 (by first | exact Ld.num hzr (by omega) | exact hA)) ?_
            refine L.va rfl (X.assign (by conv => lhs; whnf)) ?_
            refine L.nil ?_
            rw [hk']
            refine J.draw (ℓ := 1000000) (S := (fun w' => Ext w w')) mixed (fun w6 hSE hS_h => ?_)
            have hS : ((fun w' => Ext w w')) w6 := he05.trans hSE
            have hoX := ho5.ext hSE
            have hlX := fun (y : Rw) (hy : y ∈ l) => (hlo y hy).ext hSE
            have h46 := he5.trans hSE
            refine D.va 0 rfl (by kernel_rfl) (fun _ _ _ h => h) rfl (fun w' hw => X.move (by conv => lhs; whnf)) hS ?_
            refine D.va 1 rfl (by kernel_rfl) (fun _ _ _ h => h) rfl (fun w' hw => X.move (by conv => lhs; whnf)) hS ?_
            refine D.va 2 rfl (by kernel_rfl) (fun _ _ _ h => h) rfl (fun w' hw => X.move (by conv => lhs; whnf)) hS ?_
            refine D.va 3 rfl (by kernel_rfl) (fun _ _ _ h => h) rfl (fun w' hw => (by first | exact X.indexAddrn rfl rfl Try.underlying28 sz_26 (by first | exact Option.some_ne_none _ | exact hAs) (by omega) | exact X.indexAddr rfl rfl Try.underlying28 sz_26 (by first | exact Option.some_ne_none _ | exact hAs) (by omega))) hS ?_
            refine D.va 4 rfl (by kernel_rfl) (fun _ _ _ h => h) rfl (fun w' hw => X.fieldP rfl Try.underlying26 rfl sz_23 (by decide) (by first | exact Option.some_ne_none _ | exact hAs)) hS ?_
            refine D.va 5 rfl (by kernel_rfl) (fun _ _ _ h => h) rfl (fun w' hw => X.load rfl sc_23 (by first | exact hAs | exact Ld.flat2 rw_len (hs.r.ext hw) gx (r := 0) rfl | exact Ld.flat2 rw_len (hs.r.ext hw) gx (r := 1) rfl)) hS ?_
            refine D.va 7 rfl (by kernel_rfl) (fun _ _ _ h => h) rfl (fun w' hw => X.move (by conv => lhs; whnf)) hS ?_
            refine D.va 8 rfl (by kernel_rfl) (fun _ _ _ h => h) rfl (fun w' hw => X.move (by conv => lhs; whnf)) hS ?_
            refine D.va 9 rfl (by kernel_rfl) (fun _ _ _ h => h) rfl (fun w' hw => (by first | exact X.indexAddrn rfl rfl Try.underlying28 sz_26 (by first | exact Option.some_ne_none _ | exact hAs) (by omega) | exact X.indexAddr rfl rfl Try.underlying28 sz_26 (by first | exact Option.some_ne_none _ | exact hAs) (by omega))) hS ?_
            refine D.va 10 rfl (by kernel_rfl) (fun _ _ _ h => h) rfl (fun w' hw => X.fieldP rfl Try.underlying26 rfl sz_24 (by decide) (by first | exact Option.some_ne_none _ | exact hAs)) hS ?_
            refine D.va 11 rfl (by kernel_rfl) (fun _ _ _ h => h) rfl (fun w' hw => X.load rfl sc_24 (by first | exact hAs | exact Ld.flat2 rw_len (hs.r.ext hw) gx (r := 0) rfl | exact Ld.flat2 rw_len (hs.r.ext hw) gx (r := 1) rfl)) hS ?_
            have qx := (hS).le
            refine D.one 6 (by kernel_rfl) rfl ?_
            refine L.call rfl en_27 rfl (cloneI x.Ac x.nc x.cc x.c _ ((hx0.ext hS).more (hS).le).hc (by omega)) ?_
            rintro e wc ⟨A7, c7, rfl, hoC, hec⟩
            refine ⟨_, rfl, ?_⟩
            have hS1 := (hS).trans hec
            refine L.nil ?_
            refine ⟨fun _ => hS1, ?_⟩
            replace hoC := own_lower hoC qx
            replace hoX := hoX.ext hec
            replace hlX := fun (y : Rw) (hy : y ∈ l) => (hlX y hy).ext hec
            replace h46 := h46.trans hec
            try replace hoV := hoV.ext hec
            have qy := (hS1).le
            refine D.one 12 (by kernel_rfl) rfl ?_
            refine L.call rfl en_28 rfl (cloneV x.Av x.nv x.cv x.v _ ((hx0.ext hS1).more (hS1).le).hv (by omega) hx0.lv) ?_
            rintro e wc ⟨A8, c8, rfl, hoV, hec⟩
            refine ⟨_, rfl, ?_⟩
            have hS2 := (hS1).trans hec
            refine L.nil ?_
            refine ⟨fun _ => hS2, ?_⟩
            replace hoV := own_lower hoV qy
            replace hoX := hoX.ext hec
            replace hlX := fun (y : Rw) (hy : y ∈ l) => (hlX y hy).ext hec
            replace h46 := h46.trans hec
            try replace hoC := hoC.ext hec
            refine D.va 13 rfl (by kernel_rfl) (fun _ _ _ h => h) rfl (fun w' hw => X.build (l := [_, _]) (Evs.cons (by conv => lhs; whnf) (Evs.cons (by conv => lhs; whnf) Evs.nil)) (bld_run Try.underlying26 (bp_26 Try.underlying26) zr_26 rfl)) hS2 ?_
            have qz := (hS2).le
            refine D.one 14 (by kernel_rfl) rfl ?_
            refine L.bslice1 (l := [_, _]) rfl rfl rfl Try.underlying28 sz_26 zr_26 rfl ?_
            intro b10 wa hb10 hs10 hk10 hea
            have hS3 := (hS2).trans hea
            refine L.nil ?_
            refine ⟨fun _ => hS3, ?_⟩
            replace hoX := hoX.ext hea
            replace hlX := fun (y : Rw) (hy : y ∈ l) => (hlX y hy).ext hea
            replace h46 := h46.trans hea
            replace hoC := hoC.ext hea
            replace hoV := hoV.ext hea
            have qw := (hS3).le
            have qv := h46.le
            refine D.one 15 (by kernel_rfl) rfl ?_
            refine L.appendV (q := i + 1) (ys := ((l ++ [Rw.mk A7 x.nc c7 x.c A8 x.nv c8 x.v]).flatMap Rw.vs)) rfl rfl rfl Try.underlying28 el_26 (hoX) ((blk_readsN (sz := 2) (q := 1) (l := (Rw.mk A7 x.nc c7 x.c A8 x.nv c8 x.v).vs) hk10 hk10.lt rfl)) (by first | rfl | exact strs_ones _ | assumption) (by omega) (by simp) (by unfold maxLen; omega) (by omega) ?_
            intro B2 d2 wd ho4 hg4' hb4 hor4
            have hS4 := (hS3).low hb4 he04.le
            refine L.nil ?_
            refine ⟨fun _ => hS4, ?_⟩
            refine D.va 16 rfl (by kernel_rfl) (fun _ _ _ h => h) rfl (fun w' hw => X.assign (by conv => lhs; whnf)) hS4 ?_
            refine D.done (by kernel_rfl) ?_
            refine J.region ?_
            refine L.va rfl (X.add rfl rfl (by omega)) ?_
            refine L.va rfl (X.move (by conv => lhs; whnf)) ?_
            refine L.nil ?_
            have hoC' := hoC.kept hg4' (own_or hoC hoX (by decide))
            have hoV' := hoV.kept hg4' (own_or hoV hoX (by decide))
            refine ⟨(i + 1, B2, d2, l ++ [Rw.mk A7 x.nc c7 x.c A8 x.nv c8 x.v]), At2 (by first | rfl | exact at_int rfl (by omega) | exact at_slice rfl (by omega) | exact at_int rfl (by simp)) (by first | rfl | exact at_int rfl (by omega) | exact at_slice rfl (by omega) | exact at_int rfl (by simp)), (by (iterate 23 refine Agr.lk rfl ?_); exact Agr.lk rfl (Agr.hav rfl Agr.rfl')), ?_⟩
            refine ⟨⟨by omega, by rw [List.length_append, hll]; rfl, fun y hy => ?_, ?_, ho4, h46.grw hg4' (fun g hg => (hoX.lt g hg).1)⟩, by show m - (i + 1) < m - i; omega⟩
            · rcases List.mem_append.1 hy with hy | hy
              · exact (hlX y hy).kept hoX hg4'
              · rw [List.mem_singleton] at hy
                subst hy
                exact ⟨hoC', hoV', hx0.hw, hx0.lv⟩
            · rw [List.map_append, hls, hzt, List.map_append]
              congr 1
              show [(x.c, x.v)] = [(s.l.getD (z.getD i 0).toNat rw0).say]
              rw [hk', Int.toNat_natCast, ← hx]
              rfl
          · refine J.exit ?_
            refine J.seq ?_
            refine J.region ?_
            refine L.va rfl (X.move (by conv => lhs; whnf)) ?_
            refine L.va rfl (X.assign (by conv => lhs; whnf)) ?_
            refine L.nil ?_
            refine J.ret ?_
            refine fin1 ?_
            obtain rfl : i = m := by omega
            rw [List.take_of_length_le (by omega)] at hls
            exact ⟨_, _, _, l, z, rfl, own_lower ho5 he04.le, hll, hlo, hls, hF, by rw [hm, hlm], he05⟩
end Go.Proofs.Ytjleobcbgldhmaa
namespace Go.Proofs.Ytjleobcbgldhmaa
set_option maxRecDepth 100000
open Go.RowKit H
open Odr Tou Flo
set_option linter.unusedVariables false
theorem pos_congr {R R' : Nat → Nat → Bool} {n i : Nat} (h : ∀ j, j < n → R j i = R' j i) : pos R n i = pos R' n i :=
  List.countP_congr fun j hj => by rw [h j (List.mem_range.1 hj)]
def mk1 (A : Option Addr) (z : Int) : Rw := ⟨none, 0, 0, [], A, 1, 1, [⟨false, z, 0⟩]⟩
theorem mk_less (A B : Option Addr) (p q : Int) : lessO [(0, true)] (mk1 A p) (mk1 B q) = decide (q < p) := by
  have e1 : ∀ C z, valAt (mk1 C z) 0 = ⟨false, z, 0⟩ := fun C z => rfl
  have e2 : ∀ a b : Int, aheadV ⟨false, a, 0⟩ ⟨false, b, 0⟩ = decide (a < b) := fun a b => by simp [aheadV]
  have e3 : lessL (mk1 A p).c (mk1 B q).c = false := rfl
  simp only [lessO, e1, e2, e3, decide_eq_true_eq]
  by_cases h : p < q
  · rw [if_pos (.inl h), decide_eq_true h, decide_eq_false (by omega)]; rfl
  · by_cases h2 : q < p
    · rw [if_pos (.inr h2), decide_eq_false h, decide_eq_true h2]; rfl
    · rw [if_neg (by omega), decide_eq_false h2]
def xs33 : List Int := [1, 3, 2]
def R33 (a b : Nat) : Bool := decide (xs33.getD b 0 < xs33.getD a 0) || (!decide (xs33.getD a 0 < xs33.getD b 0) && decide (a < b))
theorem ah33 (A B C : Option Addr) {a b : Nat} (ha : a < 3) (hb : b < 3) : ahL ([mk1 A 1, mk1 B 3, mk1 C 2].map (keyO [(0, true)])) a b = R33 a b := by
  have hx : ∀ i, i < 3 → ∃ D, ([mk1 A 1, mk1 B 3, mk1 C 2].map (keyO [(0, true)])).getD i [] = keyO [(0, true)] (mk1 D (xs33.getD i 0)) := fun i hi => by
    rcases (by omega : i = 0 ∨ i = 1 ∨ i = 2) with rfl | rfl | rfl
    · exact ⟨A, rfl⟩
    · exact ⟨B, rfl⟩
    · exact ⟨C, rfl⟩
  obtain ⟨D, h1⟩ := hx a ha
  obtain ⟨E, h2⟩ := hx b hb
  unfold ahL R33
  rw [h1, h2, less_key, less_key, mk_less, mk_less]
theorem first33 (A B C : Option Addr) : Firsts (ahL ([mk1 A 1, mk1 B 3, mk1 C 2].map (keyO [(0, true)]))) 3 3 [1, 2, 0] := by
  have h : ∀ i, i < 3 → pos (ahL ([mk1 A 1, mk1 B 3, mk1 C 2].map (keyO [(0, true)]))) 3 i = pos R33 3 i := fun i hi => pos_congr fun j hj => ah33 A B C hj hi
  refine ⟨rfl, fun j hj => ?_⟩
  rcases (by omega : j = 0 ∨ j = 1 ∨ j = 2) with rfl | rfl | rfl
  · exact ⟨by decide, by decide, (h 1 (by decide)).trans (by decide)⟩
  · exact ⟨by decide, by decide, (h 2 (by decide)).trans (by decide)⟩
  · exact ⟨by decide, by decide, (h 0 (by decide)).trans (by decide)⟩
theorem le_maxL {n : Nat} (h : n ≤ 100) : n ≤ maxLen := by unfold maxLen; omega
theorem mk_at {w : World} {b : Nat} {z : Int} (hk : Blk w b 40 #[.bool false, .int .i64 z, .float .f64 0]) : (mk1 (some ⟨b, 0, none⟩) z).At w.heap.size w :=
  ⟨Reads.none_, blk_readsN (sz := 3) (q := 1) (l := [.bool false, .int .i64 z, .float .f64 0]) hk hk.lt rfl, (by intro v hv; rw [show v = ⟨false, z, 0⟩ from by simpa [mk1] using hv]; show 0 < 18446744073709551616; decide), rfl, le_maxL (n := 0) (by decide), le_maxL (n := 1) (by decide)⟩
theorem mk_ok {A : Option Addr} {z : Int} (h : okN z) : (mk1 A z).Ok :=
  ⟨by intro v hv; rw [show v = ⟨false, z, 0⟩ from by simpa [mk1] using hv]; exact h, by intro v hv; cases hv⟩
theorem awake33 (w : World) : Calls Try.prog 5 #[] w fun e w' => e = .returned (.bool true) ∧ Ext w w' := by
  refine enter Try.func5 rfl (by kernel_rfl) ?_
  refine J.seq ?_
  refine J.region ?_
  refine L.va rfl (X.assign (by conv => lhs; whnf)) ?_
  refine L.nil ?_
  refine J.seq ?_
  refine J.region ?_
  refine L.va rfl (X.build (l := [.int .i64 0, .bool true]) (Evs.cons rfl Evs.nil) (bld_run Try.underlying37 (bp_37 Try.underlying37) zr_37 rfl)) ?_
  refine L.bslice1 (l := [_, _]) rfl rfl rfl Try.underlying22 sz_37 zr_37 rfl ?_
  intro b1 w1 hb1 hs1 hk1 he1
  refine L.va rfl (X.build (l := [.bool false, .int .i64 1, .float .f64 0]) (Evs.cons rfl Evs.nil) (bld_run Try.underlying40 (bp_40 Try.underlying40) zr_40 rfl)) ?_
  refine L.bslice1 (l := [_, _, _]) rfl rfl rfl Try.underlying24 sz_40 zr_40 rfl ?_
  intro b2 w2 hb2 hs2 hk2 he2
  refine L.va rfl (X.build (l := [.slice none 0 0, .slice (some ⟨b2, 0, none⟩) 1 1]) (Evs.cons rfl Evs.nil) (bld_run Try.underlying26 (bp_26 Try.underlying26) zr_26 rfl)) ?_
  refine L.va rfl (X.build (l := [.bool false, .int .i64 3, .float .f64 0]) (Evs.cons rfl Evs.nil) (bld_run Try.underlying40 (bp_40 Try.underlying40) zr_40 rfl)) ?_
  refine L.bslice1 (l := [_, _, _]) rfl rfl rfl Try.underlying24 sz_40 zr_40 rfl ?_
  intro b3 w3 hb3 hs3 hk3 he3
  refine L.va rfl (X.build (l := [.slice none 0 0, .slice (some ⟨b3, 0, none⟩) 1 1]) (Evs.cons rfl Evs.nil) (bld_run Try.underlying26 (bp_26 Try.underlying26) zr_26 rfl)) ?_
  refine L.va rfl (X.build (l := [.bool false, .int .i64 2, .float .f64 0]) (Evs.cons rfl Evs.nil) (bld_run Try.underlying40 (bp_40 Try.underlying40) zr_40 rfl)) ?_
  refine L.bslice1 (l := [_, _, _]) rfl rfl rfl Try.underlying24 sz_40 zr_40 rfl ?_
  intro b4 w4 hb4 hs4 hk4 he4
  refine L.va rfl (X.build (l := [.slice none 0 0, .slice (some ⟨b4, 0, none⟩) 1 1]) (Evs.cons rfl Evs.nil) (bld_run Try.underlying26 (bp_26 Try.underlying26) zr_26 rfl)) ?_
  refine L.bsliceR (ls := [[_, _], [_, _], [_, _]]) rfl (Evs.cons (by conv => lhs; whnf) (Evs.cons (by conv => lhs; whnf) (Evs.cons (by conv => lhs; whnf) Evs.nil))) rfl rfl rfl rfl Try.underlying28 sz_26 zr_26 (by decide) ?_
  intro b5 w5 hb5 hs5 hk5 he5
  have hk4' := hk4.ext he5
  have hk3' := hk3.ext (he4.trans he5)
  have hk2' := hk2.ext ((he3.trans he4).trans he5)
  have hx1 := ((he2.trans he3).trans he4).trans he5
  have hk1' := hk1.ext hx1
  have he05 := he1.trans hx1
  obtain ⟨s, hs⟩ : ∃ s : Rws, s = ⟨some ⟨b5, 0, none⟩, 3, 3, [mk1 (some ⟨b2, 0, none⟩) 1, mk1 (some ⟨b3, 0, none⟩) 3, mk1 (some ⟨b4, 0, none⟩) 2]⟩ := ⟨_, rfl⟩
  have hA : s.At w5.heap.size w5 := by
    rw [hs]
    refine ⟨?_, ?_, rfl, le_maxL (n := 3) (by decide)⟩
    · exact blk_readsN (sz := 2) (q := 3) hk5 hk5.lt rfl
    · intro x hx
      simp only [List.mem_cons, List.not_mem_nil, or_false] at hx
      rcases hx with rfl | rfl | rfl
      · exact mk_at hk2'
      · exact mk_at hk3'
      · exact mk_at hk4'
  have hLs : s.Light := by
    rw [hs]
    refine ⟨by show 3 ≤ 60; decide, ?_⟩
    intro x hx
    simp only [List.mem_cons, List.not_mem_nil, or_false] at hx
    rcases hx with rfl | rfl | rfl <;> exact ⟨by show 0 ≤ 20; decide, by show 1 ≤ 30; decide⟩
  have hOk : ∀ x ∈ s.l, x.Ok := by
    rw [hs]
    intro x hx
    simp only [List.mem_cons, List.not_mem_nil, or_false] at hx
    rcases hx with rfl | rfl | rfl <;> exact mk_ok (by unfold okN; decide)
  have c1 : Calls Try.prog 13 #[.slice (some ⟨b1, 0, none⟩) 1 1, s.val, .int .i64 0] w5 (OrRows s [(0, true)] 0 w5) := orows (some ⟨b1, 0, none⟩) 1 1 [(0, true)] s 0 w5 (blk_readsN (sz := 2) (q := 1) (l := [.int .i64 0, .bool true]) hk1' hk1'.lt rfl) rfl (by decide) hA hLs hOk
  rw [show s.val = .slice (some ⟨b5, 0, none⟩) 3 3 by rw [hs]] at c1
  refine L.call rfl en_13 rfl (c1) ?_
  rintro e w6 ⟨A6, m6, c6, l6, z6, rfl, ho6, hl6, hL6, hS6, hF6, hm6, he6⟩
  refine ⟨_, rfl, ?_⟩
  rw [hs] at hF6 hm6 hS6
  obtain rfl : m6 = 3 := hm6
  obtain rfl : z6 = [1, 2, 0] := hF6.unique (ahL_ord _) (first33 _ _ _)
  obtain ⟨x, y, v, rfl⟩ : ∃ x y v, l6 = [x, y, v] := by
    match l6, hl6 with
    | [x, y, v], _ => exact ⟨x, y, v, rfl⟩
  have hro := Reads.of_own ho6
  have hx := hL6 x (by simp)
  have hv := hL6 v (by simp)
  have ex : x.v = [⟨false, 3, 0⟩] := congrArg Prod.snd (List.cons.inj hS6).1
  have ev : v.v = [⟨false, 1, 0⟩] := congrArg Prod.snd (List.cons.inj (List.cons.inj (List.cons.inj hS6).2).2).1
  obtain ⟨xA, xn, xd, xc, xB, xm, xe, xv⟩ := x
  obtain ⟨vA, vn, vd, vc, vB, vm, ve, vv⟩ := v
  dsimp only at ex ev
  subst ex ev
  obtain rfl : 1 = xm := hx.lv
  obtain rfl : 1 = vm := hv.lv
  have rx : Reads w6 w6.heap.size 3 xB 1 (([⟨false, 3, 0⟩] : List Vl).flatMap Vl.vs) := hx.at.hv
  have rv : Reads w6 w6.heap.size 3 vB 1 (([⟨false, 1, 0⟩] : List Vl).flatMap Vl.vs) := hv.at.hv
  have hA6 := hro.some_ (by decide)
  have l0 : Ld w6 (pA A6 (0 * 2 + 1)) (.slice xB 1 xe) := Ld.flat2 rw_len hro (i := 0) rfl (r := 1) rfl
  have l2 : Ld w6 (pA A6 (2 * 2 + 1)) (.slice vB 1 ve) := Ld.flat2 rw_len hro (i := 2) rfl (r := 1) rfl
  have lx : Ld w6 (pA xB (0 * 3 + 1)) (.int .i64 3) := Ld.flat2 vs_len rx (i := 0) rfl (r := 1) rfl
  have lv : Ld w6 (pA vB (0 * 3 + 1)) (.int .i64 1) := Ld.flat2 vs_len rv (i := 0) rfl (r := 1) rfl
  have hAx := rx.some_ (by decide)
  have hAv := rv.some_ (by decide)
  refine L.va rfl (X.assign (by conv => lhs; whnf)) ?_
  refine L.nil ?_
  refine J.seq ?_
  refine J.region ?_
  refine L.va rfl (X.move (by conv => lhs; whnf)) ?_
  refine L.va rfl (X.len rfl Try.underlying28) ?_
  refine L.va rfl (X.eql rfl rfl) ?_
  refine L.va rfl (X.move (by conv => lhs; whnf)) ?_
  refine L.caseDecT (k := 18) rfl (by rfl) ?_
  refine L.va rfl (X.move (by conv => lhs; whnf)) ?_
  refine L.va rfl (X.indexAddrn (j := 0) rfl rfl Try.underlying28 sz_26 (by first | exact Option.some_ne_none _ | exact hA6 | exact hAx | exact hAv | exact l0 | exact l2 | exact lx | exact lv) (by omega)) ?_
  refine L.va rfl (X.fieldP rfl Try.underlying26 rfl sz_24 (by decide) (by first | exact Option.some_ne_none _ | exact hA6 | exact hAx | exact hAv | exact l0 | exact l2 | exact lx | exact lv)) ?_
  refine L.va rfl (X.load rfl sc_24 (by first | exact hA6 | exact hAx | exact hAv | exact l0 | exact l2 | exact lx | exact lv)) ?_
  refine L.va rfl (X.len rfl Try.underlying24) ?_
  refine L.va rfl (X.eql rfl rfl) ?_
  refine L.va rfl (X.pickT rfl (by conv => lhs; whnf)) ?_
  refine L.va rfl (X.move (by conv => lhs; whnf)) ?_
  refine L.caseDecT (k := 26) rfl (by rfl) ?_
  refine L.va rfl (X.move (by conv => lhs; whnf)) ?_
  refine L.va rfl (X.indexAddrn (j := 0) rfl rfl Try.underlying28 sz_26 (by first | exact Option.some_ne_none _ | exact hA6 | exact hAx | exact hAv | exact l0 | exact l2 | exact lx | exact lv) (by omega)) ?_
  refine L.va rfl (X.fieldP rfl Try.underlying26 rfl sz_24 (by decide) (by first | exact Option.some_ne_none _ | exact hA6 | exact hAx | exact hAv | exact l0 | exact l2 | exact lx | exact lv)) ?_
  refine L.va rfl (X.load rfl sc_24 (by first | exact hA6 | exact hAx | exact hAv | exact l0 | exact l2 | exact lx | exact lv)) ?_
  refine L.va rfl (X.indexAddrn (j := 0) rfl rfl Try.underlying24 sz_40 (by first | exact Option.some_ne_none _ | exact hA6 | exact hAx | exact hAv | exact l0 | exact l2 | exact lx | exact lv) (by omega)) ?_
  refine L.va rfl (X.fieldP rfl Try.underlying40 rfl sz_2 (by decide) (by first | exact Option.some_ne_none _ | exact hA6 | exact hAx | exact hAv | exact l0 | exact l2 | exact lx | exact lv)) ?_
  refine L.va rfl (X.load rfl sc_2 (by first | exact hA6 | exact hAx | exact hAv | exact l0 | exact l2 | exact lx | exact lv)) ?_
  refine L.va rfl (X.eql rfl rfl) ?_
  refine L.va rfl (X.pickT rfl (by conv => lhs; whnf)) ?_
  refine L.va rfl (X.move (by conv => lhs; whnf)) ?_
  refine L.caseDecT (k := 36) rfl (by rfl) ?_
  refine L.va rfl (X.move (by conv => lhs; whnf)) ?_
  refine L.va rfl (X.indexAddrn (j := 2) rfl rfl Try.underlying28 sz_26 (by first | exact Option.some_ne_none _ | exact hA6 | exact hAx | exact hAv | exact l0 | exact l2 | exact lx | exact lv) (by omega)) ?_
  refine L.va rfl (X.fieldP rfl Try.underlying26 rfl sz_24 (by decide) (by first | exact Option.some_ne_none _ | exact hA6 | exact hAx | exact hAv | exact l0 | exact l2 | exact lx | exact lv)) ?_
  refine L.va rfl (X.load rfl sc_24 (by first | exact hA6 | exact hAx | exact hAv | exact l0 | exact l2 | exact lx | exact lv)) ?_
  refine L.va rfl (X.len rfl Try.underlying24) ?_
  refine L.va rfl (X.eql rfl rfl) ?_
  refine L.va rfl (X.pickT rfl (by conv => lhs; whnf)) ?_
  refine L.va rfl (X.move (by conv => lhs; whnf)) ?_
  refine L.caseDecT (k := 44) rfl (by rfl) ?_
  refine L.va rfl (X.move (by conv => lhs; whnf)) ?_
  refine L.va rfl (X.indexAddrn (j := 2) rfl rfl Try.underlying28 sz_26 (by first | exact Option.some_ne_none _ | exact hA6 | exact hAx | exact hAv | exact l0 | exact l2 | exact lx | exact lv) (by omega)) ?_
  refine L.va rfl (X.fieldP rfl Try.underlying26 rfl sz_24 (by decide) (by first | exact Option.some_ne_none _ | exact hA6 | exact hAx | exact hAv | exact l0 | exact l2 | exact lx | exact lv)) ?_
  refine L.va rfl (X.load rfl sc_24 (by first | exact hA6 | exact hAx | exact hAv | exact l0 | exact l2 | exact lx | exact lv)) ?_
  refine L.va rfl (X.indexAddrn (j := 0) rfl rfl Try.underlying24 sz_40 (by first | exact Option.some_ne_none _ | exact hA6 | exact hAx | exact hAv | exact l0 | exact l2 | exact lx | exact lv) (by omega)) ?_
  refine L.va rfl (X.fieldP rfl Try.underlying40 rfl sz_2 (by decide) (by first | exact Option.some_ne_none _ | exact hA6 | exact hAx | exact hAv | exact l0 | exact l2 | exact lx | exact lv)) ?_
  refine L.va rfl (X.load rfl sc_2 (by first | exact hA6 | exact hAx | exact hAv | exact l0 | exact l2 | exact lx | exact lv)) ?_
  refine L.va rfl (X.eql rfl rfl) ?_
  refine L.va rfl (X.pickT rfl (by conv => lhs; whnf)) ?_
  refine L.va rfl (X.assign (by conv => lhs; whnf)) ?_
  refine L.nil ?_
  refine J.ret ?_
  refine fin1 ?_
  exact ⟨rfl, he05.trans he6⟩
theorem Fl.lt (x : Fl) : x.b < 18446744073709551616 := of_decide_eq_true x.ok
theorem vals_of {w : World} {B n : Nat} {A : Option Addr} {xs : List (Bool × Nm .i64 × Fl)} (h : LiesSlice w B A n xs) : ∃ l : List Vl, l.length = n ∧ Reads w B 3 A n (l.flatMap Vl.vs) ∧ ∀ v ∈ l, v.x < 18446744073709551616 ∧ okN v.n := by
  obtain ⟨l, h1, h2, h3⟩ := h.rows (X := Vl) (f := Vl.vs) (g := fun v => v.x < 18446744073709551616 ∧ okN v.n) (fun _ => rfl) (fun us a hl => by
    obtain ⟨u1, u2, rfl, k1, u3, u4, rfl, k2, k3⟩ := hl
    exact ⟨⟨a.1, a.2.1.z, a.2.2.b⟩, by rw [show u1 = [.bool a.1] from k1, show u3 = [.int .i64 a.2.1.z] from k2, show u4 = [.float .f64 a.2.2.b] from k3]; rfl, a.2.2.lt, a.2.1.i64⟩)
  exact ⟨l, h1, h2, h3⟩
abbrev RowT := (List (Nm .i64)) × (List (Bool × Nm .i64 × Fl))
theorem row_of {w : World} {B : Nat} {us : List Value} {x : RowT} (h : Lay.lies w B us x) : ∃ r : Rw, us = r.vs ∧ r.At B w ∧ r.Ok := by
  obtain ⟨u1, u2, rfl, ⟨A, n, c, rfl, hn, hc, _, hl⟩, ⟨A', n', c', rfl, hn', hc', _, hl'⟩⟩ := h
  obtain ⟨l, h1, h2, h3⟩ := vals_of hl'
  refine ⟨⟨A, n, c, zsOf x.1, A', n', c', l⟩, rfl, ⟨hl.reads, h2, fun v hv => (h3 v hv).1, h1, Nat.le_trans hn hc, Nat.le_trans hn' hc'⟩, fun v hv => (h3 v hv).2, fun z hz => ?_⟩
  obtain ⟨y, _, rfl⟩ := List.mem_map.1 (show z ∈ x.1.map (·.z) from hz)
  exact y.i64
theorem ords_of {w : World} {B n : Nat} {A : Option Addr} {xs : List ((Nm .i64) × (Bool))} (h : LiesSlice w B A n xs) : ∃ l : List (Int × Bool), l.length = n ∧ Reads w B 2 A n (l.flatMap oR) := by
  obtain ⟨l, h1, h2, h3⟩ := h.rows (X := Int × Bool) (f := oR) (g := fun r => True) (fun _ => rfl) (fun us a hl => by
    obtain ⟨u1, u2, rfl, k1, k2⟩ := hl
    exact ⟨(a.1.z, a.2), by rw [show u1 = [.int .i64 a.1.z] from k1, show u2 = [.bool a.2] from k2]; rfl, trivial⟩)
  exact ⟨l, h1, h2⟩
end Go.Proofs.Ytjleobcbgldhmaa
namespace Go.Proofs.Ytjleobcbgldhmaa
set_option maxRecDepth 100000
set_option linter.unusedVariables false
namespace Flo
open Ieee
theorem fracW : double.fractionBits = 52 := rfl
theorem mg_bd {r : Nat} : mg r < 9007199254740992 := by
  unfold mg
  split <;> omega
theorem r_parts (r : Nat) : ex r * 4503599627370496 + mg r = r := by
  unfold ex mg
  by_cases h : r < 4503599627370496
  · rw [if_pos h, if_pos h]; omega
  · rw [if_neg h, if_neg h]
    have h1 : 1 ≤ r / 4503599627370496 := by omega
    obtain ⟨k, hk⟩ : ∃ k, r / 4503599627370496 = k + 1 := ⟨r / 4503599627370496 - 1, by omega⟩
    rw [hk]
    have := Nat.div_add_mod r 4503599627370496
    rw [hk] at this
    simp only [Nat.add_sub_cancel]
    omega
theorem mg_big {r : Nat} (h : 0 < ex r) : 4503599627370496 ≤ mg r := by
  unfold ex mg at *
  by_cases h1 : r < 4503599627370496
  · rw [if_pos h1] at h; cases h
  · rw [if_neg h1]; omega
theorem mg_pos {r : Nat} (h : 0 < r) : 0 < mg r := by
  unfold mg
  split <;> omega
theorem log_mul {n k : Nat} (h : n ≠ 0) : (n * 2 ^ k).log2 = n.log2 + k := by
  have hk : (2 : Nat) ^ k ≠ 0 := by have := Nat.two_pow_pos k; omega
  have hn : n * 2 ^ k ≠ 0 := Nat.mul_ne_zero h hk
  rw [Nat.log2_eq_iff hn]
  have h1 := (Nat.log2_eq_iff h).1 rfl
  rw [Nat.pow_add, show n.log2 + k + 1 = (n.log2 + 1) + k by omega, Nat.pow_add]
  exact ⟨Nat.mul_le_mul_right _ h1.1, Nat.mul_lt_mul_of_pos_right h1.2 (Nat.two_pow_pos k)⟩
theorem last_ex {r : Nat} (h : 0 < r) : (V r).log2 - 52 = ex r := by
  unfold V
  have hm := mg_pos h
  rw [log_mul (by omega)]
  by_cases h0 : 0 < ex r
  · have h1 : (mg r).log2 = 52 := (Nat.log2_eq_iff (by omega)).2 ⟨mg_big h0, mg_bd⟩
    omega
  · have h1 : (mg r).log2 < 53 := (Nat.log2_lt (by omega)).2 mg_bd
    omega
theorem even_cut {neg : Bool} {m d : Nat} (hm : 0 < m) : Toward.even.cut neg (m * 2 ^ d) d = m := by
  unfold Toward.cut
  have hl : (m * 2 ^ d).log2 = m.log2 + d := log_mul (by omega)
  rw [hl, Nat.min_eq_left (by omega), Nat.one_shiftLeft]
  have hp := Nat.two_pow_pos d
  simp only [Nat.mul_div_cancel _ hp, Nat.mul_mod_left]
  have e1 : decide (2 ^ d < 2 * 0) = false := decide_eq_false (by omega)
  have e2 : ((2 : Nat) ^ d == 2 * 0) = false := by
    rw [beq_eq_false_iff_ne]
    omega
  rw [e1, e2]
  rfl
theorem near_exact {neg : Bool} {n r a b : Nat} {p : Int} (hr : 0 < r) (hi : r < inf) (h : n * 2 ^ a = V r * 2 ^ b) (hp : p = -1074 + (a : Int) - (b : Int)) : double.nearest neg n p = double.word neg r := by
  have hV := V_pos hr
  have hn : n ≠ 0 := by
    rintro rfl
    rw [Nat.zero_mul] at h
    have : 0 < V r * 2 ^ b := Nat.mul_pos hV (Nat.two_pow_pos b)
    omega
  have hlog : n.log2 + a = (V r).log2 + b := by
    have h1 := log_mul (k := a) hn
    have h2 := log_mul (k := b) (show V r ≠ 0 by omega)
    rw [h, h2] at h1
    omega
  have hle := last_ex hr
  have hmp := mg_pos hr
  unfold Format.nearest
  rw [if_neg hn, fracW, leastW, binW, infW]
  have hlast : max (p + (n.log2 : Int) - 52) (-1074) = -1074 + (ex r : Int) := by
    rw [hp]
    by_cases hx : 52 ≤ (V r).log2 <;> omega
  simp only [show ((52 : Nat) : Int) = 52 from rfl, hlast]
  have hk : Toward.even.cut neg (n <<< (p - (-1074 + (ex r : Int))).toNat) (-1074 + (ex r : Int) - p).toNat = mg r := by
    rw [Nat.shiftLeft_eq]
    have hVe : V r = mg r * 2 ^ ex r := rfl
    by_cases hc : p ≤ -1074 + (ex r : Int)
    · obtain ⟨d, hd⟩ : ∃ d : Nat, -1074 + (ex r : Int) - p = (d : Int) := ⟨(-1074 + (ex r : Int) - p).toNat, by omega⟩
      rw [show (p - (-1074 + (ex r : Int))).toNat = 0 by omega, hd, Int.toNat_natCast, Nat.pow_zero, Nat.mul_one]
      have hab : ex r + b = a + d := by omega
      have e : n = mg r * 2 ^ d := by
        rw [hVe, Nat.mul_assoc, ← Nat.pow_add, hab, Nat.pow_add, Nat.mul_comm (2 ^ a), ← Nat.mul_assoc] at h
        exact Nat.eq_of_mul_eq_mul_right (Nat.two_pow_pos a) h
      rw [e]
      exact even_cut hmp
    · obtain ⟨d, hd⟩ : ∃ d : Nat, p - (-1074 + (ex r : Int)) = (d : Int) := ⟨(p - (-1074 + (ex r : Int))).toNat, by omega⟩
      rw [show (-1074 + (ex r : Int) - p).toNat = 0 by omega, hd, Int.toNat_natCast]
      have hab : ex r + b + d = a := by omega
      have e : n * 2 ^ d = mg r := by
        rw [hVe, ← hab, Nat.pow_add, Nat.pow_add, Nat.mul_assoc (mg r)] at h
        have h2 : n * 2 ^ d * (2 ^ ex r * 2 ^ b) = mg r * (2 ^ ex r * 2 ^ b) := by rw [← h, Nat.mul_assoc, Nat.mul_comm (2 ^ d)]
        exact Nat.eq_of_mul_eq_mul_right (Nat.mul_pos (Nat.two_pow_pos _) (Nat.two_pow_pos _)) h2
      rw [e]
      have := even_cut (neg := neg) (d := 0) hmp
      rwa [Nat.pow_zero, Nat.mul_one] at this
  rw [hk, show (-1074 + (ex r : Int) - -1074).toNat = ex r by omega, r_parts r, Nat.min_eq_left (Nat.le_of_lt hi)]
def two : Nat := 4611686018427387904
theorem read_two : double.read two = .number false 4503599627370496 (-51) := by decide
theorem mul_two {x r : Nat} (h : rg x < inf) (hr : 0 < r) (hi : r < inf) (hv : V r = 2 * V (rg x)) : double.mul x two = some (double.word (sg x) r) := by
  unfold Format.mul
  rw [read_fin h, read_two]
  show some (double.nearest (sg x ^^ false) (mg (rg x) * 4503599627370496) (-1074 + (ex (rg x) : Int) + -51)) = _
  rw [Bool.xor_false]
  congr 1
  refine near_exact (a := ex (rg x)) (b := 51) hr hi ?_ (by omega)
  rw [hv]
  unfold V
  rw [show (4503599627370496 : Nat) = 2 * 2 ^ 51 by decide]
  simp only [Nat.mul_assoc, Nat.mul_comm, Nat.mul_left_comm]
theorem div_two {x r : Nat} (h : rg x < inf) (hr : 0 < r) (hi : r < inf) (hv : V (rg x) = 2 * V r) : double.div x two = some (double.word (sg x) r) := by
  unfold Format.div
  rw [read_fin h, read_two]
  have hx0 : 0 < rg x := by
    rcases Nat.eq_zero_or_pos (rg x) with h0 | h0
    · rw [h0, V_zero] at hv
      have := V_pos hr
      omega
    · exact h0
  have hm := mg_pos hx0
  have hl : (mg (rg x)).log2 < 53 := (Nat.log2_lt (by omega)).2 mg_bd
  show some (double.write (Datum.number (sg x ^^ false) (2 * (mg (rg x) <<< (54 + Nat.log2 4503599627370496 - (mg (rg x)).log2) / 4503599627370496) + (mg (rg x) <<< (54 + Nat.log2 4503599627370496 - (mg (rg x)).log2) % 4503599627370496 != 0).toNat) (-1074 + (ex (rg x) : Int) - -51 - (54 + Nat.log2 4503599627370496 - (mg (rg x)).log2 : Nat) - 1))) = _
  rw [show Nat.log2 4503599627370496 = 52 by decide, Bool.xor_false]
  obtain ⟨k, hk⟩ : ∃ k, 54 + 52 - (mg (rg x)).log2 = k + 52 := ⟨54 - (mg (rg x)).log2, by omega⟩
  rw [hk, Nat.shiftLeft_eq, Nat.pow_add, show (2 : Nat) ^ 52 = 4503599627370496 by decide, ← Nat.mul_assoc, Nat.mul_div_cancel _ (by decide), Nat.mul_mod_left]
  congr 1
  refine near_exact (a := ex (rg x)) (b := k + 2) hr hi ?_ (by omega)
  show (2 * (mg (rg x) * 2 ^ k) + 0) * 2 ^ ex (rg x) = _
  have e : V (rg x) = mg (rg x) * 2 ^ ex (rg x) := rfl
  rw [e] at hv
  rw [Nat.add_zero, Nat.pow_add]
  have : V r * (2 ^ k * 2 ^ 2) = (2 * V r) * 2 * 2 ^ k := by
    rw [show (2 : Nat) ^ 2 = 4 by decide]
    generalize 2 ^ k = z
    generalize V r = v
    grind
  rw [this, ← hv]
  simp only [Nat.mul_comm, Nat.mul_left_comm]
theorem V_parts {m e : Nat} (h1 : 4503599627370496 ≤ m) (h2 : m < 9007199254740992) : V (e * 4503599627370496 + m) = m * 2 ^ e := by
  have hd : (e * 4503599627370496 + m) / 4503599627370496 = e + 1 := by omega
  unfold V mg ex
  rw [if_neg (by omega), if_neg (by omega), hd]
  congr 2
  omega
theorem V_low {m : Nat} (h : m < 4503599627370496) : V m = m := by
  unfold V mg ex
  rw [if_pos h, if_pos h, Nat.pow_zero, Nat.mul_one]
def K74 : Nat := 1074
def r53 : Nat := 4845873199050653696
def r52 : Nat := 4841369599423283200
theorem V53 : V r53 = 9007199254740992 * 2 ^ K74 := by
  have h := V_parts (m := 4503599627370496) (e := K74 + 1) (Nat.le_refl _) (by decide)
  rw [show r53 = (K74 + 1) * 4503599627370496 + 4503599627370496 by decide, h, show (9007199254740992 : Nat) = 4503599627370496 * 2 by decide, Nat.mul_assoc, Nat.mul_comm 2, ← Nat.pow_succ]
theorem V_half {r : Nat} (h : r53 ≤ r) : V r = 2 * V (r - 4503599627370496) := by
  have h1 : ¬ r < 4503599627370496 := by unfold r53 at h; omega
  have h2 : ¬ r - 4503599627370496 < 4503599627370496 := by unfold r53 at h; omega
  unfold V mg ex
  rw [if_neg h1, if_neg h1, if_neg h2, if_neg h2]
  obtain ⟨k, hk⟩ : ∃ k, r / 4503599627370496 = k + 2 := ⟨r / 4503599627370496 - 2, by unfold r53 at h; omega⟩
  have hk2 : (r - 4503599627370496) / 4503599627370496 = k + 1 := by omega
  have hm : (r - 4503599627370496) % 4503599627370496 = r % 4503599627370496 := by omega
  rw [hk, hk2, hm, show k + 2 - 1 = k + 1 by omega, show k + 1 - 1 = k by omega, Nat.pow_succ, ← Nat.mul_assoc, Nat.mul_comm]
def dbl (r : Nat) : Nat := if r < 4503599627370496 then 2 * r else r + 4503599627370496
theorem V_dbl {r : Nat} : V (dbl r) = 2 * V r := by
  unfold dbl
  split
  · rename_i h
    rw [V_low h]
    by_cases h2 : 2 * r < 4503599627370496
    · exact V_low h2
    · have := V_parts (m := 2 * r) (e := 0) (by omega) (by omega)
      rwa [Nat.zero_mul, Nat.zero_add, Nat.pow_zero, Nat.mul_one] at this
  · rename_i h
    have h1 : 1 ≤ r / 4503599627370496 := by omega
    obtain ⟨k, hk⟩ : ∃ k, r / 4503599627370496 = k + 1 := ⟨r / 4503599627370496 - 1, by omega⟩
    have hk2 : (r + 4503599627370496) / 4503599627370496 = k + 2 := by omega
    have hm : (r + 4503599627370496) % 4503599627370496 = r % 4503599627370496 := by omega
    unfold V mg ex
    rw [if_neg h, if_neg h, if_neg (by omega), if_neg (by omega), hk, hk2, hm, show k + 2 - 1 = k + 1 by omega, show k + 1 - 1 = k by omega, Nat.pow_succ, ← Nat.mul_assoc, Nat.mul_comm]
def wh (r : Nat) : Nat := V r / 2 ^ K74
theorem wh_lt {r : Nat} (h : r < r53) : wh r < 9007199254740992 := by
  have := V_lt h
  rw [V53] at this
  exact Nat.div_lt_of_lt_mul (by rwa [Nat.mul_comm])
theorem whole_big {r : Nat} (h : r52 ≤ r) : V r = wh r * 2 ^ K74 := by
  have he : K74 ≤ ex r := by
    unfold ex r52 K74 at *
    rw [if_neg (by omega)]
    omega
  unfold wh V
  obtain ⟨d, hd⟩ : ∃ d, ex r = d + K74 := ⟨ex r - K74, by omega⟩
  rw [hd, Nat.pow_add, ← Nat.mul_assoc, Nat.mul_div_cancel _ (Nat.two_pow_pos _)]
theorem rung_of {u : Nat} (h0 : 0 < u) (h : u < 9007199254740992) : ∃ r, V r = u * 2 ^ K74 ∧ 0 < r ∧ r < r53 := by
  have hl : u.log2 < 53 := (Nat.log2_lt (by omega)).2 h
  have hb := (Nat.log2_eq_iff (n := u) (k := u.log2) (by omega)).1 rfl
  obtain ⟨t, ht⟩ : ∃ t, u.log2 = t := ⟨_, rfl⟩
  rw [ht] at hl hb
  obtain ⟨d, hd⟩ : ∃ d, 52 = t + d := ⟨52 - t, by omega⟩
  have h52 : (4503599627370496 : Nat) = 2 ^ t * 2 ^ d := by rw [← Nat.pow_add, ← hd]
  have h53 : (9007199254740992 : Nat) = 2 ^ (t + 1) * 2 ^ d := by rw [← Nat.pow_add, show t + 1 + d = 53 by omega]
  have hp := Nat.two_pow_pos d
  have h1 : 4503599627370496 ≤ u * 2 ^ d := by rw [h52]; exact Nat.mul_le_mul_right _ hb.1
  have h2 : u * 2 ^ d < 9007199254740992 := by rw [h53]; exact Nat.mul_lt_mul_of_pos_right hb.2 hp
  have hv := V_parts (e := 1022 + t) h1 h2
  have e : u * 2 ^ d * 2 ^ (1022 + t) = u * 2 ^ K74 := by
    rw [Nat.mul_assoc, ← Nat.pow_add, show d + (1022 + t) = K74 by unfold K74; omega]
  rw [e] at hv
  refine ⟨_, hv, by omega, ?_⟩
  rw [← V_lt_iff, hv, V53]
  exact Nat.mul_lt_mul_of_pos_right h (Nat.two_pow_pos _)
def fl (u : Nat) : Nat := double.nearest false u 0
theorem fl_zero : fl 0 = 0 := by decide
theorem fl_of {u r : Nat} (h : V r = u * 2 ^ K74) (hr : 0 < r) (hi : r < inf) : fl u = double.word false r :=
  near_exact (a := K74) (b := 0) hr hi (by rw [Nat.pow_zero, Nat.mul_one, h]) (by unfold K74; omega)
theorem word_f {r : Nat} : double.word false r = r := rfl
theorem fl_wh {r : Nat} (h : r < r53) : fl (wh r) = r ↔ V r = wh r * 2 ^ K74 := by
  have hw := wh_lt h
  have hi : ∀ {s}, s < r53 → s < inf := fun {s} k => by unfold r53 at k; unfold inf; omega
  constructor
  · intro hf
    rcases Nat.eq_zero_or_pos (wh r) with h0 | h0
    · rw [h0, fl_zero] at hf
      rw [h0, ← hf, V_zero, Nat.zero_mul]
    · obtain ⟨s, hs, hs0, hs3⟩ := rung_of h0 hw
      rw [fl_of hs hs0 (hi hs3), word_f] at hf
      rw [← hs, hf]
  · intro hv
    rcases Nat.eq_zero_or_pos r with h0 | h0
    · subst h0
      unfold wh
      rw [V_zero, Nat.zero_div, fl_zero]
    · rw [fl_of hv h0 (hi h), word_f]
theorem fl_inf {u : Nat} (h : u < 9007199254740992) : fl u < inf := by
  rcases Nat.eq_zero_or_pos u with h0 | h0
  · rw [h0, fl_zero]; decide
  · obtain ⟨s, hs, hs0, hs3⟩ := rung_of h0 h
    have : s < inf := by unfold r53 at hs3; unfold inf; omega
    rwa [fl_of hs hs0 this, word_f]
theorem rg_small {r : Nat} (h : r < inf) : rg r = r := by
  unfold rg inf at *
  exact Nat.mod_eq_of_lt (by omega)
theorem sg_small {r : Nat} (h : r < inf) : sg r = false := by
  unfold sg inf at *
  rw [Nat.div_eq_of_lt (by omega)]
  rfl
theorem toInt_wh {r : Nat} (h : r < inf) : (double.read r).toInt .zero = some (wh r : Int) := by
  have hr := rg_small h
  rw [read_fin (by rwa [hr]), sg_small h, hr]
  show some (signed false (Toward.zero.cut false (mg r <<< (-1074 + (ex r : Int)).toNat) (-(-1074 + (ex r : Int))).toNat) 0) = _
  congr 1
  unfold signed Toward.cut
  simp only [Nat.shiftLeft_eq, Bool.toNat_false, Nat.add_zero, Nat.pow_zero, Nat.mul_one, Nat.one_mul, Bool.false_eq_true, if_false]
  congr 1
  unfold wh V
  have hK : K74 = 1074 := rfl
  by_cases hc : K74 ≤ ex r
  · obtain ⟨d, hd⟩ : ∃ d, ex r = d + K74 := ⟨ex r - K74, by omega⟩
    rw [hd, show (-1074 + ((d + K74 : Nat) : Int)).toNat = d by omega, show (-(-1074 + ((d + K74 : Nat) : Int))).toNat = 0 by omega, Nat.zero_min, Nat.pow_zero, Nat.div_one, Nat.pow_add, ← Nat.mul_assoc, Nat.mul_div_cancel _ (Nat.two_pow_pos _)]
  · obtain ⟨d, hd⟩ : ∃ d, K74 = d + ex r := ⟨K74 - ex r, by omega⟩
    rw [show (-1074 + (ex r : Int)).toNat = 0 by omega, show (-(-1074 + (ex r : Int))).toNat = d by omega, Nat.pow_zero, Nat.mul_one, hd, Nat.pow_add, Nat.mul_div_mul_right _ _ (Nat.two_pow_pos _)]
    by_cases hm : d ≤ (mg r).log2 + 2
    · rw [Nat.min_eq_left hm]
    · rw [Nat.min_eq_right (by omega)]
      have hlt : mg r < 2 ^ ((mg r).log2 + 2) := by
        rcases Nat.eq_zero_or_pos (mg r) with h0 | h0
        · rw [h0]; exact Nat.two_pow_pos _
        · exact Nat.lt_of_lt_of_le ((Nat.log2_eq_iff (by omega)).1 rfl).2 (Nat.pow_le_pow_right (by decide) (by omega))
      rw [Nat.div_eq_of_lt hlt, Nat.div_eq_of_lt (Nat.lt_of_lt_of_le hlt (Nat.pow_le_pow_right (by decide) (by omega)))]
theorem dbl_lt {r : Nat} (h : r < r52) : dbl r < r53 := by
  unfold dbl r52 r53 at *
  split <;> omega
theorem dbl_pos {r : Nat} (h : 0 < r) : r < dbl r := by
  unfold dbl
  split <;> omega
end Flo
end Go.Proofs.Ytjleobcbgldhmaa
namespace Go.Proofs.Ytjleobcbgldhmaa
set_option maxRecDepth 100000
open Go.RowKit H
open Ieee
set_option linter.unusedVariables false
namespace Flo
def geF (a b : Nat) : Prop := ¬ nanF a ∧ ¬ nanF b ∧ od b ≤ od a
instance (a b : Nat) : Decidable (geF a b) := by unfold geF; infer_instance
theorem ord_ge (a b : Nat) : (FloatKind.f64.format.order a b == some .gt || FloatKind.f64.format.order a b == some .eq) = decide (geF a b) := by
  show (double.order a b == some .gt || double.order a b == some .eq) = _
  rcases ord_cases a b with ⟨h, k⟩ | ⟨h, k1, k2⟩
  · rw [h, decide_eq_false (fun hh : geF a b => k.elim hh.1 hh.2.1)]; rfl
  · rw [h]
    by_cases he : od b ≤ od a
    · rw [decide_eq_true (show geF a b from ⟨k1, k2, he⟩)]
      cases hc : compare (od a) (od b) with
      | lt => have := cmp_lt_iff.1 hc; omega
      | eq => rfl
      | gt => rfl
    · rw [decide_eq_false (fun hh : geF a b => he hh.2.2), cmp_lt (by omega)]; rfl
theorem nan_small {r : Nat} (h : r ≤ inf) : ¬ nanF r := by
  unfold nanF rg inf at *
  rw [Nat.mod_eq_of_lt (by omega)]
  omega
theorem od_small {r : Nat} (h : r < inf) : od r = r := by
  unfold od
  rw [sg_small h, rg_small h]
  rfl
theorem ge_small {a b : Nat} (ha : a < inf) (hb : b < inf) : geF a b ↔ b ≤ a := by
  unfold geF
  rw [od_small ha, od_small hb]
  constructor
  · rintro ⟨_, _, h⟩; omega
  · intro h; exact ⟨nan_small (Nat.le_of_lt ha), nan_small (Nat.le_of_lt hb), by omega⟩
theorem eq_small {a b : Nat} (ha : a < inf) (hb : b < inf) : eqF a b ↔ a = b := by
  unfold eqF
  rw [od_small ha, od_small hb]
  constructor
  · rintro ⟨_, _, h⟩; omega
  · intro h; exact ⟨nan_small (Nat.le_of_lt ha), nan_small (Nat.le_of_lt hb), by omega⟩
theorem half_small {r : Nat} (h : r53 ≤ r) (hi : r < inf) : double.div r two = some (r - 4503599627370496) := by
  have := div_two (x := r) (r := r - 4503599627370496) (by rwa [rg_small hi]) (by unfold r53 at h; omega) (by omega) (by rw [rg_small hi]; exact V_half h)
  rw [sg_small hi, word_f] at this
  exact this
theorem dbl_small {r : Nat} (h0 : 0 < r) (h : r < r52) : double.mul r two = some (dbl r) := by
  have h2 := dbl_lt h
  have h3 := dbl_pos h0
  have hi : r53 < inf := by decide
  have hr : r < inf := by omega
  have := mul_two (x := r) (r := dbl r) (by rwa [rg_small hr]) (by omega) (by omega) (by rw [rg_small hr]; exact V_dbl)
  rw [sg_small hr, word_f] at this
  exact this
theorem neg_word {x : Nat} (hx : x < 18446744073709551616) (h : sg x = true) : Op.negFloat .f64 x = rg x := by
  have hs := split_w hx
  rw [h, if_pos rfl] at hs
  have hr := rg_lt x
  generalize rg x = r at hs hr ⊢
  subst hs
  show (9223372036854775808 + r) ^^^ 2 ^ 63 = r
  rw [show (9223372036854775808 : Nat) = 2 ^ 63 by decide]
  have hr : r < 2 ^ 63 := by rw [show (2 : Nat) ^ 63 = 9223372036854775808 by decide]; exact hr
  apply Nat.eq_of_testBit_eq
  intro j
  rw [Nat.testBit_xor, Nat.testBit_two_pow]
  rcases Nat.lt_trichotomy j 63 with hj | rfl | hj
  · rw [Nat.testBit_two_pow_add_gt hj, decide_eq_false (by omega), Bool.xor_false]
  · rw [Nat.testBit_two_pow_add_eq, decide_eq_true rfl, Nat.testBit_lt_two_pow hr]; rfl
  · have h64 : 2 ^ 63 + r < 2 ^ j := by
      have : (2 : Nat) ^ 64 ≤ 2 ^ j := Nat.pow_le_pow_right (by decide) (by omega)
      rw [show (2 : Nat) ^ 64 = 2 ^ 63 + 2 ^ 63 by decide] at this
      omega
    rw [Nat.testBit_lt_two_pow h64, Nat.testBit_lt_two_pow (show r < 2 ^ j by omega), decide_eq_false (by omega)]; rfl
def K30 : Nat := 3000
theorem V_log {r : Nat} (h0 : 0 < r) (h : r < inf) : (V r).log2 < 2098 := by
  unfold V
  have hm := mg_pos h0
  rw [log_mul (by omega)]
  have h1 : (mg r).log2 < 53 := (Nat.log2_lt (by omega)).2 mg_bd
  have h2 : ex r ≤ 2045 := by unfold ex inf at *; split <;> omega
  omega
theorem V_log53 {r : Nat} (h0 : 0 < r) (h : r < r53) : (V r).log2 < 1127 := by
  unfold V
  have hm := mg_pos h0
  rw [log_mul (by omega)]
  have h1 : (mg r).log2 < 53 := (Nat.log2_lt (by omega)).2 mg_bd
  have h2 : ex r ≤ 1074 := by unfold ex r53 at *; split <;> omega
  omega
theorem ex_bd {y r N : Nat} (hy : 0 < y) (hyi : y < inf) (hr : 0 < r) (hri : r < inf) (h : V y * 2 ^ N = V r * 2 ^ K30) : N + (V y).log2 = (V r).log2 + 3000 := by
  have h1 := log_mul (n := V y) (k := N) (by have := V_pos hy; omega)
  have h2 := log_mul (n := V r) (k := K30) (by have := V_pos hr; omega)
  rw [h, h2] at h1
  unfold K30 at h1
  omega
theorem m_bd {m r N : Nat} (hm : 0 < m) (hm2 : m < 9007199254740992) (hr : 0 < r) (hri : r < inf) (h : m * 2 ^ K74 * 2 ^ N = V r * 2 ^ K30) : 1800 ≤ N ∧ N ≤ 4100 := by
  have hl : m.log2 < 53 := (Nat.log2_lt (by omega)).2 hm2
  have h0 := Nat.mul_pos hm (Nat.two_pow_pos K74)
  have h1 := log_mul (n := m * 2 ^ K74) (k := N) (by omega)
  have h3 := log_mul (n := m) (k := K74) (by omega)
  have h2 := log_mul (n := V r) (k := K30) (by have := V_pos hr; omega)
  have h4 := V_log hr hri
  rw [h, h2, h3] at h1
  unfold K30 K74 at h1
  omega
theorem m_end {m r N : Nat} (hodd : m % 2 = 1) (h : m * 2 ^ K74 * 2 ^ N = V r * 2 ^ K30) : ∃ k : Nat, (N : Int) - 3000 = (k : Int) - 1074 ∧ V r = m * 2 ^ k := by
  rw [Nat.mul_assoc, ← Nat.pow_add] at h
  have hp : ∀ k, 0 < 2 ^ k := Nat.two_pow_pos
  by_cases hc : K30 ≤ K74 + N
  · obtain ⟨k, hk⟩ : ∃ k, K74 + N = k + K30 := ⟨K74 + N - K30, by omega⟩
    rw [hk, Nat.pow_add, ← Nat.mul_assoc] at h
    exact ⟨k, by unfold K74 K30 at hk; omega, (Nat.eq_of_mul_eq_mul_right (hp _) h).symm⟩
  · obtain ⟨k, hk⟩ : ∃ k, K30 = (k + 1) + (K74 + N) := ⟨K30 - (K74 + N) - 1, by omega⟩
    rw [hk, Nat.pow_add 2 (k + 1), ← Nat.mul_assoc] at h
    have := Nat.eq_of_mul_eq_mul_right (hp _) h
    rw [Nat.pow_succ, ← Nat.mul_assoc] at this
    omega
end Flo
open Flo
namespace H
section
variable {P : Program} {n : Nat} {ops rest : List Oper} {Q : Exit → Fr → World → Prop} {f : Fr} {w w' : World} {o : Oper} {v : Value} {ρ : Operand → Value} {d : Option Tmp} {t tx tz ty : TypeId} {x y : Operand} {pos : String} {aft : Array Edge} {g : Option (Nat × Bool)} {a b : Nat}
theorem X.mulF {r : Nat} (hx : ρ x = .float .f64 a) (hy : ρ y = .float .f64 b) (h : double.mul a b = some r) : (execOp ρ ⟨d, .binOp .mul tx x y tz, ty, pos, aft, g⟩).run P w = .ok (.value (.float .f64 r)) w :=
  X.bin hx hy (by simp [go_sem]) (run_float_arith _ .mul tx .f64 a b r h)
theorem X.geqF (hx : ρ x = .float .f64 a) (hy : ρ y = .float .f64 b) : (execOp ρ ⟨d, .binOp .geq tx x y tz, ty, pos, aft, g⟩).run P w = .ok (.value (.bool (decide (geF a b)))) w :=
  X.bin hx hy (by simp [go_sem]) (by rw [binOp_float_cmp_geq, ord_ge]; rfl)
theorem X.negF {r : Nat} (hx : ρ x = .float .f64 a) (h : Op.negFloat .f64 a = r) : (execOp ρ ⟨d, .unOp .neg t x, ty, pos, aft, g⟩).run P w = .ok (.value (.float .f64 r)) w := by
  subst h
  simp [execOp, hx, Op.unary]
theorem X.convFU (hx : ρ x = .float .f64 a) (ha : a < r53) (hs : (P.underlying t).isSome = true) (hd : P.underlying tz = some (.int .u64)) : (execOp ρ ⟨d, .convert t tz x, ty, pos, aft, g⟩).run P w = .ok (.value (.int .u64 (wh a : Int))) w := by
  have hw := wh_lt ha
  have h : floatToIntVal .f64 a .u64 = some (wh a : Int) := by
    unfold floatToIntVal
    have e : (FloatKind.f64.decode a).toInt .zero = some (wh a : Int) := toInt_wh (by unfold r53 at ha; unfold inf; omega)
    rw [e]
    have h1 : IntKind.u64.min = 0 := by decide
    have h2 : IntKind.u64.max = 18446744073709551615 := by decide
    dsimp only
    rw [h1, h2, if_pos (by omega)]
  simp only [execOp, hx, Sem.run_bind, run_convert_float_int w t tz .f64 .u64 a _ hs hd h, Result.andThen_ok, Sem.run_pure]
theorem X.convUF {u : Nat} {k : IntKind} (hx : ρ x = .int k (u : Int)) (hs : (P.underlying t).isSome = true) (hd : P.underlying tz = some (.float .f64)) : (execOp ρ ⟨d, .convert t tz x, ty, pos, aft, g⟩).run P w = .ok (.value (.float .f64 (fl u))) w := by
  have e : floatOfInt .f64 (u : Int) = fl u := by
    show double.nearest (decide ((u : Int) < 0)) (u : Int).natAbs 0 = fl u
    rw [decide_eq_false (by omega), Int.natAbs_natCast]
    rfl
  simp only [execOp, hx, Sem.run_bind, run_convert_int_float w t tz k .f64 (u : Int) hs hd, Result.andThen_ok, Sem.run_pure, e]
end
end H
end Go.Proofs.Ytjleobcbgldhmaa
namespace Go.Proofs.Ytjleobcbgldhmaa
set_option maxRecDepth 100000
open Go.RowKit H
open Flo
set_option linter.unusedVariables false
theorem kind_fin {r : Nat} (h0 : 0 < r) (h : r < inf) : kindF r = 1 := by
  unfold kindF
  rw [if_neg (nan_small (Nat.le_of_lt h)), rg_small h, if_neg (by omega), if_neg (by omega)]
theorem kind_inf : kindF inf = 2 := by decide
theorem lt_small {r : Nat} (h : r < inf) : ¬ ltF r 0 := fun k => by
  have := (lt_0 r).1 k
  rw [sg_small h] at this
  exact absurd this.2.1 (by decide)
theorem inf53 : r53 < inf := by decide
theorem inf52 : r52 < r53 := by decide
theorem split03 (r : Nat) (w : World) (h0 : 0 < r) (hi : r < inf) : Calls Try.prog 49 #[.float .f64 r] w fun e w' => ∃ m k : Nat, e = .returned (.tuple #[.bool false, .int .u64 (m : Int), .int .i64 ((k : Int) - 1074)]) ∧ 0 < m ∧ m < 9007199254740992 ∧ k ≤ 2200 ∧ V r = m * 2 ^ k ∧ Ext w w' := by
  have ck := kind03 r w
  rw [kind_fin h0 hi] at ck
  have hlt := lt_small hi
  have i53 := inf53
  have i52 := inf52
  have hl1 := V_log h0 hi
  refine enter Try.func49 rfl (by kernel_rfl) ?_
  refine J.seq ?_
  refine J.region ?_
  refine L.va rfl (X.assign (by conv => lhs; whnf)) ?_
  refine L.va rfl (X.assign (by conv => lhs; whnf)) ?_
  refine L.va rfl (X.assign (by conv => lhs; whnf)) ?_
  refine L.nil ?_
  refine J.seq ?_
  refine J.seq ?_
  refine J.region ?_
  refine L.va rfl (X.move (by conv => lhs; whnf)) ?_
  refine L.call rfl en_44 rfl (ck) ?_
  rintro e w1 ⟨rfl, he1⟩
  refine ⟨_, rfl, ?_⟩
  have he1 : Ext w w1 := he1
  refine L.va rfl (X.neq rfl rfl) ?_
  refine L.nil ?_
  refine J.iteF rfl ?_
  refine J.skip ?_
  refine J.seq ?_
  refine J.region ?_
  refine L.va rfl (X.move (by conv => lhs; whnf)) ?_
  refine L.va rfl (X.assign (by conv => lhs; whnf)) ?_
  refine L.nil ?_
  refine J.seq ?_
  refine J.seq ?_
  refine J.region ?_
  refine L.va rfl (X.move (by conv => lhs; whnf)) ?_
  refine L.va rfl (X.lssF rfl rfl) ?_
  refine L.nil ?_
  refine J.decF rfl (by exact hlt) ?_
  refine J.skip ?_
  refine J.seq ?_
  refine J.region ?_
  refine L.va rfl (X.assign (by conv => lhs; whnf)) ?_
  refine L.nil ?_
  refine J.seq ?_
  refine J.block ?_
  refine J.loop (X := Nat × Nat) [5, 6, 18, 19, 20, 21, 22, 23] (fun (y, N) => [(5, .float .f64 y), (6, .int .i64 ((N : Int) - 3000))]) (fun (y, N) w' => 0 < y ∧ y < inf ∧ V y * 2 ^ N = V r * 2 ^ K30 ∧ w' = w1) (fun (y, _) => y) ((r, K30)) (At2 (by first | rfl | exact at_int rfl (by omega) | exact at_slice rfl (by omega) | exact at_int rfl (by simp)) (by first | rfl | exact at_int rfl (by omega) | exact at_slice rfl (by omega) | exact at_int rfl (by simp))) ?_ ?_
  · exact ⟨h0, hi, rfl, rfl⟩
  · rintro ⟨y, N⟩ g w2 ⟨hy, hyi, hV, rfl⟩
    have hN := ex_bd hy hyi h0 hi hV
    have hyl := V_log hy hyi
    refine J.seq ?_
    refine J.seq ?_
    refine J.region ?_
    refine L.va rfl (X.move (by conv => lhs; whnf)) ?_
    refine L.va rfl (X.geqF rfl rfl) ?_
    refine L.nil ?_
    refine J.ite rfl (fun hg => ?_) (fun hg => ?_)
    · have hge : r53 ≤ y := (ge_small hyi i53).1 (of_decide_eq_true hg)
      have hVh := V_half hge
      refine J.skip ?_
      refine J.block ?_
      refine J.seq ?_
      refine J.region ?_
      refine L.va rfl (X.move (by conv => lhs; whnf)) ?_
      refine L.va rfl (X.quoF rfl rfl (half_small hge hyi)) ?_
      refine L.va rfl (X.assign (by conv => lhs; whnf)) ?_
      refine L.nil ?_
      refine J.region ?_
      refine L.va rfl (X.move (by conv => lhs; whnf)) ?_
      refine L.va rfl (X.add rfl rfl (by omega)) ?_
      refine L.va rfl (X.assign (by conv => lhs; whnf)) ?_
      refine L.nil ?_
      refine ⟨(y - 4503599627370496, N + 1), At2 (by first | rfl | exact at_int rfl (by omega) | exact at_slice rfl (by omega) | exact at_int rfl (by simp)) (by first | rfl | exact at_int rfl (by omega) | exact at_slice rfl (by omega) | exact at_int rfl (by simp)), (by (iterate 8 refine Agr.lk rfl ?_); exact Agr.lk rfl (Agr.hav rfl Agr.rfl')), ?_⟩
      have hc : 4503599627370496 < r53 := by decide
      refine ⟨⟨by omega, by omega, ?_, rfl⟩, by show y - 4503599627370496 < y; omega⟩
      rw [← hV, hVh, Nat.pow_succ, ← Nat.mul_assoc, Nat.mul_comm _ 2, Nat.mul_assoc]
    · have hlt53 : y < r53 := by
        have : ¬ r53 ≤ y := fun h => of_decide_eq_false hg ((ge_small hyi i53).2 h)
        omega
      refine J.exit ?_
      refine J.seq ?_
      refine J.block ?_
      refine J.loop (X := Nat × Nat) [5, 6, 24, 25, 26, 27, 28, 29, 30, 31, 32] (fun (y, N) => [(5, .float .f64 y), (6, .int .i64 ((N : Int) - 3000))]) (fun (y, N) w' => 0 < y ∧ y < r53 ∧ V y * 2 ^ N = V r * 2 ^ K30 ∧ w' = w2) (fun (y, _) => r53 - y) ((y, N)) (At2 (by first | rfl | exact at_int rfl (by omega) | exact at_slice rfl (by omega) | exact at_int rfl (by simp)) (by first | rfl | exact at_int rfl (by omega) | exact at_slice rfl (by omega) | exact at_int rfl (by simp))) ?_ ?_
      · exact ⟨hy, hlt53, hV, rfl⟩
      · rintro ⟨y, N⟩ g w3 ⟨hy, hy53, hV, rfl⟩
        have hyi : y < inf := by omega
        have hN := ex_bd hy hyi h0 hi hV
        have hyl := V_log53 hy hy53
        have hw := wh_lt hy53
        have hfi := fl_inf hw
        refine J.seq ?_
        refine J.seq ?_
        refine J.region ?_
        refine L.va rfl (X.move (by conv => lhs; whnf)) ?_
        refine L.va rfl (X.move (by conv => lhs; whnf)) ?_
        refine L.va rfl (X.convFU rfl hy53 (by rw [Try.underlying38]; rfl) Try.underlying52) ?_
        refine L.va rfl (X.convUF rfl (by rw [Try.underlying52]; rfl) Try.underlying38) ?_
        refine L.va rfl (X.neqF rfl rfl) ?_
        refine L.nil ?_
        refine J.ndec rfl (fun he => ?_) (fun he => ?_)
        · have hne : ¬ V y = wh y * 2 ^ K74 := fun h => he ((eq_small hyi hfi).2 ((fl_wh hy53).2 h).symm)
          have h52 : y < r52 := by
            rcases Nat.lt_or_ge y r52 with h | h
            · exact h
            · exact absurd (whole_big h) hne
          have hd := dbl_lt h52
          have hd0 := dbl_pos hy
          obtain ⟨N', rfl⟩ : ∃ N', N = N' + 1 := ⟨N - 1, by omega⟩
          refine J.skip ?_
          refine J.block ?_
          refine J.seq ?_
          refine J.region ?_
          refine L.va rfl (X.move (by conv => lhs; whnf)) ?_
          refine L.va rfl (X.mulF rfl rfl (dbl_small hy h52)) ?_
          refine L.va rfl (X.assign (by conv => lhs; whnf)) ?_
          refine L.nil ?_
          refine J.region ?_
          refine L.va rfl (X.move (by conv => lhs; whnf)) ?_
          refine L.va rfl (X.sub rfl rfl (by omega)) ?_
          refine L.va rfl (X.assign (by conv => lhs; whnf)) ?_
          refine L.nil ?_
          refine ⟨(dbl y, N'), At2 (by first | rfl | exact at_int rfl (by omega) | exact at_slice rfl (by omega) | exact at_int rfl (by simp)) (by first | rfl | exact at_int rfl (by omega) | exact at_slice rfl (by omega) | exact at_int rfl (by simp)), (by (iterate 11 refine Agr.lk rfl ?_); exact Agr.lk rfl (Agr.hav rfl Agr.rfl')), ?_⟩
          refine ⟨⟨by omega, hd, ?_, rfl⟩, by show r53 - dbl y < r53 - y; omega⟩
          rw [← hV, V_dbl, Nat.pow_succ, Nat.mul_comm 2 (V y), Nat.mul_assoc, Nat.mul_comm 2]
        · have hwy : V y = wh y * 2 ^ K74 := (fl_wh hy53).1 ((eq_small hyi hfi).1 he).symm
          have hw0 : 0 < wh y := by
            rcases Nat.eq_zero_or_pos (wh y) with h | h
            · rw [h, Nat.zero_mul] at hwy
              have := V_pos hy
              omega
            · exact h
          refine J.exit ?_
          refine J.seq ?_
          refine J.region ?_
          refine L.va rfl (X.move (by conv => lhs; whnf)) ?_
          refine L.va rfl (X.convFU rfl hy53 (by rw [Try.underlying38]; rfl) Try.underlying52) ?_
          refine L.va rfl (X.assign (by conv => lhs; whnf)) ?_
          refine L.nil ?_
          refine J.seq ?_
          refine J.block ?_
          refine J.loop (X := Nat × Nat) [6, 7, 35, 36, 37, 38, 39, 40, 41] (fun (m, N) => [(7, .int .u64 (m : Int)), (6, .int .i64 ((N : Int) - 3000))]) (fun (m, N) w' => 0 < m ∧ m < 9007199254740992 ∧ m * 2 ^ K74 * 2 ^ N = V r * 2 ^ K30 ∧ w' = w3) (fun (m, _) => m) ((wh y, N)) (At2 (by first | rfl | exact at_int rfl (by omega) | exact at_slice rfl (by omega) | exact at_int rfl (by simp)) (by first | rfl | exact at_int rfl (by omega) | exact at_slice rfl (by omega) | exact at_int rfl (by simp))) ?_ ?_
          · exact ⟨hw0, hw, by rw [← hwy]; exact hV, rfl⟩
          · rintro ⟨m, N⟩ g w4 ⟨hm, hm2, hV, rfl⟩
            have hb := m_bd hm hm2 h0 hi hV
            refine J.seq ?_
            refine J.seq ?_
            refine J.region ?_
            refine L.va rfl (X.move (by conv => lhs; whnf)) ?_
            refine L.va rfl (X.rem rfl rfl (by omega)) ?_
            refine L.va rfl (X.eql rfl rfl) ?_
            refine L.nil ?_
            refine J.dec rfl (fun hev => ?_) (fun hev => ?_)
            · refine J.skip ?_
              refine J.block ?_
              refine J.seq ?_
              refine J.region ?_
              refine L.va rfl (X.move (by conv => lhs; whnf)) ?_
              refine L.va rfl (X.quoU rfl rfl (by omega)) ?_
              refine L.va rfl (X.assign (by conv => lhs; whnf)) ?_
              refine L.nil ?_
              refine J.region ?_
              refine L.va rfl (X.move (by conv => lhs; whnf)) ?_
              refine L.va rfl (X.add rfl rfl (by omega)) ?_
              refine L.va rfl (X.assign (by conv => lhs; whnf)) ?_
              refine L.nil ?_
              obtain ⟨q, hq⟩ : ∃ q, m = 2 * q := ⟨m / 2, by omega⟩
              have eq : (m : Int) / 2 = (q : Int) := by omega
              rw [eq]
              refine ⟨(q, N + 1), At2 (by first | rfl | exact at_int rfl (by omega) | exact at_slice rfl (by omega) | exact at_int rfl (by simp)) (by first | rfl | exact at_int rfl (by omega) | exact at_slice rfl (by omega) | exact at_int rfl (by simp)), (by (iterate 9 refine Agr.lk rfl ?_); exact Agr.lk rfl (Agr.hav rfl Agr.rfl')), ?_⟩
              refine ⟨⟨by omega, by omega, ?_, rfl⟩, by show q < m; omega⟩
              rw [← hV, hq, Nat.pow_succ, ← Nat.mul_assoc, Nat.mul_comm _ 2, ← Nat.mul_assoc, ← Nat.mul_assoc]
            · obtain ⟨k, hk, hVk⟩ := m_end (by omega) hV
              refine J.exit ?_
              refine J.seq ?_
              refine J.region ?_
              refine L.va rfl (X.move (by conv => lhs; whnf)) ?_
              refine L.va rfl (X.lssF rfl rfl) ?_
              refine L.va rfl (X.move (by conv => lhs; whnf)) ?_
              refine L.va rfl (X.move (by conv => lhs; whnf)) ?_
              refine L.va rfl (X.assign (by conv => lhs; whnf)) ?_
              refine L.va rfl (X.assign (by conv => lhs; whnf)) ?_
              refine L.va rfl (X.assign (by conv => lhs; whnf)) ?_
              refine L.nil ?_
              refine J.ret ?_
              refine fin3 ?_
              refine ⟨m, k, ?_, hm, hm2, by omega, hVk, he1⟩
              show Ending.returned (.tuple #[.bool (decide (ltF r 0)), .int .u64 (m : Int), .int .i64 ((N : Int) - 3000)]) = _
              rw [decide_eq_false hlt, hk]
theorem rank03 (r : Nat) (w : World) (hi : r ≤ inf) : Calls Try.prog 46 #[.float .f64 r] w fun e w' => e = .returned (.int .u64 (r : Int)) ∧ Ext w w' := by
  have ck := kind03 r w
  refine enter Try.func46 rfl (by kernel_rfl) ?_
  refine J.seq ?_
  refine J.region ?_
  refine L.va rfl (X.assign (by conv => lhs; whnf)) ?_
  refine L.nil ?_
  refine J.seq ?_
  refine J.seq ?_
  refine J.region ?_
  refine L.va rfl (X.move (by conv => lhs; whnf)) ?_
  refine L.call rfl en_44 rfl (ck) ?_
  rintro e w1 ⟨rfl, he1⟩
  refine ⟨_, rfl, ?_⟩
  have he1 : Ext w w1 := he1
  by_cases h1 : r = inf
  · subst h1
    rw [kind_inf]
    refine L.va rfl (X.eql rfl rfl) ?_
    refine L.nil ?_
    refine J.iteT rfl ?_
    refine J.seq ?_
    refine J.region ?_
    refine L.va rfl (X.assign (by conv => lhs; whnf)) ?_
    refine L.nil ?_
    refine J.ret ?_
    refine thn_ret <| ?_
    refine fin1 ?_
    exact ⟨rfl, he1⟩
  · have hi' : r < inf := by omega
    refine L.va rfl (X.eql rfl rfl) ?_
    refine L.nil ?_
    refine J.decF rfl (by unfold kindF; rw [if_neg (nan_small (Nat.le_of_lt hi')), rg_small hi']; split <;> omega) ?_
    refine J.skip ?_
    refine J.seq ?_
    refine J.seq ?_
    refine J.region ?_
    refine L.va rfl (X.move (by conv => lhs; whnf)) ?_
    refine L.va rfl (X.eqlF rfl rfl) ?_
    refine L.nil ?_
    refine J.dec rfl (fun h2 => ?_) (fun h2 => ?_)
    · have h2 := ((eq_0 r).1 h2).2
      rw [rg_small hi'] at h2
      subst h2
      refine J.seq ?_
      refine J.region ?_
      refine L.va rfl (X.assign (by conv => lhs; whnf)) ?_
      refine L.nil ?_
      refine J.ret ?_
      refine thn_ret <| ?_
      refine fin1 ?_
      exact ⟨rfl, he1⟩
    · have h0 : 0 < r := by
        rcases Nat.eq_zero_or_pos r with h | h
        · exact absurd ((eq_0 r).2 ⟨nan_small (Nat.le_of_lt hi'), by rw [rg_small hi']; exact h⟩) h2
        · exact h
      refine J.skip ?_
      refine J.seq ?_
      refine J.region ?_
      refine L.va rfl (X.move (by conv => lhs; whnf)) ?_
      refine L.call rfl en_49 rfl (split03 r w1 h0 hi') ?_
      rintro e w2 ⟨m, k, rfl, hm, hm2, hk, hV, he2⟩
      refine ⟨_, rfl, ?_⟩
      have he02 := he1.trans he2
      refine L.va rfl (X.move (by conv => lhs; whnf)) ?_
      refine L.va rfl (X.extract rfl rfl) ?_
      refine L.va rfl (X.extract rfl rfl) ?_
      refine L.va rfl (X.extract rfl rfl) ?_
      refine L.va rfl (X.assign (by conv => lhs; whnf)) ?_
      refine L.va rfl (X.assign (by conv => lhs; whnf)) ?_
      refine L.va rfl (X.assign (by conv => lhs; whnf)) ?_
      refine L.nil ?_
      refine J.seq ?_
      refine J.block ?_
      refine J.loop (X := Nat × Nat) [4, 5, 17, 18, 19, 20, 21, 22, 23, 24, 25, 26] (fun (m, k) => [(4, .int .u64 (m : Int)), (5, .int .i64 ((k : Int) - 1074))]) (fun (m, k) w' => 0 < m ∧ m < 9007199254740992 ∧ k ≤ 2200 ∧ V r = m * 2 ^ k ∧ w' = w2) (fun (_, k) => k) ((m, k)) (At2 (by first | rfl | exact at_int rfl (by omega) | exact at_slice rfl (by omega) | exact at_int rfl (by simp)) (by first | rfl | exact at_int rfl (by omega) | exact at_slice rfl (by omega) | exact at_int rfl (by simp))) ?_ ?_
      · exact ⟨hm, hm2, hk, hV, rfl⟩
      · rintro ⟨m, k⟩ g w3 ⟨hm, hm2, hk, hV, rfl⟩
        refine J.seq ?_
        refine J.seq ?_
        refine J.region ?_
        refine L.va rfl (X.move (by conv => lhs; whnf)) ?_
        refine L.va rfl (X.lss rfl rfl) ?_
        refine L.va rfl (X.move (by conv => lhs; whnf)) ?_
        by_cases hlt : m < 4503599627370496
        · refine L.caseDecT (k := 19) rfl (by omega) ?_
          refine L.va rfl (X.move (by conv => lhs; whnf)) ?_
          refine L.va rfl (X.gtr rfl rfl) ?_
          refine L.va rfl (X.pickT rfl (by conv => lhs; whnf)) ?_
          refine L.nil ?_
          refine J.dec rfl (fun hk0 => ?_) (fun hk0 => ?_)
          · obtain ⟨k', rfl⟩ : ∃ k', k = k' + 1 := ⟨k - 1, by omega⟩
            refine J.skip ?_
            refine J.block ?_
            refine J.seq ?_
            refine J.region ?_
            refine L.va rfl (X.move (by conv => lhs; whnf)) ?_
            refine L.va rfl (X.mulU rfl rfl (by omega)) ?_
            refine L.va rfl (X.assign (by conv => lhs; whnf)) ?_
            refine L.nil ?_
            refine J.region ?_
            refine L.va rfl (X.move (by conv => lhs; whnf)) ?_
            refine L.va rfl (X.sub rfl rfl (by omega)) ?_
            refine L.va rfl (X.assign (by conv => lhs; whnf)) ?_
            refine L.nil ?_
            have em : (m : Int) * 2 = ((2 * m : Nat) : Int) := by omega
            rw [em]
            refine ⟨(2 * m, k'), At2 (by first | rfl | exact at_int rfl (by omega) | exact at_slice rfl (by omega) | exact at_int rfl (by simp)) (by first | rfl | exact at_int rfl (by omega) | exact at_slice rfl (by omega) | exact at_int rfl (by simp)), (by (iterate 13 refine Agr.lk rfl ?_); exact Agr.lk rfl (Agr.hav rfl Agr.rfl')), ?_⟩
            refine ⟨⟨by omega, by omega, by omega, ?_, rfl⟩, by show k' < k' + 1; omega⟩
            rw [hV, Nat.pow_succ, Nat.mul_comm 2 m, Nat.mul_assoc, Nat.mul_comm 2]
          · obtain rfl : k = 0 := by omega
            rw [Nat.pow_zero, Nat.mul_one] at hV
            have er : r = m := V_inj (by rw [hV, V_low hlt])
            subst er
            refine J.exit ?_
            refine J.seq ?_
            refine J.seq ?_
            refine J.region ?_
            refine L.va rfl (X.move (by conv => lhs; whnf)) ?_
            refine L.va rfl (X.lss rfl rfl) ?_
            refine L.nil ?_
            refine J.decT rfl (by omega) ?_
            refine J.seq ?_
            refine J.region ?_
            refine L.va rfl (X.move (by conv => lhs; whnf)) ?_
            refine L.va rfl (X.assign (by conv => lhs; whnf)) ?_
            refine L.nil ?_
            refine J.ret ?_
            refine thn_ret <| ?_
            refine fin1 ?_
            exact ⟨rfl, he02⟩
        · refine L.caseDecF (k := 19) rfl (by omega) ?_
          refine L.no rfl ?_
          refine L.no rfl ?_
          refine L.va rfl (X.pickF rfl (by conv => lhs; whnf)) ?_
          refine L.nil ?_
          refine J.iteF rfl ?_
          have er : r = k * 4503599627370496 + m := V_inj (by rw [hV, V_parts (by omega) hm2])
          have hin : inf = 9218868437227405312 := rfl
          refine J.exit ?_
          refine J.seq ?_
          refine J.seq ?_
          refine J.region ?_
          refine L.va rfl (X.move (by conv => lhs; whnf)) ?_
          refine L.va rfl (X.lss rfl rfl) ?_
          refine L.nil ?_
          refine J.decF rfl (by omega) ?_
          refine J.skip ?_
          refine J.seq ?_
          refine J.region ?_
          refine L.va rfl (X.move (by conv => lhs; whnf)) ?_
          refine L.va rfl (X.add rfl rfl (by omega)) ?_
          refine L.va rfl ((by first | exact X.convU rfl is_3 Try.underlying52 (by omega) | exact X.convw rfl is_3 Try.underlying52)) ?_
          refine L.va rfl (X.mulU rfl rfl (by omega)) ?_
          refine L.va rfl (X.move (by conv => lhs; whnf)) ?_
          refine L.va rfl (X.addU rfl rfl (by omega)) ?_
          refine L.va rfl (X.assign (by conv => lhs; whnf)) ?_
          refine L.nil ?_
          refine J.ret ?_
          refine fin1 ?_
          have e9 : ((k : Int) - 1074 + 1074) * 4503599627370496 + (m : Int) = (r : Int) := by omega
          exact ⟨congrArg (fun z => Ending.returned (.int .u64 z)) e9, he02⟩
theorem key03 (x : Nat) (w : World) (hx : x < 18446744073709551616) : Calls Try.prog 35 #[.float .f64 x] w fun e w' => e = .returned (.int .u64 (keyF x)) ∧ Ext w w' := by
  have ck := kind03 x w
  have hsp := split_w hx
  have hin : inf = 9218868437227405312 := rfl
  refine enter Try.func35 rfl (by kernel_rfl) ?_
  refine J.seq ?_
  refine J.region ?_
  refine L.va rfl (X.assign (by conv => lhs; whnf)) ?_
  refine L.nil ?_
  refine J.seq ?_
  refine J.seq ?_
  refine J.region ?_
  refine L.va rfl (X.move (by conv => lhs; whnf)) ?_
  refine L.call rfl en_44 rfl (ck) ?_
  rintro e w1 ⟨rfl, he1⟩
  refine ⟨_, rfl, ?_⟩
  have he1 : Ext w w1 := he1
  refine L.va rfl (X.eql rfl rfl) ?_
  refine L.nil ?_
  refine J.dec rfl (fun h3 => ?_) (fun h3 => ?_)
  · have hn := (kind3 x).1 h3
    have e : keyF x = 18446744073709551615 := by unfold keyF; rw [if_pos hn]
    rw [e]
    refine J.seq ?_
    refine J.region ?_
    refine L.va rfl (X.assign (by conv => lhs; whnf)) ?_
    refine L.nil ?_
    refine J.ret ?_
    refine thn_ret <| ?_
    refine fin1 ?_
    exact ⟨rfl, he1⟩
  · have hn : ¬ nanF x := fun h => h3 ((kind3 x).2 h)
    have e : keyF x = if sg x then 9223372036854775807 - (rg x : Int) else 9223372036854775808 + (rg x : Int) := by unfold keyF; rw [if_neg hn]
    have hle : rg x ≤ inf := Nat.not_lt.1 hn
    have hb : belowF x = sg x := by unfold belowF; rw [decide_eq_true hn]; rfl
    have cb := below03 x w1 hx
    rw [hb] at cb
    refine J.skip ?_
    refine J.seq ?_
    refine J.seq ?_
    refine J.region ?_
    refine L.va rfl (X.move (by conv => lhs; whnf)) ?_
    refine L.call rfl en_45 rfl (cb) ?_
    rintro e _ ⟨rfl, rfl⟩
    refine ⟨_, rfl, ?_⟩
    cases hs : sg x
    · rw [hs] at e hsp
      have ex : x = rg x := by simpa using hsp
      have cr := rank03 (rg x) w1 hle
      rw [← ex] at cr
      rw [e]
      refine L.nil ?_
      refine J.iteF rfl ?_
      refine J.skip ?_
      refine J.seq ?_
      refine J.region ?_
      refine L.va rfl (X.move (by conv => lhs; whnf)) ?_
      refine L.call rfl en_46 rfl (cr) ?_
      rintro e w2 ⟨rfl, he2⟩
      refine ⟨_, rfl, ?_⟩
      have he2 : Ext w1 w2 := he2
      have hle' : x ≤ inf := by omega
      refine L.va rfl (X.addU rfl rfl (by omega)) ?_
      refine L.va rfl (X.assign (by conv => lhs; whnf)) ?_
      refine L.nil ?_
      refine J.ret ?_
      refine fin1 ?_
      refine ⟨?_, he1.trans he2⟩
      rw [← ex]
      rfl
    · rw [hs] at e hsp
      rw [e]
      refine L.nil ?_
      refine J.iteT rfl ?_
      refine J.seq ?_
      refine J.region ?_
      refine L.va rfl (X.move (by conv => lhs; whnf)) ?_
      refine L.va rfl (X.negF rfl (neg_word hx hs)) ?_
      refine L.call rfl en_46 rfl (rank03 (rg x) w1 hle) ?_
      rintro e w2 ⟨rfl, he2⟩
      refine ⟨_, rfl, ?_⟩
      refine L.va rfl (X.subU rfl rfl (by omega)) ?_
      refine L.va rfl (X.assign (by conv => lhs; whnf)) ?_
      refine L.nil ?_
      refine J.ret ?_
      refine thn_ret <| ?_
      refine fin1 ?_
      exact ⟨rfl, he1.trans he2⟩
end Go.Proofs.Ytjleobcbgldhmaa
namespace Go.Proofs.Ytjleobcbgldhmaa
set_option maxRecDepth 100000
open Go.RowKit H
open Byts Cod Flo Odr
set_option linter.unusedVariables false
namespace H
theorem X.addE {P : Program} {w : World} {ρ : Operand → Value} {d : Option Tmp} {tx tz ty : TypeId} {x y : Operand} {pos : String} {aft : Array Edge} {g : Option (Nat × Bool)} {k : IntKind} {m n z : Int} (hx : ρ x = .int k m) (hy : ρ y = .int k n) (h : k.wrap (m + n) = z) : (execOp ρ ⟨d, .binOp .add tx x y tz, ty, pos, aft, g⟩).run P w = .ok (.value (.int k z)) w := by
  rw [← h]; exact X.addw hx hy
theorem X.subE {P : Program} {w : World} {ρ : Operand → Value} {d : Option Tmp} {tx tz ty : TypeId} {x y : Operand} {pos : String} {aft : Array Edge} {g : Option (Nat × Bool)} {k : IntKind} {m n z : Int} (hx : ρ x = .int k m) (hy : ρ y = .int k n) (h : k.wrap (m - n) = z) : (execOp ρ ⟨d, .binOp .sub tx x y tz, ty, pos, aft, g⟩).run P w = .ok (.value (.int k z)) w := by
  rw [← h]; exact X.subw hx hy
end H
theorem turned_n0 (u : List Int) : turned [] u 0 = u := turned_0 [] u
theorem turned_nall (u : List Int) : turned [] u u.length = inv u := turned_all [] u
theorem turned_nat {u : List Int} {k : Nat} (h : k < u.length) : (turned [] u k).getD k 0 = u.getD k 0 := by
  have := turned_at (p := []) h
  rwa [List.length_nil, Nat.zero_add] at this
theorem turned_nset {u : List Int} {k : Nat} (h : k < u.length) : (turned [] u k).set k (255 - u.getD k 0) = turned [] u (k + 1) := by
  have := turned_set (p := []) h
  rwa [List.length_nil, Nat.zero_add] at this
theorem high8 (x : Int) (w : World) (h0 : 0 ≤ x) (h1 : x ≤ 18446744073709551615) :
    Calls Try.prog 34 #[.int .u64 x, .int .i64 8] w fun e w' => ∃ A' c', e = .returned (.slice A' 8 c') ∧ w'.ownsRow w.heap.size 5 1 (.slice A' 8 c') 8 (nums .u8 (be 8 x)) ∧ Ext w w' := by
  have h8 := wd_le8 h0 h1
  refine enter Try.func34 rfl (by kernel_rfl) ?_
  refine J.seq ?_
  refine J.region ?_
  refine L.va rfl (X.assign (by conv => lhs; whnf)) ?_
  refine L.nil ?_
  refine J.seq ?_
  refine J.region ?_
  refine L.va rfl (X.assign (by conv => lhs; whnf)) ?_
  refine L.nil ?_
  refine J.seq ?_
  refine J.block ?_
  refine J.loop (X := Nat × Int × Option Addr × Nat) [0, 5, 6, 7, 8, 9, 10, 11, 12, 13, 14, 15, 16, 17, 18, 19, 20, 21] (fun (k, y, B, d) => [(5, .slice B k d), (0, .int .u64 y)]) (fun (k, y, B, d) w' => y = x / 256 ^ k ∧ k ≤ 8 ∧ (k + wd y = wd x ∨ y = 0) ∧ w'.ownsRow w.heap.size 5 1 (.slice B k d) k (nums .u8 (be k x)) ∧ Ext w w') (fun (k, _) => 8 - k) ((0, x, none, 0)) (At2 (by first | rfl | exact at_int rfl (by omega) | exact at_slice rfl (by omega) | exact at_int rfl (by simp)) (by first | rfl | exact at_int rfl (by omega) | exact at_slice rfl (by omega) | exact at_int rfl (by simp))) ?_ ?_
  · exact ⟨by simp, by omega, .inl (Nat.zero_add _), own_nil _ _ _ _, .refl _⟩
  · rintro ⟨k, y, B, d⟩ g w2 ⟨hy, hk, hor, ho, he⟩
    have y0 : 0 ≤ y := by rw [hy]; exact Int.ediv_nonneg h0 (Int.pow_nonneg (by decide))
    have y1 : y ≤ 18446744073709551615 := by rw [hy]; exact Int.le_trans (Int.ediv_le_self _ h0) h1
    have hz2 := he.le
    have hy2 : y / 256 = x / 256 ^ (k + 1) := by rw [hy, Int.ediv_ediv_of_nonneg (Int.pow_nonneg (by decide)), ← Int.pow_succ]
    refine J.seq ?_
    refine J.seq ?_
    refine J.region ?_
    refine L.va rfl (X.move (by conv => lhs; whnf)) ?_
    refine L.va rfl (X.gtr rfl rfl) ?_
    refine L.va rfl (X.move (by conv => lhs; whnf)) ?_
    refine L.caseDec (k := 8) rfl (fun hp => ?_) (fun hp => ?_)
    · have hs := wd_pos (show 0 < y from hp)
      have hk8 : k < 8 := by omega
      refine L.no rfl ?_
      refine L.no rfl ?_
      refine L.no rfl ?_
      refine L.no rfl ?_
      refine L.va rfl (X.pickT rfl (by conv => lhs; whnf)) ?_
      refine L.nil ?_
      refine J.iteT rfl ?_
      refine J.skip ?_
      refine J.block ?_
      refine J.seq ?_
      refine J.region ?_
      refine L.va rfl (X.move (by conv => lhs; whnf)) ?_
      refine L.va rfl (X.rem rfl rfl (by omega)) ?_
      refine L.va rfl ((by first | exact X.conv8 rfl is_52 Try.underlying5 (by omega) | exact X.convw rfl is_52 Try.underlying5)) ?_
      refine L.bslice (vs := [_]) rfl (Evs.cons (by conv => lhs; whnf) Evs.nil) rfl rfl rfl rfl Try.underlying30 sz_5 zr_5 (by decide) ?_
      intro b3 w3 hb3 hs3 hk3 he3
      rw [show (y % 256 : Int) = x / 256 ^ k % 256 by rw [hy]] at hk3
      refine L.va rfl (X.move (by conv => lhs; whnf)) ?_
      refine L.appendQ (q := k + 1) (ys := [x / 256 ^ k % 256] ++ be k x) rfl rfl rfl Try.underlying30 el_5 ((blk_own1 (l := nums .u8 [x / 256 ^ k % 256]) (q := 1) hk3 (by omega : w.heap.size ≤ b3) (by decide) rfl)) ((Reads.of_own (ho.ext he3))) (by omega) (by simp) (by unfold maxLen; omega) (by omega) ?_
      intro A4 c4 w4 ho4 hg4 hb4 hor4
      rw [show [x / 256 ^ k % 256] ++ be k x = be (k + 1) x from (be_cons k x).symm] at ho4
      refine L.va rfl (X.assign (by conv => lhs; whnf)) ?_
      refine L.nil ?_
      refine J.region ?_
      refine L.va rfl (X.move (by conv => lhs; whnf)) ?_
      refine L.va rfl (X.quoU rfl rfl (by omega)) ?_
      refine L.va rfl (X.assign (by conv => lhs; whnf)) ?_
      refine L.nil ?_
      refine ⟨(k + 1, y / 256, A4, c4), At2 (by first | rfl | exact at_int rfl (by omega) | exact at_slice rfl (by omega) | exact at_int rfl (by simp)) (by first | rfl | exact at_int rfl (by omega) | exact at_slice rfl (by omega) | exact at_int rfl (by simp)), (by (iterate 19 refine Agr.lk rfl ?_); exact Agr.lk rfl (Agr.hav rfl Agr.rfl')), ?_⟩
      exact ⟨⟨hy2, by omega, .inl (by omega), ho4, (he.trans he3).low hb4 (Nat.le_refl _)⟩, by show 8 - (k + 1) < 8 - k; omega⟩
    · have hy0 : y = 0 := by omega
      refine L.va rfl (X.move (by conv => lhs; whnf)) ?_
      refine L.va rfl (X.len rfl Try.underlying30) ?_
      refine L.va rfl (X.move (by conv => lhs; whnf)) ?_
      refine L.va rfl (X.lss rfl rfl) ?_
      refine L.va rfl (X.pickF rfl (by conv => lhs; whnf)) ?_
      refine L.nil ?_
      refine J.dec rfl (fun hlt => ?_) (fun hlt => ?_)
      · have hk8 : k < 8 := by omega
        refine J.skip ?_
        refine J.block ?_
        refine J.seq ?_
        refine J.region ?_
        refine L.va rfl (X.move (by conv => lhs; whnf)) ?_
        refine L.va rfl (X.rem rfl rfl (by omega)) ?_
        refine L.va rfl ((by first | exact X.conv8 rfl is_52 Try.underlying5 (by omega) | exact X.convw rfl is_52 Try.underlying5)) ?_
        refine L.bslice (vs := [_]) rfl (Evs.cons (by conv => lhs; whnf) Evs.nil) rfl rfl rfl rfl Try.underlying30 sz_5 zr_5 (by decide) ?_
        intro b3 w3 hb3 hs3 hk3 he3
        rw [show (y % 256 : Int) = x / 256 ^ k % 256 by rw [hy]] at hk3
        refine L.va rfl (X.move (by conv => lhs; whnf)) ?_
        refine L.appendQ (q := k + 1) (ys := [x / 256 ^ k % 256] ++ be k x) rfl rfl rfl Try.underlying30 el_5 ((blk_own1 (l := nums .u8 [x / 256 ^ k % 256]) (q := 1) hk3 (by omega : w.heap.size ≤ b3) (by decide) rfl)) ((Reads.of_own (ho.ext he3))) (by omega) (by simp) (by unfold maxLen; omega) (by omega) ?_
        intro A4 c4 w4 ho4 hg4 hb4 hor4
        rw [show [x / 256 ^ k % 256] ++ be k x = be (k + 1) x from (be_cons k x).symm] at ho4
        refine L.va rfl (X.assign (by conv => lhs; whnf)) ?_
        refine L.nil ?_
        refine J.region ?_
        refine L.va rfl (X.move (by conv => lhs; whnf)) ?_
        refine L.va rfl (X.quoU rfl rfl (by omega)) ?_
        refine L.va rfl (X.assign (by conv => lhs; whnf)) ?_
        refine L.nil ?_
        refine ⟨(k + 1, y / 256, A4, c4), At2 (by first | rfl | exact at_int rfl (by omega) | exact at_slice rfl (by omega) | exact at_int rfl (by simp)) (by first | rfl | exact at_int rfl (by omega) | exact at_slice rfl (by omega) | exact at_int rfl (by simp)), (by (iterate 19 refine Agr.lk rfl ?_); exact Agr.lk rfl (Agr.hav rfl Agr.rfl')), ?_⟩
        exact ⟨⟨hy2, by omega, .inr (by omega), ho4, (he.trans he3).low hb4 (Nat.le_refl _)⟩, by show 8 - (k + 1) < 8 - k; omega⟩
      · refine J.exit ?_
        refine J.seq ?_
        refine J.region ?_
        refine L.va rfl (X.move (by conv => lhs; whnf)) ?_
        refine L.va rfl (X.assign (by conv => lhs; whnf)) ?_
        refine L.nil ?_
        refine J.ret ?_
        refine fin1 ?_
        obtain rfl : k = 8 := by omega
        exact ⟨B, d, rfl, ho, he⟩
theorem ref_F (x : Nat) (w : World) (hx : x < 18446744073709551616) :
    Calls Try.prog 20 #[.float .f64 x] w fun e w' => ∃ A' c', e = .returned (.slice A' 8 c') ∧ w'.ownsRow w.heap.size 5 1 (.slice A' 8 c') 8 (nums .u8 (be 8 (keyF x))) ∧ Ext w w' := by
  have k := keyF_bd x
  refine enter Try.func20 rfl (by kernel_rfl) ?_
  refine J.seq ?_
  refine J.region ?_
  refine L.va rfl (X.assign (by conv => lhs; whnf)) ?_
  refine L.nil ?_
  refine J.seq ?_
  refine J.region ?_
  refine L.va rfl (X.move (by conv => lhs; whnf)) ?_
  refine L.call rfl en_35 rfl (key03 x w hx) ?_
  rintro e w1 ⟨rfl, he1⟩
  refine ⟨_, rfl, ?_⟩
  have he1 : Ext w w1 := he1
  refine L.call rfl en_34 rfl (high8 (keyF x) w1 k.1 k.2) ?_
  rintro e w2 ⟨A', c', rfl, ho2, he2⟩
  refine ⟨_, rfl, ?_⟩
  refine L.va rfl (X.assign (by conv => lhs; whnf)) ?_
  refine L.nil ?_
  refine J.ret ?_
  refine fin1 ?_
  exact ⟨A', c', rfl, own_lower ho2 he1.le, he1.trans he2⟩
theorem ref_I (z : Int) (w : World) (h0 : -9223372036854775808 ≤ z) (h1 : z ≤ 9223372036854775807) :
    Calls Try.prog 19 #[.int .i64 z] w fun e w' => ∃ A' c', e = .returned (.slice A' (cI z).length c') ∧ w'.ownsRow w.heap.size 5 1 (.slice A' (cI z).length c') (cI z).length (nums .u8 (cI z)) ∧ Ext w w' := by
  refine enter Try.func19 rfl (by kernel_rfl) ?_
  refine J.seq ?_
  refine J.region ?_
  refine L.va rfl (X.assign (by conv => lhs; whnf)) ?_
  refine L.nil ?_
  refine J.seq ?_
  refine J.seq ?_
  refine J.region ?_
  refine L.va rfl (X.move (by conv => lhs; whnf)) ?_
  refine L.va rfl (X.geq rfl rfl) ?_
  refine L.nil ?_
  refine J.dec rfl (fun hz => ?_) (fun hz => ?_)
  · have h8 := wd_le8 (x := z) (by omega) (by omega)
    have e : cI z = (9 + (wd z : Int)) :: bz z := by unfold cI; rw [if_pos (by omega)]
    have el : (cI z).length = wd z + 1 := by rw [e]; simp [bz_length]
    rw [el, e]
    refine J.seq ?_
    refine J.region ?_
    refine L.va rfl (X.move (by conv => lhs; whnf)) ?_
    refine L.va rfl ((by first | exact X.convU rfl is_2 Try.underlying52 (by omega) | exact X.convw rfl is_2 Try.underlying52)) ?_
    refine L.call rfl en_33 rfl (ref_U z _ (by omega) (by omega)) ?_
    rintro e w1 ⟨A, c, rfl, ho, he⟩
    refine ⟨_, rfl, ?_⟩
    have hA := (Reads.of_own ho).some_ (by omega)
    refine L.va rfl (X.assign (by conv => lhs; whnf)) ?_
    refine L.nil ?_
    refine J.seq ?_
    refine J.region ?_
    refine L.va rfl (X.move (by conv => lhs; whnf)) ?_
    refine L.va rfl (X.move (by conv => lhs; whnf)) ?_
    refine L.va rfl (X.index1n (j := 0) rfl rfl Try.underlying30 sz_5 (by first | exact Option.some_ne_none _ | exact own_ne ho (by omega) | exact hA) (by omega)) ?_
    refine L.va rfl (X.load rfl sc_5 (by first | exact Ld.own ho (by omega) | exact hA)) ?_
    refine L.va rfl (X.addE rfl rfl (show IntKind.u8.wrap ((cu z).getD 0 0 + 9) = 9 + (wd z : Int) by rw [show (cu z).getD 0 0 = (wd z : Int) from rfl, w8 (by omega)]; omega)) ?_
    refine L.va rfl (X.index1n (j := 0) rfl rfl Try.underlying30 sz_5 (by first | exact Option.some_ne_none _ | exact own_ne ho (by omega) | exact hA) (by omega)) ?_
    refine L.storeON rfl rfl (by conv => lhs; whnf) sz_5 (ho) (by omega) ?_
    intro w2 ho2 hg2 hb2 hs2
    have ho2 : w2.ownsRow w.heap.size 5 1 (.slice A (wd z + 1) c) (wd z + 1) (nums .u8 ((9 + (wd z : Int)) :: bz z)) := ho2
    refine L.nil ?_
    refine J.seq ?_
    refine J.region ?_
    refine L.va rfl (X.move (by conv => lhs; whnf)) ?_
    refine L.va rfl (X.assign (by conv => lhs; whnf)) ?_
    refine L.nil ?_
    refine J.ret ?_
    refine thn_ret <| ?_
    refine fin1 ?_
    exact ⟨A, c, rfl, ho2, he.low hb2 (Nat.le_refl _)⟩
  · obtain ⟨y, hy⟩ : ∃ y, y = -1 - z := ⟨_, rfl⟩
    have h8 := wd_le8 (x := y) (by omega) (by omega)
    have e : cI z = (8 - (wd y : Int)) :: inv (bz y) := by unfold cI; rw [if_neg (by omega), show -(z + 1) = y by omega]
    have el : (cI z).length = wd y + 1 := by rw [e]; simp [inv_length, bz_length]
    rw [el, e]
    refine J.skip ?_
    refine J.seq ?_
    refine J.region ?_
    refine L.va rfl (X.move (by conv => lhs; whnf)) ?_
    refine L.va rfl (X.sub rfl rfl (by omega)) ?_
    refine L.va rfl ((by first | exact X.convU rfl is_2 Try.underlying52 (by omega) | exact X.convw rfl is_2 Try.underlying52)) ?_
    rw [← hy]
    refine L.call rfl en_34 rfl (ref_high y _ (by omega) (by omega)) ?_
    rintro e w1 ⟨A, c, rfl, ho, he⟩
    refine ⟨_, rfl, ?_⟩
    have hub := bz_bytes y
    have hul := bz_length y
    refine L.va rfl (X.assign (by conv => lhs; whnf)) ?_
    refine L.nil ?_
    refine J.seq ?_
    refine J.seq ?_
    refine J.region ?_
    refine L.va rfl (X.assign (by conv => lhs; whnf)) ?_
    refine L.nil ?_
    refine J.block ?_
    refine J.loop (X := Nat) [5, 22, 23, 24, 25, 26, 27, 28, 29, 30, 31, 32, 33, 34, 35] (fun k => [(5, .int .i64 (k : Int))]) (fun k w' => k ≤ wd y ∧ w'.ownsRow w.heap.size 5 1 (.slice A (wd y) c) (wd y) (nums .u8 (turned [] (bz y) k)) ∧ Ext w w') (fun k => wd y - k) (0) (At1 (by first | rfl | exact at_int rfl (by omega) | exact at_slice rfl (by omega) | exact at_int rfl (by simp))) ?_ ?_
    · exact ⟨Nat.zero_le _, by rw [turned_n0]; exact ho, he⟩
    · rintro k g w2 ⟨hk, ho2, he2⟩
      refine J.seq ?_
      refine J.seq ?_
      refine J.region ?_
      refine L.va rfl (X.move (by conv => lhs; whnf)) ?_
      refine L.va rfl (X.move (by conv => lhs; whnf)) ?_
      refine L.va rfl (X.len rfl Try.underlying30) ?_
      refine L.va rfl (X.lss rfl rfl) ?_
      refine L.nil ?_
      refine J.dec rfl (fun hlt => ?_) (fun hlt => ?_)
      · have hku : k < (bz y).length := by omega
        have ht := turned_nat hku
        have hb := getDb hub k
        have hA := (Reads.of_own ho2).some_ (by omega)
        refine J.skip ?_
        refine J.seq ?_
        refine J.block ?_
        refine J.region ?_
        refine L.va rfl (X.move (by conv => lhs; whnf)) ?_
        refine L.va rfl (X.move (by conv => lhs; whnf)) ?_
        refine L.va rfl (X.move (by conv => lhs; whnf)) ?_
        refine L.va rfl (X.move (by conv => lhs; whnf)) ?_
        refine L.va rfl ((by first | exact X.index1n rfl rfl Try.underlying30 sz_5 (by first | exact Option.some_ne_none _ | exact own_ne ho2 (by omega) | exact hA) (by omega) | exact X.index1 rfl rfl Try.underlying30 sz_5 (by first | exact Option.some_ne_none _ | exact own_ne ho2 (by omega) | exact hA) (by omega))) ?_
        refine L.va rfl (X.load rfl sc_5 (by first | exact Ld.own ho2 (by omega) | exact hA)) ?_
        refine L.va rfl (X.subE rfl rfl (show IntKind.u8.wrap (255 - (turned [] (bz y) k).getD k 0) = 255 - (bz y).getD k 0 by rw [ht, w8 (by omega)])) ?_
        refine L.va rfl ((by first | exact X.index1n rfl rfl Try.underlying30 sz_5 (by first | exact Option.some_ne_none _ | exact own_ne ho2 (by omega) | exact hA) (by omega) | exact X.index1 rfl rfl Try.underlying30 sz_5 (by first | exact Option.some_ne_none _ | exact own_ne ho2 (by omega) | exact hA) (by omega))) ?_
        refine L.storeON rfl rfl (by conv => lhs; whnf) sz_5 (ho2) (by omega) ?_
        intro w3 ho3 hg3 hb3 hs3
        have ho3 : w3.ownsRow w.heap.size 5 1 (.slice A (wd y) c) (wd y) (nums .u8 ((turned [] (bz y) k).set k (255 - (bz y).getD k 0))) := ho3
        rw [turned_nset hku] at ho3
        refine L.nil ?_
        refine J.region ?_
        refine L.va rfl (X.move (by conv => lhs; whnf)) ?_
        refine L.va rfl (X.add rfl rfl (by omega)) ?_
        refine L.va rfl (X.assign (by conv => lhs; whnf)) ?_
        refine L.nil ?_
        refine ⟨k + 1, At1 (by first | rfl | exact at_int rfl (by omega) | exact at_slice rfl (by omega) | exact at_int rfl (by simp)), (by (iterate 15 refine Agr.lk rfl ?_); exact Agr.lk rfl (Agr.hav rfl Agr.rfl')), ?_⟩
        exact ⟨⟨by omega, ho3, he2.low hb3 (Nat.le_refl _)⟩, by omega⟩
      · obtain rfl : k = wd y := by omega
        have ht := turned_nall (bz y)
        rw [hul] at ht
        rw [ht] at ho2
        have z2 := he2.le
        refine J.exit ?_
        refine J.seq ?_
        refine J.region ?_
        refine L.va rfl (X.move (by conv => lhs; whnf)) ?_
        refine L.va rfl (X.len rfl Try.underlying30) ?_
        refine L.va rfl (X.sub rfl rfl (by omega)) ?_
        refine L.va rfl ((by first | exact X.conv8 rfl is_3 Try.underlying5 (by omega) | exact X.convw rfl is_3 Try.underlying5)) ?_
        refine L.bslice (vs := [_]) rfl (Evs.cons (by conv => lhs; whnf) Evs.nil) rfl rfl rfl rfl Try.underlying30 sz_5 zr_5 (by decide) ?_
        intro b3 w3 hb3 hs3 hk3 he3
        refine L.va rfl (X.move (by conv => lhs; whnf)) ?_
        refine L.appendQ (q := wd y + 1) (ys := [8 - (wd y : Int)] ++ inv (bz y)) rfl rfl rfl Try.underlying30 el_5 ((blk_own1 (l := nums .u8 [8 - (wd y : Int)]) (q := 1) hk3 (by omega : w.heap.size ≤ b3) (by decide) rfl)) ((Reads.of_own (ho2.ext he3))) (by omega) (by simp) (by unfold maxLen; omega) (by omega) ?_
        intro A4 c4 w4 ho4 hg4 hb4 hor4
        refine L.va rfl (X.assign (by conv => lhs; whnf)) ?_
        refine L.nil ?_
        refine J.ret ?_
        refine fin1 ?_
        exact ⟨A4, c4, rfl, ho4, (he2.trans he3).low hb4 (Nat.le_refl _)⟩
theorem oless (A : Option Addr) (n c : Nat) (o : List (Int × Bool)) (a b : Rw) (w : World) (ho : Reads w w.heap.size 2 A n (o.flatMap oR)) (lo : o.length = n) (hn : n ≤ 20) (ha : a.At w.heap.size w) (ka : a.Ok) (na : a.nc ≤ 20) (hb : b.At w.heap.size w) (kb : b.Ok) (nb : b.nc ≤ 20) :
    Calls Try.prog 9 #[.slice A n c, a.val, b.val] w fun e w' => e = .returned (.bool (lessO o a b)) ∧ Ext w w' := by
  refine enter Try.func9 rfl (by kernel_rfl) ?_
  refine J.seq ?_
  refine J.region ?_
  refine L.boxA (l := [_, _]) rfl rfl ?_
  intro b1 w1 hb1 hs1 hk1 he1
  refine L.boxA (l := [_, _]) rfl rfl ?_
  intro b2 w2 hb2 hs2 hk2 he2
  have hk12 := hk1.ext he2
  have he02 := he1.trans he2
  have hk12 : Blk w2 b1 26 a.vs.toArray := hk12
  have hk2 : Blk w2 b2 26 b.vs.toArray := hk2
  refine L.va rfl (X.assign (by conv => lhs; whnf)) ?_
  refine L.nil ?_
  refine J.seq ?_
  refine J.draw (ℓ := 1000000) (S := Ext w2) mixed (fun w3 hS hS_h => ?_)
  refine D.va 0 rfl (by kernel_rfl) (fun _ _ _ h => h) rfl (fun w' hw => X.move (by conv => lhs; whnf)) hS ?_
  refine D.va 1 rfl (by kernel_rfl) (fun _ _ _ h => h) rfl (fun w' hw => (by first | exact X.loadAgg rfl (range_l (hk12.ext hw)) Try.underlying26 rfl (by kernel_rfl) | exact X.loadAgg rfl (range_blk (hk12.ext hw)) Try.underlying26 rfl (by kernel_rfl) | exact X.loadAgg rfl (range_l (hk2.ext hw)) Try.underlying26 rfl (by kernel_rfl) | exact X.loadAgg rfl (range_blk (hk2.ext hw)) Try.underlying26 rfl (by kernel_rfl))) hS ?_
  refine D.va 3 rfl (by kernel_rfl) (fun _ _ _ h => h) rfl (fun w' hw => X.move (by conv => lhs; whnf)) hS ?_
  refine D.va 4 rfl (by kernel_rfl) (fun _ _ _ h => h) rfl (fun w' hw => (by first | exact X.loadAgg rfl (range_l (hk12.ext hw)) Try.underlying26 rfl (by kernel_rfl) | exact X.loadAgg rfl (range_blk (hk12.ext hw)) Try.underlying26 rfl (by kernel_rfl) | exact X.loadAgg rfl (range_l (hk2.ext hw)) Try.underlying26 rfl (by kernel_rfl) | exact X.loadAgg rfl (range_blk (hk2.ext hw)) Try.underlying26 rfl (by kernel_rfl))) hS ?_
  refine D.one 2 (by kernel_rfl) rfl ?_
  refine L.call rfl en_6 rfl (okey A n c o a _ ((ho.ext (he02.trans hS)).more (he02.trans hS).le) lo hn ((ha.ext (he02.trans hS)).more (he02.trans hS).le) ka na) ?_
  rintro e wa ⟨A3, c3, rfl, ho3, he3⟩
  refine ⟨_, rfl, ?_⟩
  have hS1 := (hS).trans he3
  refine L.nil ?_
  refine ⟨fun _ => hS1, ?_⟩
  try replace ho4 := ho4.ext he3
  refine D.one 5 (by kernel_rfl) rfl ?_
  refine L.call rfl en_6 rfl (okey A n c o b _ ((ho.ext (he02.trans hS1)).more (he02.trans hS1).le) lo hn ((hb.ext (he02.trans hS1)).more (he02.trans hS1).le) kb nb) ?_
  rintro e wb ⟨A4, c4, rfl, ho4, he4⟩
  refine ⟨_, rfl, ?_⟩
  have hS2 := (hS1).trans he4
  refine L.nil ?_
  refine ⟨fun _ => hS2, ?_⟩
  try replace ho3 := ho3.ext he4
  refine D.one 6 (by kernel_rfl) rfl ?_
  refine L.call rfl en_21 rfl (code_Less A3 _ c3 A4 _ c4 (keyO o a) (keyO o b) _ (Reads.of_own ho3) (Reads.of_own ho4) (own_max ho3) (own_max ho4)) ?_
  rintro e wc ⟨rfl, he5⟩
  refine ⟨_, rfl, ?_⟩
  have hS3 := (hS2).trans he5
  refine L.nil ?_
  refine ⟨fun _ => hS3, ?_⟩
  refine D.va 7 rfl (by kernel_rfl) (fun _ _ _ h => h) rfl (fun w' hw => X.assign (by conv => lhs; whnf)) hS3 ?_
  refine D.done (by kernel_rfl) ?_
  replace hk12 := hk12.ext hS3
  replace hk2 := hk2.ext hS3
  refine J.ret ?_
  refine fin1 ?_
  exact ⟨by rw [less_key]; rfl, he02.trans hS3⟩
end Go.Proofs.Ytjleobcbgldhmaa
namespace Go.Proofs.Ytjleobcbgldhmaa
set_option maxRecDepth 100000
open Go.RowKit H
open Byts Cod Flo Odr
set_option linter.unusedVariables false
theorem rokey (A : Option Addr) (n c : Nat) (o : List (Int × Bool)) (r : Rw) (w : World) (ho : Reads w w.heap.size 2 A n (o.flatMap oR)) (lo : o.length = n) (hn : n ≤ 20) (hr : r.At w.heap.size w) (hk : r.Ok) (hnc : r.nc ≤ 20) :
    Calls Try.prog 8 #[.slice A n c, r.val] w fun e w' => ∃ A' c', e = .returned (.slice A' (keyO o r).length c') ∧ w'.ownsRow w.heap.size 5 1 (.slice A' (keyO o r).length c') (keyO o r).length (nums .u8 (keyO o r)) ∧ Ext w w' := by
  have hP : ∀ i, ((o.take i).flatMap (colC r)).length ≤ 200 := fun i => by
    have h := flat_le (l := o.take i) (f := colC r) (k := 10) fun x _ => colC_len hk x
    have h2 : (o.take i).length ≤ 20 := by rw [List.length_take]; omega
    omega
  refine enter Try.func8 rfl (by kernel_rfl) ?_
  refine J.seq ?_
  refine J.region ?_
  refine L.boxA (l := [_, _]) rfl rfl ?_
  intro b1 w1 hb1 hs1 hk1 he1
  have hk1 : Blk w1 b1 26 r.vs.toArray := hk1
  have z1 := he1.le
  refine L.va rfl (X.assign (by conv => lhs; whnf)) ?_
  refine L.nil ?_
  refine J.seq ?_
  refine J.region ?_
  refine L.va rfl (X.assign (by conv => lhs; whnf)) ?_
  refine L.nil ?_
  refine J.seq ?_
  refine J.seq ?_
  refine J.region ?_
  refine L.va rfl (X.assign (by conv => lhs; whnf)) ?_
  refine L.nil ?_
  refine J.block ?_
  refine J.loop (X := Nat × Option Addr × Nat × Nat) [5, 6, 7, 8, 9, 11, 12, 13, 14, 15, 16, 17, 18, 19, 20, 21, 22, 23, 24, 25, 26, 27, 28, 29, 30, 31, 32, 33, 34, 35, 36, 37, 38, 39, 40, 41, 42, 43, 44, 45, 46, 47, 48, 49, 50, 51, 52, 53, 54, 55, 56, 57, 58, 59] (fun (i, B, m, d) => [(6, .int .i64 (i : Int)), (5, .slice B m d)]) (fun (i, B, m, d) w' => i ≤ n ∧ m = ((o.take i).flatMap (colC r)).length ∧ w'.ownsRow w1.heap.size 5 1 (.slice B m d) m (nums .u8 ((o.take i).flatMap (colC r))) ∧ Ext w1 w') (fun (i, _) => n - i) ((0, none, 0, 0)) (At2 (by first | rfl | exact at_int rfl (by omega) | exact at_slice rfl (by omega) | exact at_int rfl (by simp)) (by first | rfl | exact at_int rfl (by omega) | exact at_slice rfl (by omega) | exact at_int rfl (by simp))) ?_ ?_
  · exact ⟨Nat.zero_le _, rfl, own_nil _ _ _ _, Ext.refl _⟩
  · rintro ⟨i, B, m, d⟩ g w2 ⟨hi, hm, ho2, he2⟩
    have he02 := he1.trans he2
    have hk2 := hk1.ext he2
    have z2 := he2.le
    have hmP := hP i
    refine J.seq ?_
    refine J.seq ?_
    refine J.region ?_
    refine L.va rfl (X.move (by conv => lhs; whnf)) ?_
    refine L.va rfl (X.move (by conv => lhs; whnf)) ?_
    refine L.va rfl (X.len rfl Try.underlying22) ?_
    refine L.va rfl (X.lss rfl rfl) ?_
    refine L.nil ?_
    refine J.dec rfl (fun hlt => ?_) (fun hlt => ?_)
    · have hin : i < o.length := by omega
      obtain ⟨x, hx⟩ : ∃ x, x = o.getD i or0 := ⟨_, rfl⟩
      have hgt := gtOr hin
      rw [← hx] at hgt
      have hA := ho.some_ (by omega)
      have hld := fun (w' : World) (hw : Ext w2 w') => Ld.flat2 oR_len (ho.ext (he02.trans hw)) hgt (r := 0) rfl
      obtain ⟨v, hv⟩ : ∃ v, v = valAt r x.1 := ⟨_, rfl⟩
      have hvx := valAt_lt hr x.1
      have hvn := valAt_ok hk x.1
      rw [← hv] at hvx hvn
      have hvl := vC_len hvn
      have hvb := vC_bytes hvn
      have hcl := cI_len hvn
      unfold okN at hvn
      refine J.skip ?_
      refine J.seq ?_
      refine J.block ?_
      refine J.cut (X := Nat) [7, 17, 18, 19, 20, 21, 22, 23] (fun b7 => [(7, .pointer (some ⟨b7, 0, none⟩))]) (fun b7 w' => Blk w' b7 40 v.vs.toArray ∧ Ext w2 w') ?_ ?_
      · skip
        refine J.draw (ℓ := 1000000) (S := Ext w2) mixed (fun w3 hS hS_h => ?_)
        have hk3 := hk2.ext hS
        refine D.va 0 rfl (by kernel_rfl) (fun _ _ _ h => h) rfl (fun w' hw => (by first | exact X.loadAgg rfl (range_l (hk2.ext hw)) Try.underlying26 rfl (by kernel_rfl) | exact X.loadAgg rfl (range_blk (hk2.ext hw)) Try.underlying26 rfl (by kernel_rfl))) hS ?_
        refine D.va 1 rfl (by kernel_rfl) (fun _ _ _ h => h) rfl (fun w' hw => X.move (by conv => lhs; whnf)) hS ?_
        refine D.va 2 rfl (by kernel_rfl) (fun _ _ _ h => h) rfl (fun w' hw => X.move (by conv => lhs; whnf)) hS ?_
        refine D.va 3 rfl (by kernel_rfl) (fun _ _ _ h => h) rfl (fun w' hw => (by first | exact X.indexAddrn rfl rfl Try.underlying22 sz_37 (by first | exact Option.some_ne_none _ | exact hA | exact hld w' hw) (by omega) | exact X.indexAddr rfl rfl Try.underlying22 sz_37 (by first | exact Option.some_ne_none _ | exact hA | exact hld w' hw) (by omega))) hS ?_
        refine D.va 4 rfl (by kernel_rfl) (fun _ _ _ h => h) rfl (fun w' hw => X.fieldP rfl Try.underlying37 rfl sz_3 (by decide) (by first | exact Option.some_ne_none _ | exact hA | exact hld w' hw)) hS ?_
        refine D.va 5 rfl (by kernel_rfl) (fun _ _ _ h => h) rfl (fun w' hw => X.load rfl sc_3 (by first | exact Ld.blk (hk2.ext hw) rfl | exact hA | exact hld w' hw)) hS ?_
        refine D.two 6 7 (by kernel_rfl) rfl rfl ?_ ?_
        · have kv := rval r x.1 _ ((hr.ext (he02.trans hS)).more (he02.trans hS).le)
          rw [← hv] at kv
          refine L.call rfl en_17 rfl (kv) ?_
          rintro e wa ⟨rfl, hea⟩
          refine ⟨_, rfl, ?_⟩
          have hS1 := (hS).trans hea
          refine L.nil ?_
          refine ⟨fun _ => hS1, ?_⟩
          try replace hk7 := hk7.ext hea
          have q7 := (hS1).le
          refine D.one 7 (by kernel_rfl) rfl ?_
          refine L.alloc rfl zr_40 ?_
          intro b7 wc hb7 hs7 hk7 he7
          have hS2 := (hS1).trans he7
          refine L.nil ?_
          refine ⟨fun _ => hS2, ?_⟩
          refine D.one 8 (by kernel_rfl) rfl ?_
          refine L.storeAgg (vs := [_, _, _]) rfl rfl rfl rfl sz_40 (hk7) rfl ?_
          intro we hk7' hg7 hs7'
          have hS3 := (hS2).grw hg7 (by intro g hg; injection hg with hg; omega)
          refine L.nil ?_
          refine ⟨fun _ => hS3, ?_⟩
          refine D.done (by kernel_rfl) ?_
          replace hk2 := hk2.ext hS3
          refine ⟨b7, At1 (by first | rfl | exact at_int rfl (by omega) | exact at_slice rfl (by omega) | exact at_int rfl (by simp)), (by (iterate 8 refine Agr.lk rfl ?_); exact Agr.rfl'), ?_⟩
          exact ⟨hk7', hS3⟩
        · have q7 := (hS).le
          refine L.alloc rfl zr_40 ?_
          intro b7 wc hb7 hs7 hk7 he7
          have hS1 := (hS).trans he7
          refine L.nil ?_
          refine ⟨fun _ => hS1, ?_⟩
          have kv := rval r x.1 _ ((hr.ext (he02.trans hS1)).more (he02.trans hS1).le)
          rw [← hv] at kv
          refine D.one 6 (by kernel_rfl) rfl ?_
          refine L.call rfl en_17 rfl (kv) ?_
          rintro e wa ⟨rfl, hea⟩
          refine ⟨_, rfl, ?_⟩
          have hS2 := (hS1).trans hea
          refine L.nil ?_
          refine ⟨fun _ => hS2, ?_⟩
          try replace hk7 := hk7.ext hea
          refine D.one 8 (by kernel_rfl) rfl ?_
          refine L.storeAgg (vs := [_, _, _]) rfl rfl rfl rfl sz_40 (hk7) rfl ?_
          intro we hk7' hg7 hs7'
          have hS3 := (hS2).grw hg7 (by intro g hg; injection hg with hg; omega)
          refine L.nil ?_
          refine ⟨fun _ => hS3, ?_⟩
          refine D.done (by kernel_rfl) ?_
          replace hk2 := hk2.ext hS3
          refine ⟨b7, At1 (by first | rfl | exact at_int rfl (by omega) | exact at_slice rfl (by omega) | exact at_int rfl (by simp)), (by (iterate 8 refine Agr.lk rfl ?_); exact Agr.rfl'), ?_⟩
          exact ⟨hk7', hS3⟩
      · rintro b7 g w3 ⟨hk7, he3⟩
        have z3 := he3.le
        have he13 := he2.trans he3
        have he03 := he1.trans he13
        have hk13 := hk1.ext he13
        have ho3 := ho2.ext he3
        refine J.seq ?_
        refine J.region ?_
        refine L.bslice (vs := [_]) rfl (Evs.cons (by conv => lhs; whnf) Evs.nil) rfl rfl rfl rfl Try.underlying30 sz_5 zr_5 (by decide) ?_
        intro b8 w4 hb8 hs8 hk8 he4
        have hk74 := hk7.ext he4
        refine L.va rfl (X.fieldAddr rfl Try.underlying40 rfl sz_2 (by decide)) ?_
        refine L.va rfl (X.load rfl sc_2 (by first | exact Ld.blk hk74 rfl)) ?_
        refine L.call rfl en_19 rfl (ref_I v.n w4 hvn.1 hvn.2) ?_
        rintro e w5 ⟨B5, d5, rfl, ho5, he5⟩
        refine ⟨_, rfl, ?_⟩
        have he35 := he4.trans he5
        have z35 := he4.le
        have z5 := he5.le
        refine L.appendQ (q := (cI v.n).length + 1) (ys := [0] ++ cI v.n) rfl rfl rfl Try.underlying30 el_5 ((blk_own1 (l := nums .u8 [0]) (q := 1) (hk8.ext he5) (by omega : w3.heap.size ≤ b8) (by decide) rfl)) ((Reads.of_own ho5)) (by omega) (by simp) (by unfold maxLen; omega) (by omega) ?_
        intro B6 d6 w6 ho6 hg6 hb6 hor6
        have he36 := he35.low hb6 (Nat.le_refl _)
        have ho6 : w6.ownsRow w3.heap.size 5 1 (.slice B6 ((cI v.n).length + 1) d6) ((cI v.n).length + 1) (nums .u8 (0 :: cI v.n)) := ho6
        have hk76 := hk7.ext he36
        refine L.va rfl (X.assign (by conv => lhs; whnf)) ?_
        refine L.nil ?_
        refine J.cut (X := Option Addr × Nat) [8, 29, 30, 31, 32, 33, 34, 35] (fun (B, d) => [(8, .slice B (vC v).length d)]) (fun (B, d) w' => w'.ownsRow w3.heap.size 5 1 (.slice B (vC v).length d) (vC v).length (nums .u8 (vC v)) ∧ Ext w3 w') ?_ ?_
        · obtain ⟨vr, vn, vx⟩ := v
          dsimp only at hvx hvn ho6
          refine J.seq ?_
          refine J.region ?_
          refine L.va rfl (X.fieldAddr rfl Try.underlying40 rfl sz_4 (by decide)) ?_
          refine L.va rfl (X.load rfl sc_4 (by first | exact Ld.blk hk76 rfl)) ?_
          refine L.nil ?_
          cases vr
          · refine J.iteF rfl ?_
            refine J.skip ?_
            refine ⟨(B6, d6), At1 (by first | rfl | exact at_int rfl (by omega) | exact at_slice rfl (by omega) | exact at_int rfl (by simp)), (by (iterate 2 refine Agr.lk rfl ?_); exact Agr.rfl'), ?_⟩
            exact ⟨ho6, he36⟩
          · refine J.iteT rfl ?_
            have z6 := he36.le
            refine J.region ?_
            refine L.bslice (vs := [_]) rfl (Evs.cons (by conv => lhs; whnf) Evs.nil) rfl rfl rfl rfl Try.underlying30 sz_5 zr_5 (by decide) ?_
            intro b9 w7 hb9 hs9 hk9 he7
            have hk77 := hk76.ext he7
            refine L.va rfl (X.fieldAddr rfl Try.underlying40 rfl sz_38 (by decide)) ?_
            refine L.va rfl (X.load rfl sc_38 (by first | exact Ld.blk hk77 rfl)) ?_
            refine L.call rfl en_20 rfl (ref_F vx w7 hvx) ?_
            rintro e w8 ⟨B8, d8, rfl, ho8, he8⟩
            refine ⟨_, rfl, ?_⟩
            have z7 := he7.le
            have z8 := he8.le
            refine L.appendQ (q := 9) (ys := [1] ++ be 8 (keyF vx)) rfl rfl rfl Try.underlying30 el_5 ((blk_own1 (l := nums .u8 [1]) (q := 1) (hk9.ext he8) (by omega : w6.heap.size ≤ b9) (by decide) rfl)) ((Reads.of_own ho8)) (by omega) (by simp) (by unfold maxLen; omega) (by omega) ?_
            intro B9 d9 w9 ho9 hg9 hb9' hor9
            have ho9 : w9.ownsRow w6.heap.size 5 1 (.slice B9 9 d9) 9 (nums .u8 (1 :: be 8 (keyF vx))) := ho9
            refine L.va rfl (X.assign (by conv => lhs; whnf)) ?_
            refine L.nil ?_
            refine ⟨(B9, d9), At1 (by first | rfl | exact at_int rfl (by omega) | exact at_slice rfl (by omega) | exact at_int rfl (by simp)), (by (iterate 8 refine Agr.lk rfl ?_); exact Agr.rfl'), ?_⟩
            exact ⟨own_lower ho9 z6, he36.trans ((he7.trans he8).low hb9' (Nat.le_refl _))⟩
        · rintro ⟨B7, d7⟩ g w7 ⟨ho7, he7⟩
          have he37 := he7
          have he17 := he13.trans he7
          have he07 := he1.trans he17
          have hok := own_later ho3 ho7
          have z17 := he17.le
          have e1 : (o.take (i + 1)).flatMap (colC r) = (o.take i).flatMap (colC r) ++ colC r x := by rw [List.take_add_one, List.flatMap_append, hgt]; simp
          have hld1 := fun (w' : World) (hw : Ext w7 w') => Ld.flat2 oR_len (ho.ext (he07.trans hw)) hgt (r := 1) rfl
          have ho37 := ho3.ext he7
          refine J.seq ?_
          refine J.seq ?_
          refine J.region ?_
          refine L.va rfl (X.assign (by conv => lhs; whnf)) ?_
          refine L.nil ?_
          refine J.block ?_
          obtain ⟨xc, xd⟩ := x
          cases xd
          · have e2 : colC r (xc, false) = vC v := by rw [hv]; rfl
            rw [e2] at e1
            refine J.loop (X := Nat) [9, 36, 37, 38, 39, 40, 41, 42, 43, 44, 45, 46, 47, 48, 49, 50, 51, 52, 53, 54, 55, 56] (fun k => [(9, .int .i64 (k : Int))]) (fun k w' => k = 0 ∧ w' = w7) (fun k => 0) (0) (At1 (by first | rfl | exact at_int rfl (by omega) | exact at_slice rfl (by omega) | exact at_int rfl (by simp))) ?_ ?_
            · exact ⟨rfl, rfl⟩
            · rintro k g w8 ⟨rfl, rfl⟩
              have l1 := hld1 _ (Ext.refl _)
              have hpos : 0 < (vC v).length := by unfold vC; split <;> simp
              refine J.seq ?_
              refine J.seq ?_
              refine J.region ?_
              refine L.va rfl (X.move (by conv => lhs; whnf)) ?_
              refine L.va rfl (X.move (by conv => lhs; whnf)) ?_
              refine L.va rfl (X.len rfl Try.underlying30) ?_
              refine L.va rfl (X.lss rfl rfl) ?_
              refine L.va rfl (X.move (by conv => lhs; whnf)) ?_
              refine L.caseDecT (k := 40) rfl (by omega) ?_
              refine L.va rfl (X.move (by conv => lhs; whnf)) ?_
              refine L.va rfl (X.move (by conv => lhs; whnf)) ?_
              refine L.va rfl ((by first | exact X.indexAddrn rfl rfl Try.underlying22 sz_37 (by first | exact Option.some_ne_none _ | exact hA | exact l1) (by omega) | exact X.indexAddr rfl rfl Try.underlying22 sz_37 (by first | exact Option.some_ne_none _ | exact hA | exact l1) (by omega))) ?_
              refine L.va rfl (X.fieldP rfl Try.underlying37 rfl sz_4 (by decide) (by first | exact Option.some_ne_none _ | exact hA | exact l1)) ?_
              refine L.va rfl (X.load rfl sc_4 (by first | exact hA | exact l1)) ?_
              refine L.va rfl (X.pickT rfl (by conv => lhs; whnf)) ?_
              refine L.nil ?_
              refine J.iteF rfl ?_
              refine J.exit ?_
              refine J.region ?_
              refine L.va rfl (X.move (by conv => lhs; whnf)) ?_
              refine L.va rfl (X.move (by conv => lhs; whnf)) ?_
              refine L.appendQ (q := m + (vC v).length) (ys := ((o.take i).flatMap (colC r) ++ vC v)) rfl rfl rfl Try.underlying30 el_5 (ho37) ((Reads.of_own ho7)) (by omega) (by simp) (by unfold maxLen; omega) (by omega) ?_
              intro B9 d9 w9 ho9 hg9 hb9 hor9
              refine L.va rfl (X.assign (by conv => lhs; whnf)) ?_
              refine L.nil ?_
              refine J.region ?_
              refine L.va rfl (X.move (by conv => lhs; whnf)) ?_
              refine L.va rfl (X.add rfl rfl (by omega)) ?_
              refine L.va rfl (X.assign (by conv => lhs; whnf)) ?_
              refine L.nil ?_
              refine ⟨(i + 1, B9, m + (vC v).length, d9), At2 (by first | rfl | exact at_int rfl (by omega) | exact at_slice rfl (by omega) | exact at_int rfl (by simp)) (by first | rfl | exact at_int rfl (by omega) | exact at_slice rfl (by omega) | exact at_int rfl (by simp)), (by (iterate 19 refine Agr.lk rfl ?_); refine Agr.lk rfl ?_; refine Agr.hav rfl ?_; (iterate 1 refine Agr.lk rfl ?_); refine Agr.lk rfl ?_; refine Agr.hav rfl ?_; (iterate 6 refine Agr.lk rfl ?_); refine Agr.lk rfl ?_; refine Agr.hav rfl ?_; (iterate 4 refine Agr.lk rfl ?_); exact Agr.lk rfl (Agr.hav rfl Agr.rfl')), ?_⟩
              refine ⟨⟨by omega, ?_, ?_, he17.low hb9 (Nat.le_refl _)⟩, by show n - (i + 1) < n - i; omega⟩
              · rw [e1, List.length_append, hm]
              · rw [e1]; exact ho9
          · have e2 : colC r (xc, true) = inv (vC v) := by rw [hv]; rfl
            rw [e2] at e1
            obtain ⟨u, hu⟩ : ∃ u, u = vC v := ⟨_, rfl⟩
            rw [← hu] at ho7 hvb e1 hvl hok
            rw [← hu]
            refine J.loop (X := Nat) [9, 36, 37, 38, 39, 40, 41, 42, 43, 44, 45, 46, 47, 48, 49, 50, 51, 52, 53, 54, 55, 56] (fun k => [(9, .int .i64 (k : Int))]) (fun k w' => k ≤ u.length ∧ w'.ownsRow w3.heap.size 5 1 (.slice B7 u.length d7) u.length (nums .u8 (turned [] u k)) ∧ Ext w3 w') (fun k => u.length - k) (0) (At1 (by first | rfl | exact at_int rfl (by omega) | exact at_slice rfl (by omega) | exact at_int rfl (by simp))) ?_ ?_
            · exact ⟨Nat.zero_le _, by rw [turned_n0]; exact ho7, he7⟩
            · rintro k g wz ⟨hk', ho8, he8⟩
              have l1 := Ld.flat2 oR_len (ho.ext (he03.trans he8)) hgt (r := 1) rfl
              refine J.seq ?_
              refine J.seq ?_
              refine J.region ?_
              refine L.va rfl (X.move (by conv => lhs; whnf)) ?_
              refine L.va rfl (X.move (by conv => lhs; whnf)) ?_
              refine L.va rfl (X.len rfl Try.underlying30) ?_
              refine L.va rfl (X.lss rfl rfl) ?_
              refine L.va rfl (X.move (by conv => lhs; whnf)) ?_
              by_cases hku : k < u.length
              · refine L.caseDecT (k := 40) rfl (by omega) ?_
                refine L.va rfl (X.move (by conv => lhs; whnf)) ?_
                refine L.va rfl (X.move (by conv => lhs; whnf)) ?_
                refine L.va rfl ((by first | exact X.indexAddrn rfl rfl Try.underlying22 sz_37 (by first | exact Option.some_ne_none _ | exact hA | exact l1) (by omega) | exact X.indexAddr rfl rfl Try.underlying22 sz_37 (by first | exact Option.some_ne_none _ | exact hA | exact l1) (by omega))) ?_
                refine L.va rfl (X.fieldP rfl Try.underlying37 rfl sz_4 (by decide) (by first | exact Option.some_ne_none _ | exact hA | exact l1)) ?_
                refine L.va rfl (X.load rfl sc_4 (by first | exact hA | exact l1)) ?_
                refine L.va rfl (X.pickT rfl (by conv => lhs; whnf)) ?_
                refine L.nil ?_
                refine J.iteT rfl ?_
                have ht := turned_nat hku
                have hb := getDb hvb k
                have hA8 := (Reads.of_own ho8).some_ (by omega)
                refine J.skip ?_
                refine J.seq ?_
                refine J.block ?_
                refine J.region ?_
                refine L.va rfl (X.move (by conv => lhs; whnf)) ?_
                refine L.va rfl (X.move (by conv => lhs; whnf)) ?_
                refine L.va rfl (X.move (by conv => lhs; whnf)) ?_
                refine L.va rfl (X.move (by conv => lhs; whnf)) ?_
                refine L.va rfl ((by first | exact X.index1n rfl rfl Try.underlying30 sz_5 (by first | exact Option.some_ne_none _ | exact own_ne ho8 (by omega) | exact hA8) (by omega) | exact X.index1 rfl rfl Try.underlying30 sz_5 (by first | exact Option.some_ne_none _ | exact own_ne ho8 (by omega) | exact hA8) (by omega))) ?_
                refine L.va rfl (X.load rfl sc_5 (by first | exact Ld.own ho8 (by omega) | exact hA8)) ?_
                refine L.va rfl (X.subE rfl rfl (show IntKind.u8.wrap (255 - (turned [] u k).getD k 0) = 255 - u.getD k 0 by rw [ht, w8 (by omega)])) ?_
                refine L.va rfl ((by first | exact X.index1n rfl rfl Try.underlying30 sz_5 (by first | exact Option.some_ne_none _ | exact own_ne ho8 (by omega) | exact hA8) (by omega) | exact X.index1 rfl rfl Try.underlying30 sz_5 (by first | exact Option.some_ne_none _ | exact own_ne ho8 (by omega) | exact hA8) (by omega))) ?_
                refine L.storeON rfl rfl (by conv => lhs; whnf) sz_5 (ho8) (by omega) ?_
                intro w9 ho9 hg9 hb9 hs9
                have ho9 : w9.ownsRow w3.heap.size 5 1 (.slice B7 u.length d7) u.length (nums .u8 ((turned [] u k).set k (255 - u.getD k 0))) := ho9
                rw [turned_nset hku] at ho9
                refine L.nil ?_
                refine J.region ?_
                refine L.va rfl (X.move (by conv => lhs; whnf)) ?_
                refine L.va rfl (X.add rfl rfl (by omega)) ?_
                refine L.va rfl (X.assign (by conv => lhs; whnf)) ?_
                refine L.nil ?_
                refine ⟨k + 1, At1 (by first | rfl | exact at_int rfl (by omega) | exact at_slice rfl (by omega) | exact at_int rfl (by simp)), (by (iterate 23 refine Agr.lk rfl ?_); exact Agr.lk rfl (Agr.hav rfl Agr.rfl')), ?_⟩
                exact ⟨⟨by omega, ho9, he8.low hb9 (Nat.le_refl _)⟩, by omega⟩
              · obtain rfl : k = u.length := by omega
                rw [turned_nall] at ho8
                have ho38 := ho3.ext he8
                have he18 := he13.trans he8
                have z18 := he18.le
                refine L.caseDecF (k := 40) rfl (by omega) ?_
                refine L.no rfl ?_
                refine L.no rfl ?_
                refine L.no rfl ?_
                refine L.no rfl ?_
                refine L.no rfl ?_
                refine L.va rfl (X.pickF rfl (by conv => lhs; whnf)) ?_
                refine L.nil ?_
                refine J.iteF rfl ?_
                refine J.exit ?_
                refine J.region ?_
                refine L.va rfl (X.move (by conv => lhs; whnf)) ?_
                refine L.va rfl (X.move (by conv => lhs; whnf)) ?_
                refine L.appendQ (q := m + u.length) (ys := ((o.take i).flatMap (colC r) ++ inv u)) rfl rfl rfl Try.underlying30 el_5 (ho38) ((Reads.of_own ho8)) (by omega) (by simp) (by unfold maxLen; omega) (by omega) ?_
                intro B9 d9 w9 ho9 hg9 hb9 hor9
                refine L.va rfl (X.assign (by conv => lhs; whnf)) ?_
                refine L.nil ?_
                refine J.region ?_
                refine L.va rfl (X.move (by conv => lhs; whnf)) ?_
                refine L.va rfl (X.add rfl rfl (by omega)) ?_
                refine L.va rfl (X.assign (by conv => lhs; whnf)) ?_
                refine L.nil ?_
                refine ⟨(i + 1, B9, m + u.length, d9), At2 (by first | rfl | exact at_int rfl (by omega) | exact at_slice rfl (by omega) | exact at_int rfl (by simp)) (by first | rfl | exact at_int rfl (by omega) | exact at_slice rfl (by omega) | exact at_int rfl (by simp)), (by (iterate 19 refine Agr.lk rfl ?_); refine Agr.lk rfl ?_; refine Agr.hav rfl ?_; (iterate 1 refine Agr.lk rfl ?_); refine Agr.lk rfl ?_; refine Agr.hav rfl ?_; (iterate 6 refine Agr.lk rfl ?_); refine Agr.lk rfl ?_; refine Agr.hav rfl ?_; (iterate 4 refine Agr.lk rfl ?_); exact Agr.lk rfl (Agr.hav rfl Agr.rfl')), ?_⟩
                refine ⟨⟨by omega, ?_, ?_, he18.low hb9 (Nat.le_refl _)⟩, by show n - (i + 1) < n - i; omega⟩
                · rw [e1, List.length_append, inv_length, hm]
                · rw [e1]; exact ho9
    · obtain rfl : i = n := by omega
      have e0 : o.take i = o := by rw [← lo, List.take_length]
      have h200 := hP i
      rw [e0] at hm ho2 h200
      have lc := hr.lc
      refine J.exit ?_
      refine J.seq ?_
      refine J.seq ?_
      refine J.region ?_
      refine L.va rfl (X.assign (by conv => lhs; whnf)) ?_
      refine L.nil ?_
      refine J.block ?_
      refine J.loop (X := Nat × Option Addr × Nat × Nat) [5, 10, 60, 61, 62, 63, 64, 65, 66, 67, 68, 69, 70, 71, 72, 73, 74] (fun (j, B, m, d) => [(10, .int .i64 (j : Int)), (5, .slice B m d)]) (fun (j, B, m, d) w' => j ≤ r.nc ∧ m = (o.flatMap (colC r) ++ (r.c.take j).flatMap cI).length ∧ w'.ownsRow w1.heap.size 5 1 (.slice B m d) m (nums .u8 (o.flatMap (colC r) ++ (r.c.take j).flatMap cI)) ∧ Ext w1 w') (fun (j, _) => r.nc - j) ((0, B, m, d)) (At2 (by first | rfl | exact at_int rfl (by omega) | exact at_slice rfl (by omega) | exact at_int rfl (by simp)) (by first | rfl | exact at_int rfl (by omega) | exact at_slice rfl (by omega) | exact at_int rfl (by simp))) ?_ ?_
      · exact ⟨Nat.zero_le _, by simpa using hm, by simpa using ho2, he2⟩
      · rintro ⟨j, B3, m3, d3⟩ g w3 ⟨hj, hm3, ho3, he3⟩
        have r3 := hr.hc.ext (he1.trans he3)
        have hk3 := hk1.ext he3
        have z3 := he3.le
        have hf := flat_le (l := r.c.take j) (f := cI) (k := 9) fun z hz => cI_len (hk.2 z (List.mem_of_mem_take hz))
        have hl3 : (r.c.take j).length ≤ 20 := by rw [List.length_take]; omega
        rw [List.length_append] at hm3
        refine J.seq ?_
        refine J.seq ?_
        refine J.region ?_
        refine L.va rfl (X.move (by conv => lhs; whnf)) ?_
        refine L.va rfl (X.fieldAddr rfl Try.underlying26 rfl sz_23 (by decide)) ?_
        refine L.va rfl (X.load rfl sc_23 (by first | exact Ld.blk hk3 rfl)) ?_
        refine L.va rfl (X.len rfl Try.underlying23) ?_
        refine L.va rfl (X.lss rfl rfl) ?_
        refine L.nil ?_
        refine J.dec rfl (fun hlt => ?_) (fun hlt => ?_)
        · have hjc : j < r.c.length := by omega
          have hA := r3.some_ (by omega)
          have hz : okN (r.c.getD j 0) := by rw [List.getD, List.getElem?_eq_getElem hjc]; exact hk.2 _ (List.getElem_mem hjc)
          have hz9 := cI_len hz
          have e1 : (r.c.take (j + 1)).flatMap cI = (r.c.take j).flatMap cI ++ cI (r.c.getD j 0) := by rw [List.take_add_one, List.flatMap_append, List.getD, List.getElem?_eq_getElem hjc]; simp
          refine J.skip ?_
          refine J.seq ?_
          refine J.block ?_
          refine J.region ?_
          refine L.va rfl (X.move (by conv => lhs; whnf)) ?_
          refine L.va rfl (X.fieldAddr rfl Try.underlying26 rfl sz_23 (by decide)) ?_
          refine L.va rfl (X.load rfl sc_23 (by first | exact Ld.blk hk3 rfl | exact Ld.num r3 (by omega) | exact hA)) ?_
          refine L.va rfl (X.move (by conv => lhs; whnf)) ?_
          refine L.va rfl ((by first | exact X.index1n rfl rfl Try.underlying23 sz_3 (by first | exact Option.some_ne_none _ | exact r3.some_ (by omega) | exact hA) (by omega) | exact X.index1 rfl rfl Try.underlying23 sz_3 (by first | exact Option.some_ne_none _ | exact r3.some_ (by omega) | exact hA) (by omega))) ?_
          refine L.va rfl (X.load rfl sc_3 (by first | exact Ld.blk hk3 rfl | exact Ld.num r3 (by omega) | exact hA)) ?_
          refine L.call rfl en_19 rfl (ref_I (r.c.getD j 0) w3 hz.1 hz.2) ?_
          rintro e w4 ⟨B4, d4, rfl, ho4, he4⟩
          refine ⟨_, rfl, ?_⟩
          have z4 := he4.le
          refine L.appendQ (q := m3 + (cI (r.c.getD j 0)).length) (ys := ((o.flatMap (colC r) ++ (r.c.take j).flatMap cI) ++ cI (r.c.getD j 0))) rfl rfl rfl Try.underlying30 el_5 (ho3.ext he4) ((Reads.of_own ho4)) (by omega) (by simp) (by unfold maxLen; omega) (by omega) ?_
          intro B5 d5 w5 ho5 hg5 hb5 hor5
          refine L.va rfl (X.assign (by conv => lhs; whnf)) ?_
          refine L.nil ?_
          refine J.region ?_
          refine L.va rfl (X.move (by conv => lhs; whnf)) ?_
          refine L.va rfl (X.add rfl rfl (by omega)) ?_
          refine L.va rfl (X.assign (by conv => lhs; whnf)) ?_
          refine L.nil ?_
          refine ⟨(j + 1, B5, m3 + (cI (r.c.getD j 0)).length, d5), At2 (by first | rfl | exact at_int rfl (by omega) | exact at_slice rfl (by omega) | exact at_int rfl (by simp)) (by first | rfl | exact at_int rfl (by omega) | exact at_slice rfl (by omega) | exact at_int rfl (by simp)), (by (iterate 17 refine Agr.lk rfl ?_); exact Agr.lk rfl (Agr.hav rfl Agr.rfl')), ?_⟩
          refine ⟨⟨by omega, ?_, ?_, (he3.trans he4).low hb5 (Nat.le_refl _)⟩, by show r.nc - (j + 1) < r.nc - j; omega⟩
          · rw [e1, List.length_append, List.length_append]; omega
          · rw [e1, ← List.append_assoc]; exact ho5
        · obtain rfl : j = r.nc := by omega
          have e2 : o.flatMap (colC r) ++ (r.c.take r.nc).flatMap cI = keyO o r := by rw [← lc, List.take_length]; rfl
          rw [← List.length_append] at hm3
          rw [e2] at ho3 hm3
          subst hm3
          refine J.exit ?_
          refine J.seq ?_
          refine J.region ?_
          refine L.va rfl (X.move (by conv => lhs; whnf)) ?_
          refine L.va rfl (X.assign (by conv => lhs; whnf)) ?_
          refine L.nil ?_
          refine J.ret ?_
          refine fin1 ?_
          exact ⟨B3, d3, rfl, ho3.mono z1, he1.trans he3⟩
end Go.Proofs.Ytjleobcbgldhmaa
namespace Go.Proofs.Ytjleobcbgldhmaa
set_option maxRecDepth 100000
open Go.RowKit H
open Byts Cod Odr Tou Flo
set_option linter.unusedVariables false
theorem law_OrderKeys (w : World) (A0 : Option Addr) (n0 c0 : Nat) (xs0 : List ((Nm .i64) × (Bool))) (hn0 : n0 ≤ c0) (hc0 : c0 ≤ maxLen) (hA0 : A0 = none → c0 = 0) (hl0 : LiesSlice w w.heap.size A0 n0 xs0) (vs1 : List Value) (a1 : (List (Nm .i64)) × (List ((Bool) × (Nm .i64) × (Fl)))) (hl1 : Lay.lies w w.heap.size vs1 a1) (vs2 : List Value) (a2 : (List (Nm .i64)) × (List ((Bool) × (Nm .i64) × (Fl)))) (hl2 : Lay.lies w w.heap.size vs2 a2) :
    Calls Try.prog 3 #[.slice A0 n0 c0, .agg vs1.toArray, .agg vs2.toArray] w fun e w' => e = .returned (.bool true) ∧ Below w.heap.size w w' := by
  obtain ⟨o, lo, ro⟩ := ords_of hl0
  obtain ⟨a, rfl, ha, ka⟩ := row_of hl1
  obtain ⟨b, rfl, hb, kb⟩ := row_of hl2
  refine enter Try.func3 rfl (by kernel_rfl) ?_
  refine J.seq ?_
  refine J.region ?_
  refine L.boxA (l := [_, _]) rfl rfl ?_
  intro b1 w1 hb1 hs1 hk1 he1
  refine L.boxA (l := [_, _]) rfl rfl ?_
  intro b2 w2 hb2 hs2 hk2 he2
  have hk12 := hk1.ext he2
  have he02 := he1.trans he2
  have hk12 : Blk w2 b1 26 a.vs.toArray := hk12
  have hk2 : Blk w2 b2 26 b.vs.toArray := hk2
  refine L.va rfl (X.assign (by conv => lhs; whnf)) ?_
  refine L.nil ?_
  refine J.seq ?_
  refine J.seq ?_
  refine J.region ?_
  refine L.va rfl (X.move (by conv => lhs; whnf)) ?_
  refine L.va rfl (X.len rfl Try.underlying22) ?_
  refine L.va rfl (X.gtr rfl rfl) ?_
  refine L.va rfl (X.move (by conv => lhs; whnf)) ?_
  refine L.caseDec (k := 13) rfl (fun h20 => ?_) (fun h20 => ?_)
  · refine L.no rfl ?_
    refine L.no rfl ?_
    refine L.no rfl ?_
    refine L.no rfl ?_
    refine L.no rfl ?_
    refine L.va rfl (X.pickT rfl (by conv => lhs; whnf)) ?_
    refine L.nil ?_
    refine J.iteT rfl ?_
    refine J.seq ?_
    refine J.region ?_
    refine L.call rfl en_5 rfl (awake33 w2) ?_
    rintro e w3 ⟨rfl, he3⟩
    refine ⟨_, rfl, ?_⟩
    refine L.va rfl (X.assign (by conv => lhs; whnf)) ?_
    refine L.nil ?_
    refine J.ret ?_
    refine thn_ret <| ?_
    refine fin1 ?_
    exact ⟨rfl, he02.trans he3⟩
  · have hn : n0 ≤ 20 := by omega
    refine L.va rfl ((by first | exact X.loadAgg rfl (range_l hk12) Try.underlying26 rfl (by kernel_rfl) | exact X.loadAgg rfl (range_blk hk12) Try.underlying26 rfl (by kernel_rfl) | exact X.loadAgg rfl (range_l hk2) Try.underlying26 rfl (by kernel_rfl) | exact X.loadAgg rfl (range_blk hk2) Try.underlying26 rfl (by kernel_rfl))) ?_
    refine L.va rfl ((by first | exact X.loadAgg rfl (range_l hk12) Try.underlying26 rfl (by kernel_rfl) | exact X.loadAgg rfl (range_blk hk12) Try.underlying26 rfl (by kernel_rfl) | exact X.loadAgg rfl (range_l hk2) Try.underlying26 rfl (by kernel_rfl) | exact X.loadAgg rfl (range_blk hk2) Try.underlying26 rfl (by kernel_rfl))) ?_
    refine L.bsliceR (ls := [[_, _], [_, _]]) rfl (Evs.cons (by conv => lhs; whnf) (Evs.cons (by conv => lhs; whnf) Evs.nil)) rfl rfl rfl rfl Try.underlying28 sz_26 zr_26 (by decide) ?_
    intro b3 w3 hb3 hs3 hk3 he3
    have he03 := he02.trans he3
    have hk13 := hk12.ext he3
    have hk23 := hk2.ext he3
    have q3 := he03.le
    have hA : (Rws.mk (some ⟨b3, 0, none⟩) 2 2 [a, b]).At w3.heap.size w3 := by
      refine ⟨blk_readsN (sz := 2) (q := 2) hk3 hk3.lt rfl, ?_, rfl, le_maxL (n := 2) (by decide)⟩
      intro x hx
      simp only [List.mem_cons, List.not_mem_nil, or_false] at hx
      rcases hx with rfl | rfl
      · exact (ha.ext he03).more q3
      · exact (hb.ext he03).more q3
    refine L.call rfl en_4 rfl (light33 (Rws.mk (some ⟨b3, 0, none⟩) 2 2 [a, b]) w3.heap.size w3 hA) ?_
    rintro e w4 ⟨b', rfl, hLb, he4⟩
    refine ⟨_, rfl, ?_⟩
    have he04 := he03.trans he4
    have hk14 := hk13.ext he4
    have hk24 := hk23.ext he4
    refine L.va rfl (X.not rfl) ?_
    refine L.va rfl (X.pickF rfl (by conv => lhs; whnf)) ?_
    refine L.nil ?_
    cases b'
    · refine J.iteT rfl ?_
      refine J.seq ?_
      refine J.region ?_
      refine L.call rfl en_5 rfl (awake33 w4) ?_
      rintro e w5 ⟨rfl, he5⟩
      refine ⟨_, rfl, ?_⟩
      refine L.va rfl (X.assign (by conv => lhs; whnf)) ?_
      refine L.nil ?_
      refine J.ret ?_
      refine thn_ret <| ?_
      refine fin1 ?_
      exact ⟨rfl, he04.trans he5⟩
    · have hL := (hLb rfl).2
      have na : a.nc ≤ 20 := (hL a (by simp)).1
      have nb : b.nc ≤ 20 := (hL b (by simp)).1
      refine J.iteF rfl ?_
      refine J.skip ?_
      refine J.cut (X := Option Addr × Nat × Option Addr × Nat) [7, 8, 21, 22, 23, 24, 25, 26] (fun (A3, c3, A4, c4) => [(7, .slice A3 (keyO o a).length c3), (8, .slice A4 (keyO o b).length c4)]) (fun (A3, c3, A4, c4) w' => w'.ownsRow w4.heap.size 5 1 (.slice A3 (keyO o a).length c3) (keyO o a).length (nums .u8 (keyO o a)) ∧ w'.ownsRow w4.heap.size 5 1 (.slice A4 (keyO o b).length c4) (keyO o b).length (nums .u8 (keyO o b)) ∧ Ext w4 w') ?_ ?_
      · refine J.draw (ℓ := 1000000) (S := Ext w4) mixed (fun w5 hS hS_h => ?_)
        refine D.va 0 rfl (by kernel_rfl) (fun _ _ _ h => h) rfl (fun w' hw => X.move (by conv => lhs; whnf)) hS ?_
        refine D.va 1 rfl (by kernel_rfl) (fun _ _ _ h => h) rfl (fun w' hw => (by first | exact X.loadAgg rfl (range_l (hk14.ext hw)) Try.underlying26 rfl (by kernel_rfl) | exact X.loadAgg rfl (range_blk (hk14.ext hw)) Try.underlying26 rfl (by kernel_rfl) | exact X.loadAgg rfl (range_l (hk24.ext hw)) Try.underlying26 rfl (by kernel_rfl) | exact X.loadAgg rfl (range_blk (hk24.ext hw)) Try.underlying26 rfl (by kernel_rfl))) hS ?_
        refine D.va 3 rfl (by kernel_rfl) (fun _ _ _ h => h) rfl (fun w' hw => X.move (by conv => lhs; whnf)) hS ?_
        refine D.va 4 rfl (by kernel_rfl) (fun _ _ _ h => h) rfl (fun w' hw => (by first | exact X.loadAgg rfl (range_l (hk14.ext hw)) Try.underlying26 rfl (by kernel_rfl) | exact X.loadAgg rfl (range_blk (hk14.ext hw)) Try.underlying26 rfl (by kernel_rfl) | exact X.loadAgg rfl (range_l (hk24.ext hw)) Try.underlying26 rfl (by kernel_rfl) | exact X.loadAgg rfl (range_blk (hk24.ext hw)) Try.underlying26 rfl (by kernel_rfl))) hS ?_
        have q5 := (hS).le
        refine D.one 2 (by kernel_rfl) rfl ?_
        refine L.call rfl en_6 rfl (okey A0 n0 c0 o a _ ((ro.ext (he04.trans hS)).more (he04.trans hS).le) lo hn ((ha.ext (he04.trans hS)).more (he04.trans hS).le) ka na) ?_
        rintro e wa ⟨A3, c3, rfl, ho3, he5⟩
        refine ⟨_, rfl, ?_⟩
        have hS1 := (hS).trans he5
        refine L.nil ?_
        refine ⟨fun _ => hS1, ?_⟩
        try replace ho4 := ho4.ext he5
        replace ho3 := own_lower ho3 q5
        have q6 := (hS1).le
        refine D.one 5 (by kernel_rfl) rfl ?_
        refine L.call rfl en_6 rfl (okey A0 n0 c0 o b _ ((ro.ext (he04.trans hS1)).more (he04.trans hS1).le) lo hn ((hb.ext (he04.trans hS1)).more (he04.trans hS1).le) kb nb) ?_
        rintro e wb ⟨A4, c4, rfl, ho4, he6⟩
        refine ⟨_, rfl, ?_⟩
        have hS2 := (hS1).trans he6
        refine L.nil ?_
        refine ⟨fun _ => hS2, ?_⟩
        try replace ho3 := ho3.ext he6
        replace ho4 := own_lower ho4 q6
        refine D.va 6 rfl (by kernel_rfl) (fun _ _ _ h => h) rfl (fun w' hw => X.assign (by conv => lhs; whnf)) hS2 ?_
        refine D.va 7 rfl (by kernel_rfl) (fun _ _ _ h => h) rfl (fun w' hw => X.assign (by conv => lhs; whnf)) hS2 ?_
        refine D.done (by kernel_rfl) ?_
        replace hk14 := hk14.ext hS2
        replace hk24 := hk24.ext hS2
        refine ⟨(A3, c3, A4, c4), At2 (by first | rfl | exact at_int rfl (by omega) | exact at_slice rfl (by omega) | exact at_int rfl (by simp)) (by first | rfl | exact at_int rfl (by omega) | exact at_slice rfl (by omega) | exact at_int rfl (by simp)), (by (iterate 8 refine Agr.lk rfl ?_); exact Agr.rfl'), ?_⟩
        exact ⟨ho3, ho4, hS2⟩
      · rintro ⟨A3, c3, A4, c4⟩ g w5 ⟨ho3, ho4, he5⟩
        have he05 := he04.trans he5
        have hk15 := hk14.ext he5
        have hk25 := hk24.ext he5
        have q5 := he05.le
        refine J.seq ?_
        refine J.region ?_
        refine L.va rfl (X.move (by conv => lhs; whnf)) ?_
        refine L.va rfl ((by first | exact X.loadAgg rfl (range_l hk15) Try.underlying26 rfl (by kernel_rfl) | exact X.loadAgg rfl (range_blk hk15) Try.underlying26 rfl (by kernel_rfl) | exact X.loadAgg rfl (range_l hk25) Try.underlying26 rfl (by kernel_rfl) | exact X.loadAgg rfl (range_blk hk25) Try.underlying26 rfl (by kernel_rfl))) ?_
        refine L.va rfl ((by first | exact X.loadAgg rfl (range_l hk15) Try.underlying26 rfl (by kernel_rfl) | exact X.loadAgg rfl (range_blk hk15) Try.underlying26 rfl (by kernel_rfl) | exact X.loadAgg rfl (range_l hk25) Try.underlying26 rfl (by kernel_rfl) | exact X.loadAgg rfl (range_blk hk25) Try.underlying26 rfl (by kernel_rfl))) ?_
        refine L.call rfl en_7 rfl (rless A0 n0 c0 o a b w5 ((ro.ext he05).more q5) lo (by unfold maxLen; omega) ((ha.ext he05).more q5) ((hb.ext he05).more q5)) ?_
        rintro e w6 ⟨rfl, he6⟩
        refine ⟨_, rfl, ?_⟩
        have he06 := he05.trans he6
        have hk16 := hk15.ext he6
        have hk26 := hk25.ext he6
        have o3 := ho3.ext he6
        have o4 := ho4.ext he6
        refine L.va rfl (X.assign (by conv => lhs; whnf)) ?_
        refine L.nil ?_
        refine J.seq ?_
        refine J.draw (ℓ := 1000000) (S := Ext w6) mixed (fun w7 hS hS_h => ?_)
        refine D.va 0 rfl (by kernel_rfl) (fun _ _ _ h => h) rfl (fun w' hw => X.move (by conv => lhs; whnf)) hS ?_
        refine D.va 1 rfl (by kernel_rfl) (fun _ _ _ h => h) rfl (fun w' hw => X.conv rfl ((own_reads (o3.ext hw)).conv Try.underlying30 Try.underlying5 Try.underlying9)) hS ?_
        refine D.va 2 rfl (by kernel_rfl) (fun _ _ _ h => h) rfl (fun w' hw => X.move (by conv => lhs; whnf)) hS ?_
        refine D.va 3 rfl (by kernel_rfl) (fun _ _ _ h => h) rfl (fun w' hw => (by first | exact X.loadAgg rfl (range_l (hk16.ext hw)) Try.underlying26 rfl (by kernel_rfl) | exact X.loadAgg rfl (range_blk (hk16.ext hw)) Try.underlying26 rfl (by kernel_rfl) | exact X.loadAgg rfl (range_l (hk26.ext hw)) Try.underlying26 rfl (by kernel_rfl) | exact X.loadAgg rfl (range_blk (hk26.ext hw)) Try.underlying26 rfl (by kernel_rfl))) hS ?_
        refine D.one 4 (by kernel_rfl) rfl ?_
        refine L.call rfl en_8 rfl (rokey A0 n0 c0 o a w7 ((ro.ext (he06.trans hS)).more (he06.trans hS).le) lo hn ((ha.ext (he06.trans hS)).more (he06.trans hS).le) ka na) ?_
        rintro e w8 ⟨A8, c8, rfl, ho8, he8⟩
        refine ⟨_, rfl, ?_⟩
        have hS1 := hS.trans he8
        refine L.nil ?_
        refine ⟨fun _ => hS1, ?_⟩
        refine D.one 5 (by kernel_rfl) rfl ?_
        refine L.va rfl (X.conv rfl ((own_reads ho8).conv Try.underlying30 Try.underlying5 Try.underlying9)) ?_
        refine L.nil ?_
        refine ⟨fun _ => hS1, ?_⟩
        refine D.va 6 rfl (by kernel_rfl) (fun _ _ _ h => h) rfl (fun w' hw => X.eqlS rfl rfl) hS1 ?_
        refine D.va 7 rfl (by kernel_rfl) (fun _ _ _ h => h) rfl (fun w' hw => X.move (by conv => lhs; whnf)) hS1 ?_
        refine D.caseDecT (k := 38) rfl (by rfl) ?_
        refine D.va 8 rfl (by kernel_rfl) (fun _ _ _ h => h) rfl (fun w' hw => X.move (by conv => lhs; whnf)) hS1 ?_
        refine D.va 9 rfl (by kernel_rfl) (fun _ _ _ h => h) rfl (fun w' hw => (by first | exact X.loadAgg rfl (range_l (hk16.ext hw)) Try.underlying26 rfl (by kernel_rfl) | exact X.loadAgg rfl (range_blk (hk16.ext hw)) Try.underlying26 rfl (by kernel_rfl) | exact X.loadAgg rfl (range_l (hk26.ext hw)) Try.underlying26 rfl (by kernel_rfl) | exact X.loadAgg rfl (range_blk (hk26.ext hw)) Try.underlying26 rfl (by kernel_rfl))) hS1 ?_
        refine D.va 10 rfl (by kernel_rfl) (fun _ _ _ h => h) rfl (fun w' hw => (by first | exact X.loadAgg rfl (range_l (hk16.ext hw)) Try.underlying26 rfl (by kernel_rfl) | exact X.loadAgg rfl (range_blk (hk16.ext hw)) Try.underlying26 rfl (by kernel_rfl) | exact X.loadAgg rfl (range_l (hk26.ext hw)) Try.underlying26 rfl (by kernel_rfl) | exact X.loadAgg rfl (range_blk (hk26.ext hw)) Try.underlying26 rfl (by kernel_rfl))) hS1 ?_
        refine D.va 12 rfl (by kernel_rfl) (fun _ _ _ h => h) rfl (fun w' hw => X.move (by conv => lhs; whnf)) hS1 ?_
        refine D.one 11 (by kernel_rfl) rfl ?_
        refine L.call rfl en_9 rfl (oless A0 n0 c0 o a b w8 ((ro.ext (he06.trans hS1)).more (he06.trans hS1).le) lo hn ((ha.ext (he06.trans hS1)).more (he06.trans hS1).le) ka na ((hb.ext (he06.trans hS1)).more (he06.trans hS1).le) kb nb) ?_
        rintro e w9 ⟨rfl, he9⟩
        refine ⟨_, rfl, ?_⟩
        have hS2 := hS1.trans he9
        refine L.nil ?_
        refine ⟨fun _ => hS2, ?_⟩
        refine D.va 13 rfl (by kernel_rfl) (fun _ _ _ h => h) rfl (fun w' hw => X.eqlB rfl rfl Try.underlying4) hS2 ?_
        refine D.va 14 rfl (by kernel_rfl) (fun _ _ _ h => h) rfl (fun w' hw => X.pickT rfl (by conv => lhs; whnf)) hS2 ?_
        refine D.va 15 rfl (by kernel_rfl) (fun _ _ _ h => h) rfl (fun w' hw => X.move (by conv => lhs; whnf)) hS2 ?_
        refine D.caseBT (k := 46) rfl (by exact beq_self_eq_true _) ?_
        refine D.va 16 rfl (by kernel_rfl) (fun _ _ _ h => h) rfl (fun w' hw => X.move (by conv => lhs; whnf)) hS2 ?_
        refine D.va 17 rfl (by kernel_rfl) (fun _ _ _ h => h) rfl (fun w' hw => X.move (by conv => lhs; whnf)) hS2 ?_
        refine D.va 19 rfl (by kernel_rfl) (fun _ _ _ h => h) rfl (fun w' hw => X.move (by conv => lhs; whnf)) hS2 ?_
        refine D.one 18 (by kernel_rfl) rfl ?_
        refine L.call rfl en_10 rfl (less07 A3 (keyO o a).length c3 A4 (keyO o b).length c4 (keyO o a) (keyO o b) w9 (Reads.of_own (o3.ext hS2)) (Reads.of_own (o4.ext hS2)) (own_max o3) (own_max o4)) ?_
        rintro e w10 ⟨rfl, he10⟩
        refine ⟨_, rfl, ?_⟩
        have hS3 := hS2.trans he10
        refine L.nil ?_
        refine ⟨fun _ => hS3, ?_⟩
        refine D.va 20 rfl (by kernel_rfl) (fun _ _ _ h => h) rfl (fun w' hw => X.eqlB rfl rfl Try.underlying4) hS3 ?_
        refine D.va 21 rfl (by kernel_rfl) (fun _ _ _ h => h) rfl (fun w' hw => X.pickT rfl (by conv => lhs; whnf)) hS3 ?_
        refine D.va 22 rfl (by kernel_rfl) (fun _ _ _ h => h) rfl (fun w' hw => X.move (by conv => lhs; whnf)) hS3 ?_
        refine D.caseBT (k := 53) rfl (by rw [less_key]; exact beq_self_eq_true _) ?_
        refine D.va 23 rfl (by kernel_rfl) (fun _ _ _ h => h) rfl (fun w' hw => (by first | exact X.loadAgg rfl (range_l (hk16.ext hw)) Try.underlying26 rfl (by kernel_rfl) | exact X.loadAgg rfl (range_blk (hk16.ext hw)) Try.underlying26 rfl (by kernel_rfl) | exact X.loadAgg rfl (range_l (hk26.ext hw)) Try.underlying26 rfl (by kernel_rfl) | exact X.loadAgg rfl (range_blk (hk26.ext hw)) Try.underlying26 rfl (by kernel_rfl))) hS3 ?_
        refine D.va 24 rfl (by kernel_rfl) (fun _ _ _ h => h) rfl (fun w' hw => (by first | exact X.loadAgg rfl (range_l (hk16.ext hw)) Try.underlying26 rfl (by kernel_rfl) | exact X.loadAgg rfl (range_blk (hk16.ext hw)) Try.underlying26 rfl (by kernel_rfl) | exact X.loadAgg rfl (range_l (hk26.ext hw)) Try.underlying26 rfl (by kernel_rfl) | exact X.loadAgg rfl (range_blk (hk26.ext hw)) Try.underlying26 rfl (by kernel_rfl))) hS3 ?_
        refine D.va 26 rfl (by kernel_rfl) (fun _ _ _ h => h) rfl (fun w' hw => (by first | exact X.loadAgg rfl (range_l (hk16.ext hw)) Try.underlying26 rfl (by kernel_rfl) | exact X.loadAgg rfl (range_blk (hk16.ext hw)) Try.underlying26 rfl (by kernel_rfl) | exact X.loadAgg rfl (range_l (hk26.ext hw)) Try.underlying26 rfl (by kernel_rfl) | exact X.loadAgg rfl (range_blk (hk26.ext hw)) Try.underlying26 rfl (by kernel_rfl))) hS3 ?_
        refine D.va 27 rfl (by kernel_rfl) (fun _ _ _ h => h) rfl (fun w' hw => (by first | exact X.loadAgg rfl (range_l (hk16.ext hw)) Try.underlying26 rfl (by kernel_rfl) | exact X.loadAgg rfl (range_blk (hk16.ext hw)) Try.underlying26 rfl (by kernel_rfl) | exact X.loadAgg rfl (range_l (hk26.ext hw)) Try.underlying26 rfl (by kernel_rfl) | exact X.loadAgg rfl (range_blk (hk26.ext hw)) Try.underlying26 rfl (by kernel_rfl))) hS3 ?_
        refine D.one 25 (by kernel_rfl) rfl ?_
        refine L.call rfl en_11 rfl (osame a b w10 ((ha.ext (he06.trans hS3)).more (he06.trans hS3).le) ((hb.ext (he06.trans hS3)).more (he06.trans hS3).le)) ?_
        rintro e w11 ⟨rfl, he11⟩
        refine ⟨_, rfl, ?_⟩
        have hS4 := hS3.trans he11
        refine L.nil ?_
        refine ⟨fun _ => hS4, ?_⟩
        refine D.one 28 (by kernel_rfl) rfl ?_
        refine L.call rfl en_12 rfl (rsame33 a b w11 ((ha.ext (he06.trans hS4)).more (he06.trans hS4).le) ((hb.ext (he06.trans hS4)).more (he06.trans hS4).le)) ?_
        rintro e w12 ⟨rfl, he12⟩
        refine ⟨_, rfl, ?_⟩
        have hS5 := hS4.trans he12
        refine L.nil ?_
        refine ⟨fun _ => hS5, ?_⟩
        refine D.va 29 rfl (by kernel_rfl) (fun _ _ _ h => h) rfl (fun w' hw => X.eqlB rfl rfl Try.underlying4) hS5 ?_
        refine D.va 30 rfl (by kernel_rfl) (fun _ _ _ h => h) rfl (fun w' hw => X.pickT rfl (by conv => lhs; whnf)) hS5 ?_
        refine D.va 31 rfl (by kernel_rfl) (fun _ _ _ h => h) rfl (fun w' hw => X.move (by conv => lhs; whnf)) hS5 ?_
        refine D.caseBT (k := 62) rfl (by exact beq_self_eq_true _) ?_
        refine D.one 32 (by kernel_rfl) rfl ?_
        refine L.call rfl en_5 rfl (awake33 w12) ?_
        rintro e w13 ⟨rfl, he13⟩
        refine ⟨_, rfl, ?_⟩
        have hS6 := hS5.trans he13
        refine L.nil ?_
        refine ⟨fun _ => hS6, ?_⟩
        refine D.va 33 rfl (by kernel_rfl) (fun _ _ _ h => h) rfl (fun w' hw => X.pickT rfl (by conv => lhs; whnf)) hS6 ?_
        refine D.va 34 rfl (by kernel_rfl) (fun _ _ _ h => h) rfl (fun w' hw => X.assign (by conv => lhs; whnf)) hS6 ?_
        refine D.done (by kernel_rfl) ?_
        replace hk16 := hk16.ext hS6
        replace hk26 := hk26.ext hS6
        refine J.ret ?_
        refine fin1 ?_
        exact ⟨rfl, he06.trans hS6⟩
end Go.Proofs.Ytjleobcbgldhmaa
