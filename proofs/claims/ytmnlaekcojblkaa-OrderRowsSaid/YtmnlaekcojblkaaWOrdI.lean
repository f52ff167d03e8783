/-
  Orders: order.Rows, walked.
-/
import Derived.Test.YtmnlaekcojblkaaWOrdH
namespace Go.Proofs.Ytmnlaekcojblkaa
set_option maxRecDepth 100000
open Go.RowKit H
open Odr Tou
set_option linter.unusedVariables false
theorem own_max {w : World} {base e sz n : Nat} {v : Value} {xs : List Value} (h : w.ownsRow base e sz v n xs) : n ≤ maxLen := by
  rcases h.2 with ⟨_, rfl⟩ | ⟨b, cap, cur, rfl, _, _, h1, h2, _⟩
  · exact Nat.zero_le _
  · exact Nat.le_trans h1 h2
theorem by_flat (K : List By) : K.flatMap By.vs = K.map fun k : By => Value.slice k.A k.n k.c := by
  induction K with
  | nil => rfl
  | cons a K ih => rw [List.flatMap_cons, ih]; rfl
theorem by_set (K : List By) (i : Nat) (x : By) : (K.flatMap By.vs).set i (.slice x.A x.n x.c) = (K.set i x).flatMap By.vs := by rw [by_flat, by_flat, List.map_set]
theorem own_lower {w : World} {base base' e sz n : Nat} {v : Value} {xs : List Value} (h : w.ownsRow base e sz v n xs) (hb : base' ≤ base) : w.ownsRow base' e sz v n xs := by
  refine ⟨h.1, ?_⟩
  rcases h.2 with h1 | ⟨b, cap, cur, h1, h2, h3⟩
  · exact .inl h1
  · exact .inr ⟨b, cap, cur, h1, Nat.le_trans hb h2, h3⟩
/-- a key of a call's own -/
def KOwn (x : By) (N : Nat) (w : World) : Prop := w.ownsRow N 5 1 (.slice x.A x.n x.c) x.n (nums .u8 x.l)
theorem KOwn.at {x : By} {N : Nat} {w : World} (h : KOwn x N w) : x.At w.heap.size w := ⟨Reads.of_own h, own_max h⟩
/-- a row of a call's own -/
structure RwOwn (r : Rw) (N : Nat) (w : World) : Prop where
  hc : w.ownsRow N 3 1 (.slice r.Ac r.nc r.cc) r.nc (nums .i64 r.c)
  hv : w.ownsRow N 102 3 (.slice r.Av r.nv r.cv) r.nv (r.v.flatMap Vl.vs)
  hw : wfV r.v
  lv : r.v.length = r.nv
theorem RwOwn.at {r : Rw} {N : Nat} {w : World} (h : RwOwn r N w) : r.At w.heap.size w := ⟨Reads.of_own h.hc, Reads.of_own h.hv, h.hw, h.lv, own_max h.hc, own_max h.hv⟩
theorem RwOwn.ext {r : Rw} {N : Nat} {w w' : World} (h : RwOwn r N w) (he : Ext w w') : RwOwn r N w' := ⟨h.hc.ext he, h.hv.ext he, h.hw, h.lv⟩
theorem RwOwn.kept {r : Rw} {N N' n sz : Nat} {w w' : World} {v : Value} {xs : List Value} (h : RwOwn r N w) (ho : w.ownsRow N' 32 sz v n xs) (hg : w.grownBy w' v.ownBlock) : RwOwn r N w' :=
  ⟨h.hc.kept hg (own_or h.hc ho (by decide)), h.hv.kept hg (own_or h.hv ho (by decide)), h.hw, h.lv⟩
/-- what a row says -/
def Rw.say (r : Rw) : List Int × List Vl := (r.c, r.v)
theorem take_snoc {l : List Int} {i : Nat} (h : i < l.length) : l.take (i + 1) = l.take i ++ [l.getD i 0] := by
  rw [List.take_add_one, List.getElem?_eq_getElem h]
  simp [List.getD, h]
def OrRows (s : Rws) (o : Or) (lim : Int) (w : World) (e : Ending) (w' : World) : Prop :=
  ∃ (A : Option Addr) (m c : Nat) (L : List Rw) (z : List Int), e = .returned (.slice A m c) ∧ w'.ownsRow w.heap.size 32 2 (.slice A m c) m (L.flatMap Rw.vs) ∧ L.length = m ∧ (∀ x ∈ L, RwOwn x w.heap.size w') ∧
    L.map Rw.say = z.map (fun x : Int => (s.l.getD x.toNat rw0).say) ∧ Firsts (ahL (s.l.map (keyO o))) s.n m z ∧ m = min s.n (if lim ≤ 0 then (s.n : Int) else lim).toNat ∧ Ext w w'
theorem orows (A : Option Addr) (n c : Nat) (o : Or) (s : Rws) (lim : Int) (w : World) (ho : Reads w w.heap.size 2 A n (o.flatMap oR)) (lo : o.length = n) (hn : n ≤ 20) (hs : s.At w.heap.size w) (hL : s.Light) (hk : ∀ x ∈ s.l, x.Ok) :
    Calls Try.prog 18 #[.slice A n c, s.val, .int .i64 lim] w (OrRows s o lim w) := by
  have ls := hs.l
  have hsn := hL.1
  refine enter Try.func18 rfl (by kernel_rfl) ?_
  refine J.seq ?_
  refine J.region ?_
  refine L.va rfl (X.assign (by conv => lhs; whnf)) ?_
  refine L.nil ?_
  refine J.seq ?_
  refine J.region ?_
  refine L.va rfl (X.move (by conv => lhs; whnf)) ?_
  refine L.va rfl (X.len rfl Try.underlying23) ?_
  -- makeSlice
  refine L.make (q := s.n) (c := s.n) rfl rfl rfl Try.underlying38 el_33 (by omega) ?_
  intro b1 w1 hb1 hs1 hk1 he1
  rw [made_one rfl] at hk1
  have z1 := he1.le
  have hwb : w.heap.size ≤ b1 := by omega
  have ho1 : w1.ownsRow w.heap.size 33 1 (.slice (some ⟨b1, 0, none⟩) s.n s.n) s.n ((List.replicate s.n by0).flatMap By.vs) := by
    have := blk_own1 (base := w.heap.size) (q := s.n) (l := List.replicate s.n (Value.slice none 0 0)) hk1 hwb (by unfold maxLen; omega) (by simp)
    rw [by_flat, List.map_replicate]
    exact this
  refine L.va rfl (X.assign (by conv => lhs; whnf)) ?_
  refine L.nil ?_
  refine J.seq ?_
  refine J.seq ?_
  refine J.region ?_
  refine L.va rfl (X.move (by conv => lhs; whnf)) ?_
  refine L.va rfl (X.len rfl Try.underlying23) ?_
  refine L.va rfl (X.move (by conv => lhs; whnf)) ?_
  refine L.nil ?_
  refine J.block ?_
  -- loop
  refine J.loop (X := Nat × List By) [8, 9, 18, 19, 20, 21, 22, 23, 24, 25, 26, 27, 28, 29] (fun (i, K) => [(18, .int .i64 (i : Int))]) (fun (i, K) w' => i ≤ s.n ∧ K.length = s.n ∧ (∀ x ∈ K, KOwn x w.heap.size w') ∧ (∀ j, j < i → (K.getD j by0).l = keyO o (s.l.getD j rw0)) ∧ w'.ownsRow w.heap.size 33 1 (.slice (some ⟨b1, 0, none⟩) s.n s.n) s.n (K.flatMap By.vs) ∧ Ext w w') (fun (i, _) => s.n - i) ((0, List.replicate s.n by0)) (At1 (by first | rfl | exact at_int rfl (by omega) | exact at_slice rfl (by omega) | exact at_int rfl (by simp))) ?_ ?_
  · refine ⟨Nat.zero_le _, List.length_replicate .., fun x hx => ?_, fun j hj => absurd hj (by omega), ho1, he1⟩
    rw [(List.mem_replicate.1 hx).2]
    exact own_nil _ _ _ _
  · rintro ⟨i, K⟩ g w2 ⟨hi, hKl, hKo, hKe, ho2, he2⟩
    have z2 := he2.le
    have S2 := hs.ext he2
    refine J.seq ?_
    refine J.region ?_
    refine L.va rfl (X.lss rfl rfl) ?_
    refine L.nil ?_
    refine J.seq ?_
    -- cond
    refine J.dec rfl (fun hlt => ?_) (fun hlt => ?_)
    · have hin : i < s.n := by omega
      have hA := S2.r.some_ (by omega)
      obtain ⟨x, hx⟩ : ∃ x, x = s.l.getD i rw0 := ⟨_, rfl⟩
      have gx := gtR (l := s.l) (i := i) (by omega)
      have mx := memR (l := s.l) (i := i) (by omega)
      rw [← hx] at gx mx
      -- t22
      refine J.skip ?_
      refine J.seq ?_
      refine J.block ?_
      refine J.seq ?_
      refine J.region ?_
      refine L.va rfl (X.move (by conv => lhs; whnf)) ?_
      refine L.va rfl ((by first | exact X.indexAddrn rfl rfl Try.underlying23 sz_32 (by first | exact Option.some_ne_none _ | exact hA) (by omega) | exact X.indexAddr rfl rfl Try.underlying23 sz_32 (by first | exact Option.some_ne_none _ | exact hA) (by omega))) ?_
      refine L.va rfl (X.loadRow (cs := x.vs) rfl S2.r (fun r u hu => flat_row rw_len gx r u hu) (Nat.zero_lt_succ _) Try.underlying32 rfl (by kernel_rfl)) ?_
      -- alloc
      refine L.alloc rfl zr_32 ?_
      intro b9 w3 hb9 hs9 hk9 he3
      have ho3 := ho2.ext he3
      refine L.va rfl (X.assign (by conv => lhs; whnf)) ?_
      -- store
      refine L.storeAgg (vs := [_, _]) rfl rfl rfl rfl sz_32 (hk9) rfl ?_
      intro w4 hk4 hg4 hs4
      have he24 : Ext w2 w4 := he3.grw hg4 (by intro g hg; injection hg with hg; omega)
      have hk4 : Blk w4 b9 32 x.vs.toArray := hk4
      have ho4 := ho3.kept hg4 (.inr (own_blk_ne ho3 hk9 (by decide)))
      have he4 := he2.trans he24
      have z4 := he4.le
      have c1 := okey A n c o x w4 ((ho.ext he4).more z4) lo hn (((hs.h x mx).ext he4).more z4) (hk x mx) (hL.2 x mx).1
      refine L.nil ?_
      refine J.region ?_
      refine L.va rfl (X.move (by conv => lhs; whnf)) ?_
      refine L.va rfl (X.move (by conv => lhs; whnf)) ?_
      refine L.va rfl (X.move (by conv => lhs; whnf)) ?_
      refine L.va rfl ((by first | exact X.loadAgg rfl (range_l hk4) Try.underlying32 rfl (by kernel_rfl) | exact X.loadAgg rfl (range_blk hk4) Try.underlying32 rfl (by kernel_rfl))) ?_
      -- callfn bushel/order.Key
      refine L.call rfl en_20 rfl (c1) ?_
      rintro e w5 ⟨A5, c5, rfl, hq5, he5⟩
      refine ⟨_, rfl, ?_⟩
      have ho5 := ho4.ext he5
      refine L.va rfl ((by first | exact X.index1n rfl rfl Try.underlying38 sz_33 (by first | exact Option.some_ne_none _ | exact hA) (by omega) | exact X.index1 rfl rfl Try.underlying38 sz_33 (by first | exact Option.some_ne_none _ | exact hA) (by omega))) ?_
      -- store
      refine L.storeO rfl rfl (by conv => lhs; whnf) rfl sz_33 (ho5) (by omega) ?_
      intro w6 ho6 hg6 hb6 hs6
      have hK1 : ∀ y ∈ K, KOwn y w.heap.size w6 := fun y hy => (((hKo y hy).ext he24).ext he5).kept hg6 (own_or (((hKo y hy).ext he24).ext he5) ho5 (by decide))
      have hK2 : KOwn ⟨A5, (keyO o x).length, c5, keyO o x⟩ w.heap.size w6 := (own_lower hq5 z4).kept hg6 (own_or (own_lower hq5 z4) ho5 (by decide))
      rw [by_set K i ⟨A5, (keyO o x).length, c5, keyO o x⟩] at ho6
      have he6 : Ext w w6 := (he4.trans he5).grw hg6 (by intro g hg; injection hg with hg; subst hg; exact hwb)
      refine L.nil ?_
      refine J.region ?_
      refine L.va rfl (X.add rfl rfl (by omega)) ?_
      refine L.va rfl (X.move (by conv => lhs; whnf)) ?_
      refine L.nil ?_
      -- loopend
      refine ⟨(i + 1, K.set i ⟨A5, (keyO o x).length, c5, keyO o x⟩), At1 (by first | rfl | exact at_int rfl (by omega) | exact at_slice rfl (by omega) | exact at_int rfl (by simp)), (by (iterate 14 refine Agr.lk rfl ?_); exact Agr.lk rfl (Agr.hav rfl Agr.rfl')), ?_⟩
      refine ⟨⟨by omega, by rw [List.length_set]; exact hKl, fun y hy => ?_, fun j hj => ?_, ho6, he6⟩, by show s.n - (i + 1) < s.n - i; omega⟩
      · rcases List.mem_or_eq_of_mem_set hy with hy | rfl
        · exact hK1 y hy
        · exact hK2
      · rw [List.getD, List.getElem?_set]
        by_cases e : i = j
        · subst e
          rw [if_pos rfl, if_pos (by omega), ← hx]
          rfl
        · rw [if_neg e]
          exact hKe j (by omega)
    · obtain rfl : i = s.n := by omega
      obtain ⟨lm, hlm⟩ : ∃ lm : Int, lm = if lim ≤ 0 then (s.n : Int) else lim := ⟨_, rfl⟩
      refine J.exit ?_
      -- until
      refine J.cut (X := Unit) [2, 30, 31, 32, 33] (fun _ => [(2, .int .i64 lm)]) (fun _ w' => Ext w2 w') ?_ ?_
      · refine J.seq ?_
        refine J.region ?_
        refine L.va rfl (X.move (by conv => lhs; whnf)) ?_
        refine L.va rfl (X.leq rfl rfl) ?_
        refine L.nil ?_
        -- cond
        refine J.dec rfl (fun hle => ?_) (fun hle => ?_)
        · rw [if_pos hle] at hlm
          subst hlm
          refine J.region ?_
          refine L.va rfl (X.move (by conv => lhs; whnf)) ?_
          refine L.va rfl (X.len rfl Try.underlying23) ?_
          refine L.va rfl (X.assign (by conv => lhs; whnf)) ?_
          refine L.nil ?_
          -- cutend
          refine ⟨(), At1 (by first | rfl | exact at_int rfl (by omega) | exact at_slice rfl (by omega) | exact at_int rfl (by simp)), (by (iterate 5 refine Agr.lk rfl ?_); exact Agr.rfl'), ?_⟩
          exact Ext.refl _
        · rw [if_neg hle] at hlm
          subst hlm
          refine J.skip ?_
          -- cutend
          refine ⟨(), At1 (by first | rfl | exact at_int rfl (by omega) | exact at_slice rfl (by omega) | exact at_int rfl (by simp)), (by (iterate 2 refine Agr.lk rfl ?_); exact Agr.rfl'), ?_⟩
          exact Ext.refl _
      · rintro ⟨⟩ g w3 he3
        have he03 := he2.trans he3
        obtain ⟨t, ht⟩ : ∃ t : Bys, t = ⟨some ⟨b1, 0, none⟩, s.n, s.n, K⟩ := ⟨_, rfl⟩
        have hks : t.ks = s.l.map (keyO o) := by
          rw [ht]
          apply List.ext_getElem?
          intro j
          show (K.map By.l)[j]? = _
          rw [List.getElem?_map, List.getElem?_map]
          by_cases hj : j < s.n
          · have := hKe j hj
            rw [List.getD, List.getD, List.getElem?_eq_getElem (by omega), List.getElem?_eq_getElem (show j < s.l.length by omega)] at this
            rw [List.getElem?_eq_getElem (by omega), List.getElem?_eq_getElem (show j < s.l.length by omega)]
            exact congrArg some this
          · rw [List.getElem?_eq_none (by omega), List.getElem?_eq_none (by omega)]
            rfl
        have ht3 : t.At w3.heap.size w3 := by
          rw [ht]
          exact ⟨Reads.of_own (ho2.ext he3), fun x hx => (KOwn.at ((hKo x hx).ext he3)), hKl, by show s.n ≤ maxLen; unfold maxLen; omega⟩
        have c1 := tleast t lm w3 ht3 (by rw [ht]; show s.n ≤ 900000; omega)
        rw [hks, show t.n = s.n by rw [ht], show t.val = .slice (some ⟨b1, 0, none⟩) s.n s.n by rw [ht]] at c1
        refine J.seq ?_
        refine J.region ?_
        refine L.va rfl (X.assign (by conv => lhs; whnf)) ?_
        refine L.nil ?_
        refine J.seq ?_
        refine J.seq ?_
        refine J.region ?_
        refine L.va rfl (X.move (by conv => lhs; whnf)) ?_
        refine L.va rfl (X.move (by conv => lhs; whnf)) ?_
        -- callfn bushel/tourney.Least
        refine L.call rfl en_29 rfl (c1) ?_
        rintro e w4 ⟨A4, m, c4, z, rfl, hz4, hF, hm, he4⟩
        refine ⟨_, rfl, ?_⟩
        have he04 := he03.trans he4
        have hmn : m ≤ s.n := by omega
        have hzl := hF.1
        refine L.va rfl (X.len rfl Try.underlying29) ?_
        refine L.va rfl (X.move (by conv => lhs; whnf)) ?_
        refine L.nil ?_
        refine J.block ?_
        -- loop
        refine J.loop (X := Nat × Option Addr × Nat × List Rw) [10, 12, 38, 39, 40, 41, 42, 43, 44, 45, 46, 47, 48, 49, 50, 51, 52, 53, 54, 55, 56, 57, 58] (fun (i, B, d, l) => [(38, .int .i64 (i : Int)), (10, .slice B i d)]) (fun (i, B, d, l) w' => i ≤ m ∧ l.length = i ∧ (∀ x ∈ l, RwOwn x w.heap.size w') ∧ l.map Rw.say = (z.take i).map (fun x : Int => (s.l.getD x.toNat rw0).say) ∧ w'.ownsRow w4.heap.size 32 2 (.slice B i d) i (l.flatMap Rw.vs) ∧ Ext w4 w') (fun (i, _) => m - i) ((0, none, 0, [])) (At2 (by first | rfl | exact at_int rfl (by omega) | exact at_slice rfl (by omega) | exact at_int rfl (by simp)) (by first | rfl | exact at_int rfl (by omega) | exact at_slice rfl (by omega) | exact at_int rfl (by simp))) ?_ ?_
        · exact ⟨Nat.zero_le _, rfl, (fun x hx => by cases hx), rfl, own_nil _ _ _ _, Ext.refl _⟩
        · rintro ⟨i, B, d, l⟩ g w5 ⟨hi, hll, hlo, hls, ho5, he5⟩
          have he05 := he04.trans he5
          have z5 := he05.le
          have hzr := Reads.of_own (hz4.ext he5)
          refine J.seq ?_
          refine J.region ?_
          refine L.va rfl (X.lss rfl rfl) ?_
          refine L.nil ?_
          refine J.seq ?_
          -- cond
          refine J.dec rfl (fun hlt => ?_) (fun hlt => ?_)
          · have him : i < m := by omega
            have hA := hzr.some_ (by omega)
            obtain ⟨e1, e2, e3⟩ := hF.2 i him
            have hzt : z.take (i + 1) = z.take i ++ [z.getD i 0] := take_snoc (by omega)
            obtain ⟨k, hk'⟩ := Int.eq_ofNat_of_zero_le e1
            have hkn : k < s.n := by omega
            obtain ⟨x, hx⟩ : ∃ x, x = s.l.getD k rw0 := ⟨_, rfl⟩
            have gx := gtR (l := s.l) (i := k) (by omega)
            have mx := memR (l := s.l) (i := k) (by omega)
            rw [← hx] at gx mx
            have hnc := (hL.2 x mx).1
            have hnv := (hL.2 x mx).2
            have hAs := hs.r.some_ (by omega)
            have hx0 := hs.h x mx
            refine J.skip ?_
            refine J.seq ?_
            refine J.block ?_
            refine J.seq ?_
            refine J.region ?_
            refine L.va rfl ((by first | exact X.index1n rfl rfl Try.underlying29 sz_3 (by first | exact Option.some_ne_none _ | exact hzr.some_ (by omega) | exact hA) (by omega) | exact X.index1 rfl rfl Try.underlying29 sz_3 (by first | exact Option.some_ne_none _ | exact hzr.some_ (by omega) | exact hA) (by omega))) ?_
            refine L.va rfl (X.load rfl sc_3 (by first | exact Ld.num hzr (by omega) | exact hA)) ?_
            refine L.va rfl (X.assign (by conv => lhs; whnf)) ?_
            refine L.nil ?_
            -- until
            rw [hk']
            refine J.draw (ℓ := 1000000) (S := (fun w' => Ext w w')) mixed (fun w6 hSE hS_h => ?_)
            have hS : ((fun w' => Ext w w')) w6 := he05.trans hSE
            have hoX := ho5.ext hSE
            have hlX := fun (y : Rw) (hy : y ∈ l) => (hlo y hy).ext hSE
            have h46 := he5.trans hSE
            refine D.va 0 rfl (by kernel_rfl) (fun _ _ _ h => h) rfl (fun w' hw => X.move (by conv => lhs; whnf)) hS ?_
            refine D.va 1 rfl (by kernel_rfl) (fun _ _ _ h => h) rfl (fun w' hw => X.move (by conv => lhs; whnf)) hS ?_
            refine D.va 2 rfl (by kernel_rfl) (fun _ _ _ h => h) rfl (fun w' hw => X.move (by conv => lhs; whnf)) hS ?_
            refine D.va 3 rfl (by kernel_rfl) (fun _ _ _ h => h) rfl (fun w' hw => (by first | exact X.indexAddrn rfl rfl Try.underlying23 sz_32 (by first | exact Option.some_ne_none _ | exact hAs) (by omega) | exact X.indexAddr rfl rfl Try.underlying23 sz_32 (by first | exact Option.some_ne_none _ | exact hAs) (by omega))) hS ?_
            refine D.va 4 rfl (by kernel_rfl) (fun _ _ _ h => h) rfl (fun w' hw => X.fieldP rfl Try.underlying32 rfl sz_29 (by decide) (by first | exact Option.some_ne_none _ | exact hAs)) hS ?_
            refine D.va 5 rfl (by kernel_rfl) (fun _ _ _ h => h) rfl (fun w' hw => X.load rfl sc_29 (by first | exact hAs | exact Ld.flat2 rw_len (hs.r.ext hw) gx (r := 0) rfl | exact Ld.flat2 rw_len (hs.r.ext hw) gx (r := 1) rfl)) hS ?_
            refine D.va 7 rfl (by kernel_rfl) (fun _ _ _ h => h) rfl (fun w' hw => X.move (by conv => lhs; whnf)) hS ?_
            refine D.va 8 rfl (by kernel_rfl) (fun _ _ _ h => h) rfl (fun w' hw => X.move (by conv => lhs; whnf)) hS ?_
            refine D.va 9 rfl (by kernel_rfl) (fun _ _ _ h => h) rfl (fun w' hw => (by first | exact X.indexAddrn rfl rfl Try.underlying23 sz_32 (by first | exact Option.some_ne_none _ | exact hAs) (by omega) | exact X.indexAddr rfl rfl Try.underlying23 sz_32 (by first | exact Option.some_ne_none _ | exact hAs) (by omega))) hS ?_
            refine D.va 10 rfl (by kernel_rfl) (fun _ _ _ h => h) rfl (fun w' hw => X.fieldP rfl Try.underlying32 rfl sz_30 (by decide) (by first | exact Option.some_ne_none _ | exact hAs)) hS ?_
            refine D.va 11 rfl (by kernel_rfl) (fun _ _ _ h => h) rfl (fun w' hw => X.load rfl sc_30 (by first | exact hAs | exact Ld.flat2 rw_len (hs.r.ext hw) gx (r := 0) rfl | exact Ld.flat2 rw_len (hs.r.ext hw) gx (r := 1) rfl)) hS ?_
            -- callfn slices.Clone[[]int,int]
            have qx := (hS).le
            refine D.one 6 (by kernel_rfl) rfl ?_
            refine L.call rfl en_72 rfl (cloneI x.Ac x.nc x.cc x.c _ ((hx0.ext hS).more (hS).le).hc (by omega)) ?_
            rintro e wc ⟨A7, c7, rfl, hoC, hec⟩
            refine ⟨_, rfl, ?_⟩
            have hS1 := (hS).trans hec
            refine L.nil ?_
            refine ⟨fun _ => hS1, ?_⟩
            replace hoC := own_lower hoC qx
            replace hoX := hoX.ext hec
            replace hlX := fun (y : Rw) (hy : y ∈ l) => (hlX y hy).ext hec
            replace h46 := h46.trans hec
            try replace hoV := hoV.ext hec
            have qy := (hS1).le
            refine D.one 12 (by kernel_rfl) rfl ?_
            refine L.call rfl en_73 rfl (cloneV x.Av x.nv x.cv x.v _ ((hx0.ext hS1).more (hS1).le).hv (by omega) hx0.lv) ?_
            rintro e wc ⟨A8, c8, rfl, hoV, hec⟩
            refine ⟨_, rfl, ?_⟩
            have hS2 := (hS1).trans hec
            refine L.nil ?_
            refine ⟨fun _ => hS2, ?_⟩
            replace hoV := own_lower hoV qy
            replace hoX := hoX.ext hec
            replace hlX := fun (y : Rw) (hy : y ∈ l) => (hlX y hy).ext hec
            replace h46 := h46.trans hec
            try replace hoC := hoC.ext hec
            refine D.va 13 rfl (by kernel_rfl) (fun _ _ _ h => h) rfl (fun w' hw => X.build (l := [_, _]) (Evs.cons (by conv => lhs; whnf) (Evs.cons (by conv => lhs; whnf) Evs.nil)) (bld_run Try.underlying32 (bp_32 Try.underlying32) zr_32 rfl)) hS2 ?_
            have qz := (hS2).le
            refine D.one 14 (by kernel_rfl) rfl ?_
            refine L.bslice1 (l := [_, _]) rfl rfl rfl Try.underlying23 sz_32 zr_32 rfl ?_
            intro b10 wa hb10 hs10 hk10 hea
            have hS3 := (hS2).trans hea
            refine L.nil ?_
            refine ⟨fun _ => hS3, ?_⟩
            replace hoX := hoX.ext hea
            replace hlX := fun (y : Rw) (hy : y ∈ l) => (hlX y hy).ext hea
            replace h46 := h46.trans hea
            replace hoC := hoC.ext hea
            replace hoV := hoV.ext hea
            have qw := (hS3).le
            have qv := h46.le
            refine D.one 15 (by kernel_rfl) rfl ?_
            refine L.appendV (q := i + 1) (ys := ((l ++ [Rw.mk A7 x.nc c7 x.c A8 x.nv c8 x.v]).flatMap Rw.vs)) rfl rfl rfl Try.underlying23 el_32 (hoX) ((blk_readsN (sz := 2) (q := 1) (l := (Rw.mk A7 x.nc c7 x.c A8 x.nv c8 x.v).vs) hk10 hk10.lt rfl)) (by first | rfl | exact strs_ones _ | assumption) (by omega) (by simp) (by unfold maxLen; omega) (by omega) ?_
            intro B2 d2 wd ho4 hg4' hb4 hor4
            have hS4 := (hS3).low hb4 he04.le
            refine L.nil ?_
            refine ⟨fun _ => hS4, ?_⟩
            refine D.va 16 rfl (by kernel_rfl) (fun _ _ _ h => h) rfl (fun w' hw => X.assign (by conv => lhs; whnf)) hS4 ?_
            refine D.done (by kernel_rfl) ?_
            refine J.region ?_
            refine L.va rfl (X.add rfl rfl (by omega)) ?_
            refine L.va rfl (X.move (by conv => lhs; whnf)) ?_
            refine L.nil ?_
            have hoC' := hoC.kept hg4' (own_or hoC hoX (by decide))
            have hoV' := hoV.kept hg4' (own_or hoV hoX (by decide))
            refine ⟨(i + 1, B2, d2, l ++ [Rw.mk A7 x.nc c7 x.c A8 x.nv c8 x.v]), At2 (by first | rfl | exact at_int rfl (by omega) | exact at_slice rfl (by omega) | exact at_int rfl (by simp)) (by first | rfl | exact at_int rfl (by omega) | exact at_slice rfl (by omega) | exact at_int rfl (by simp)), (by (iterate 23 refine Agr.lk rfl ?_); exact Agr.lk rfl (Agr.hav rfl Agr.rfl')), ?_⟩
            refine ⟨⟨by omega, by rw [List.length_append, hll]; rfl, fun y hy => ?_, ?_, ho4, h46.grw hg4' (fun g hg => (hoX.lt g hg).1)⟩, by show m - (i + 1) < m - i; omega⟩
            · rcases List.mem_append.1 hy with hy | hy
              · exact (hlX y hy).kept hoX hg4'
              · rw [List.mem_singleton] at hy
                subst hy
                exact ⟨hoC', hoV', hx0.hw, hx0.lv⟩
            · rw [List.map_append, hls, hzt, List.map_append]
              congr 1
              show [(x.c, x.v)] = [(s.l.getD (z.getD i 0).toNat rw0).say]
              rw [hk', Int.toNat_natCast, ← hx]
              rfl
          · refine J.exit ?_
            refine J.seq ?_
            refine J.region ?_
            refine L.va rfl (X.move (by conv => lhs; whnf)) ?_
            refine L.va rfl (X.assign (by conv => lhs; whnf)) ?_
            refine L.nil ?_
            -- ret
            refine J.ret ?_
            refine fin1 ?_
            obtain rfl : i = m := by omega
            rw [List.take_of_length_le (by omega)] at hls
            exact ⟨_, _, _, l, z, rfl, own_lower ho5 he04.le, hll, hlo, hls, hF, by rw [hm, hlm], he05⟩
end Go.Proofs.Ytmnlaekcojblkaa
