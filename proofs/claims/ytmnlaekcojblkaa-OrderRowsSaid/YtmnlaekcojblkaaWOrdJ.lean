/-
  Orders: the reference's Rows, walked.
-/
import Derived.Test.YtmnlaekcojblkaaWOrdI
namespace Go.Proofs.Ytmnlaekcojblkaa
set_option maxRecDepth 100000
open Go.RowKit H
open Odr Tou
set_option linter.unusedVariables false
theorem flat_tk {X : Type} {f : X → List Value} {sz : Nat} (hf : ∀ x, (f x).length = sz) : ∀ (l : List X) (k : Nat), (l.flatMap f).take (k * sz) = (l.take k).flatMap f
  | [], k => by simp
  | a :: l, 0 => by simp
  | a :: l, k + 1 => by
    rw [List.flatMap_cons, List.take_succ_cons, List.flatMap_cons, ← flat_tk hf l k, show (k + 1) * sz = (f a).length + k * sz by rw [hf a, Nat.add_mul]; omega, List.take_length_add_append]
theorem flat_dr {X : Type} {f : X → List Value} {sz : Nat} (hf : ∀ x, (f x).length = sz) : ∀ (l : List X) (k : Nat), (l.flatMap f).drop (k * sz) = (l.drop k).flatMap f
  | [], k => by simp
  | a :: l, 0 => by simp
  | a :: l, k + 1 => by
    rw [List.flatMap_cons, List.drop_succ_cons, ← flat_dr hf l k, show (k + 1) * sz = (f a).length + k * sz by rw [hf a, Nat.add_mul]; omega, List.drop_length_add_append]
theorem rw_ones (l : List Rw) : ((l.flatMap Rw.vs).all (·.oneCell')) = true := by
  rw [List.all_eq_true]
  intro v hv
  obtain ⟨x, _, hx⟩ := List.mem_flatMap.1 hv
  simp only [Rw.vs, List.mem_cons, List.not_mem_nil, or_false] at hx
  rcases hx with rfl | rfl <;> rfl
theorem own_eld {w w' : World} {b1 e1 s1 n1 e2 s2 n2 : Nat} {v1 v2 : Value} {x1 x2 : List Value} (h1 : w.ownsRow b1 e1 s1 v1 n1 x1) (h2 : w'.ownsRow w.heap.size e2 s2 v2 n2 x2) : v1.ownBlock = none ∨ v1.ownBlock ≠ v2.ownBlock := by
  cases hv : v1.ownBlock with
  | none => exact .inl rfl
  | some g =>
    refine .inr fun e => ?_
    have a1 := (h1.lt g hv).2
    have a2 := (h2.lt g e.symm).1
    omega
/-- the rows at places -/
def rowsAt (s : Rws) (Q : List Nat) : List Rw := Q.map fun x => s.l.getD x rw0
theorem keys_at (s : Rws) (o : Or) {x : Nat} (h : x < s.l.length) : (s.l.map (keyO o)).getD x [] = keyO o (s.l.getD x rw0) := by
  rw [List.getD, List.getD, List.getElem?_map, List.getElem?_eq_getElem h]
  rfl
def RrRows (s : Rws) (o : Or) (lim : Int) (w : World) (e : Ending) (w' : World) : Prop :=
  ∃ (A : Option Addr) (m c : Nat) (Q : List Nat), e = .returned (.slice A m c) ∧ w'.ownsRow w.heap.size 32 2 (.slice A m c) m ((rowsAt s (Q.take m)).flatMap Rw.vs) ∧
    Srt (ahL (s.l.map (keyO o))) s.n Q ∧ m = min s.n (if lim ≤ 0 then (s.n : Int) else lim).toNat ∧ Ext w w'
theorem rrows (A : Option Addr) (n c : Nat) (o : Or) (s : Rws) (lim : Int) (w : World) (ho : Reads w w.heap.size 2 A n (o.flatMap oR)) (lo : o.length = n) (hn : n ≤ 20) (hs : s.At w.heap.size w) (hL : s.Light) :
    Calls Try.prog 19 #[.slice A n c, s.val, .int .i64 lim] w (RrRows s o lim w) := by
  have ls := hs.l
  have hsn := hL.1
  have hR := ahL_ord (s.l.map (keyO o))
  refine enter Try.func19 rfl (by kernel_rfl) ?_
  refine J.seq ?_
  refine J.region ?_
  refine L.va rfl (X.assign (by conv => lhs; whnf)) ?_
  refine L.nil ?_
  refine J.seq ?_
  refine J.region ?_
  refine L.va rfl (X.assign (by conv => lhs; whnf)) ?_
  refine L.nil ?_
  refine J.seq ?_
  refine J.seq ?_
  refine J.region ?_
  refine L.va rfl (X.assign (by conv => lhs; whnf)) ?_
  refine L.nil ?_
  refine J.block ?_
  -- loop
  refine J.loop (X := Nat × Option Addr × Nat × List Nat) [7, 8, 9, 10, 11, 12, 13, 14, 15, 16, 17, 18, 19, 20, 21, 22, 23, 24, 25, 26, 27, 28, 29, 30, 31, 32, 33, 34, 35, 36, 37, 38, 39, 40, 41, 42, 43, 44, 45, 46, 47, 48, 49, 50, 51] (fun (i, B, d, Q) => [(8, .int .i64 (i : Int)), (7, .slice B i d)]) (fun (i, B, d, Q) w' => i ≤ s.n ∧ Srt (ahL (s.l.map (keyO o))) i Q ∧ w'.ownsRow w.heap.size 32 2 (.slice B i d) i ((rowsAt s Q).flatMap Rw.vs) ∧ Ext w w') (fun (i, _) => s.n - i) ((0, none, 0, [])) (At2 (by first | rfl | exact at_int rfl (by omega) | exact at_slice rfl (by omega) | exact at_int rfl (by simp)) (by first | rfl | exact at_int rfl (by omega) | exact at_slice rfl (by omega) | exact at_int rfl (by simp))) ?_ ?_
  · exact ⟨Nat.zero_le _, Srt.nil, own_nil _ _ _ _, Ext.refl _⟩
  · rintro ⟨i, B, d, Q⟩ g w2 ⟨hi, hQ, ho2, he2⟩
    have z2 := he2.le
    have hQl := hQ.len
    have hro : (rowsAt s Q).length = i := by rw [rowsAt, List.length_map, hQl]
    refine J.seq ?_
    refine J.seq ?_
    refine J.region ?_
    refine L.va rfl (X.move (by conv => lhs; whnf)) ?_
    refine L.va rfl (X.move (by conv => lhs; whnf)) ?_
    refine L.va rfl (X.len rfl Try.underlying23) ?_
    refine L.va rfl (X.lss rfl rfl) ?_
    refine L.nil ?_
    -- cond
    refine J.dec rfl (fun hlt => ?_) (fun hlt => ?_)
    · have hin : i < s.n := by omega
      have hAs := hs.r.some_ (by omega)
      obtain ⟨x, hx⟩ : ∃ x, x = s.l.getD i rw0 := ⟨_, rfl⟩
      have gx := gtR (l := s.l) (i := i) (by omega)
      have mx := memR (l := s.l) (i := i) (by omega)
      rw [← hx] at gx mx
      have hx0 := hs.h x mx
      have kx := keys_at s o (x := i) (by omega)
      rw [← hx] at kx
      refine J.skip ?_
      refine J.seq ?_
      refine J.block ?_
      refine J.seq ?_
      refine J.region ?_
      refine L.va rfl (X.assign (by conv => lhs; whnf)) ?_
      refine L.nil ?_
      -- until
      refine J.cut (X := Nat) [9, 17, 18, 19, 20, 21, 22, 23, 24, 25, 26, 27, 28, 29, 30, 31, 32, 33, 34, 35] (fun a => [(9, .int .i64 (a : Int))]) (fun a w' => a ≤ i ∧ (∀ j, j < a → ahL (s.l.map (keyO o)) i (Q.getD j 0) = false) ∧ (a < i → ahL (s.l.map (keyO o)) i (Q.getD a 0) = true) ∧ Ext w2 w') ?_ ?_
      · refine J.block ?_
        -- loop
        refine J.loop (X := Nat) [9, 17, 18, 19, 20, 21, 22, 23, 24, 25, 26, 27, 28, 29, 30, 31, 32, 33, 34, 35] (fun a => [(9, .int .i64 (a : Int))]) (fun a w' => a ≤ i ∧ (∀ j, j < a → ahL (s.l.map (keyO o)) i (Q.getD j 0) = false) ∧ Ext w2 w') (fun a => i - a) (0) (At1 (by first | rfl | exact at_int rfl (by omega) | exact at_slice rfl (by omega) | exact at_int rfl (by simp))) ?_ ?_
        · exact ⟨Nat.zero_le _, fun j hj => absurd hj (by omega), Ext.refl _⟩
        · rintro a g w3 ⟨ha, hP, he3⟩
          have he03 := he2.trans he3
          have hr3 := Reads.of_own (ho2.ext he3)
          refine J.seq ?_
          refine J.seq ?_
          -- draw
          refine J.quiet mixed (by kernel_rfl) ?_
          refine Qt.va rfl (fun w' hw => X.move (by conv => lhs; whnf)) ?_
          refine Qt.va rfl (fun w' hw => X.move (by conv => lhs; whnf)) ?_
          refine Qt.va rfl (fun w' hw => X.len rfl Try.underlying23) ?_
          refine Qt.va rfl (fun w' hw => X.lss rfl rfl) ?_
          refine Qt.va rfl (fun w' hw => X.move (by conv => lhs; whnf)) ?_
          -- case t21
          refine Qt.caseDec (k := 21) rfl (fun hai => ?_) (fun hai => ?_)
          · obtain ⟨p, hp⟩ : ∃ p, p = Q.getD a 0 := ⟨_, rfl⟩
            have hpi : p < i := by
              have := hQ.el (Q.getD a 0) (by rw [List.getD, List.getElem?_eq_getElem (by omega)]; exact List.getElem_mem _)
              omega
            obtain ⟨y, hy⟩ : ∃ y, y = s.l.getD p rw0 := ⟨_, rfl⟩
            have gy : (rowsAt s Q)[a]? = some y := by
              rw [rowsAt, List.getElem?_map, List.getElem?_eq_getElem (show a < Q.length by omega), hy, hp, List.getD, List.getElem?_eq_getElem (show a < Q.length by omega)]
              rfl
            have my := memR (l := s.l) (i := p) (by omega)
            rw [← hy] at my
            have hy0 := hs.h y my
            have ky := keys_at s o (x := p) (by omega)
            rw [← hy] at ky
            have e : ahL (s.l.map (keyO o)) i p = lessO o x y := by rw [ahL_old hpi, kx, ky, less_key]
            have hA3 := hr3.some_ (by omega)
            have c1 := fun (w' : World) (hw : Ext w w') => rless A n c o x y w' ((ho.ext hw).more hw.le) lo (by unfold maxLen; omega) ((hx0.ext hw).more hw.le) ((hy0.ext hw).more hw.le)
            -- t26
            -- t30
            refine Qt.va rfl (fun w' hw => X.move (by conv => lhs; whnf)) ?_
            refine Qt.va rfl (fun w' hw => X.move (by conv => lhs; whnf)) ?_
            refine Qt.va rfl (fun w' hw => X.move (by conv => lhs; whnf)) ?_
            refine Qt.va rfl (fun w' hw => (by first | exact X.indexAddrn rfl rfl Try.underlying23 sz_32 (by first | exact Option.some_ne_none _ | exact hAs | exact hA3) (by omega) | exact X.indexAddr rfl rfl Try.underlying23 sz_32 (by first | exact Option.some_ne_none _ | exact hAs | exact hA3) (by omega))) ?_
            refine Qt.va rfl (fun w' hw => X.loadRow (cs := x.vs) rfl (hs.r.ext (he03.trans hw)) (fun r u hu => flat_row rw_len gx r u hu) (Nat.zero_lt_succ _) Try.underlying32 rfl (by kernel_rfl)) ?_
            refine Qt.va rfl (fun w' hw => X.move (by conv => lhs; whnf)) ?_
            refine Qt.va rfl (fun w' hw => X.move (by conv => lhs; whnf)) ?_
            refine Qt.va rfl (fun w' hw => (by first | exact X.indexAddrn rfl rfl Try.underlying23 sz_32 (by first | exact Option.some_ne_none _ | exact hAs | exact hA3) (by omega) | exact X.indexAddr rfl rfl Try.underlying23 sz_32 (by first | exact Option.some_ne_none _ | exact hAs | exact hA3) (by omega))) ?_
            refine Qt.va rfl (fun w' hw => X.loadRow (cs := y.vs) rfl (hr3.ext hw) (fun r u hu => flat_row rw_len gy r u hu) (Nat.zero_lt_succ _) Try.underlying32 rfl (by kernel_rfl)) ?_
            -- callfn bushel/bushelref33.Less
            refine Qt.call rfl en_21 rfl (fun w' hw => calls_ext hw (c1 w' (he03.trans hw))) ?_
            refine Qt.va rfl (fun w' hw => X.not rfl) ?_
            refine Qt.va rfl (fun w' hw => X.pickT rfl (by conv => lhs; whnf)) ?_
            refine Qt.nil (fun w4 hq => ?_)
            -- cond
            cases hl : lessO o x y
            · refine J.iteT rfl ?_
              refine J.skip ?_
              refine J.block ?_
              refine J.region ?_
              refine L.va rfl (X.move (by conv => lhs; whnf)) ?_
              refine L.va rfl (X.add rfl rfl (by omega)) ?_
              refine L.va rfl (X.assign (by conv => lhs; whnf)) ?_
              refine L.nil ?_
              -- loopend
              refine ⟨a + 1, At1 (by first | rfl | exact at_int rfl (by omega) | exact at_slice rfl (by omega) | exact at_int rfl (by simp)), (by (iterate 21 refine Agr.lk rfl ?_); exact Agr.lk rfl (Agr.hav rfl Agr.rfl')), ?_⟩
              refine ⟨⟨by omega, fun j hj => ?_, he3.trans hq⟩, by omega⟩
              rcases Nat.lt_or_ge j a with h | h
              · exact hP j h
              · obtain rfl : j = a := by omega
                rw [← hp, e, hl]
            · refine J.iteF rfl ?_
              refine J.exit ?_
              -- cutend
              refine ⟨a, At1 (by first | rfl | exact at_int rfl (by omega) | exact at_slice rfl (by omega) | exact at_int rfl (by simp)), (by (iterate 18 refine Agr.lk rfl ?_); refine Agr.lk rfl ?_; refine Agr.hav rfl ?_; exact Agr.rfl'), ?_⟩
              exact ⟨ha, hP, (fun _ => by rw [← hp, e, hl]), he3.trans hq⟩
          · refine Qt.no rfl ?_
            refine Qt.no rfl ?_
            refine Qt.no rfl ?_
            refine Qt.no rfl ?_
            refine Qt.no rfl ?_
            refine Qt.no rfl ?_
            refine Qt.no rfl ?_
            refine Qt.no rfl ?_
            refine Qt.no rfl ?_
            refine Qt.no rfl ?_
            refine Qt.no rfl ?_
            refine Qt.va rfl (fun w' hw => X.pickF rfl (by conv => lhs; whnf)) ?_
            refine Qt.nil (fun w4 hq => ?_)
            -- cond
            refine J.iteF rfl ?_
            refine J.exit ?_
            -- cutend
            refine ⟨a, At1 (by first | rfl | exact at_int rfl (by omega) | exact at_slice rfl (by omega) | exact at_int rfl (by simp)), (by (iterate 18 refine Agr.lk rfl ?_); refine Agr.lk rfl ?_; refine Agr.hav rfl ?_; exact Agr.rfl'), ?_⟩
            exact ⟨ha, hP, (fun h => absurd h (by omega)), he3.trans hq⟩
      · rintro a g w3 ⟨ha, hP, hP2, he3⟩
        have he03 := he2.trans he3
        have ho3 := ho2.ext he3
        have hd := own_le' ho3
        have hQ' := hQ.put hR (a := a) (by omega) hP (fun h => hP2 (by omega))
        refine J.seq ?_
        -- draw
        -- t39
        refine J.draw (ℓ := 1000000) (S := (fun w' => Ext w w')) mixed (fun w4 hSE hS_h => ?_)
        have hS : ((fun w' => Ext w w')) w4 := he03.trans hSE
        refine D.va 0 rfl (by kernel_rfl) (fun _ _ _ h => h) rfl (fun w' hw => X.move (by conv => lhs; whnf)) hS ?_
        refine D.va 1 rfl (by kernel_rfl) (fun _ _ _ h => h) rfl (fun w' hw => X.move (by conv => lhs; whnf)) hS ?_
        refine D.va 2 rfl (by kernel_rfl) (fun _ _ _ h => h) rfl (fun w' hw => (by first | exact X.indexAddrn rfl rfl Try.underlying23 sz_32 (by first | exact Option.some_ne_none _ | exact hAs) (by omega) | exact X.indexAddr rfl rfl Try.underlying23 sz_32 (by first | exact Option.some_ne_none _ | exact hAs) (by omega))) hS ?_
        refine D.va 3 rfl (by kernel_rfl) (fun _ _ _ h => h) rfl (fun w' hw => X.loadRow (cs := x.vs) rfl (hs.r.ext hw) (fun r u hu => flat_row rw_len gx r u hu) (Nat.zero_lt_succ _) Try.underlying32 rfl (by kernel_rfl)) hS ?_
        refine D.va 5 rfl (by kernel_rfl) (fun _ _ _ h => h) rfl (fun w' hw => X.move (by conv => lhs; whnf)) hS ?_
        refine D.va 6 rfl (by kernel_rfl) (fun _ _ _ h => h) rfl (fun w' hw => X.move (by conv => lhs; whnf)) hS ?_
        refine D.va 7 rfl (by kernel_rfl) (fun _ _ _ h => h) rfl (fun w' hw => (by first | exact X.sliceFromn rfl rfl Try.underlying23 sz_32 (by omega) | exact X.sliceFrom rfl rfl Try.underlying23 sz_32 (by omega))) hS ?_
        -- buildSlice
        refine D.one 4 (by kernel_rfl) rfl ?_
        refine L.bslice1 (l := [_, _]) rfl rfl rfl Try.underlying23 sz_32 zr_32 rfl ?_
        intro b5 w5 hb5 hs5 hk5 he5
        have hS1 := hS.trans he5
        refine L.nil ?_
        refine ⟨fun _ => hS1, ?_⟩
        have ho5' : w5.ownsRow w4.heap.size 32 2 (.slice (some ⟨b5, 0, none⟩) 1 1) 1 x.vs := blk_own (size := 2) (q := 1) (c := 1) (l := x.vs) hk5 (by omega) (Nat.le_refl _) (by unfold maxLen; omega) rfl
        have hoX := (ho3.ext hSE).ext he5
        have z5 := he5.le
        have hrd := (Reads.of_own hoX).cut (k := a) (by omega) hd
        rw [flat_dr rw_len, rowsAt, ← List.map_drop] at hrd
        have hones := rw_ones (rowsAt s (Q.drop a))
        unfold rowsAt at hones
        -- append
        refine D.one 8 (by kernel_rfl) rfl ?_
        refine L.appendV (q := 1 + (i - a)) (ys := _) rfl rfl rfl Try.underlying23 el_32 (ho5') (hrd) (by first | rfl | exact strs_ones _ | assumption) (by omega) rfl (by unfold maxLen; omega) (by omega) ?_
        intro A6 c6 w6 ho6 hg6 hb6 hor6
        have hS2 := hS1.low hb6 hS.le
        refine L.nil ?_
        refine ⟨fun _ => hS2, ?_⟩
        have hoY := hoX.kept hg6 (own_eld (ho3.ext hSE) ho5')
        have he06 : Ext w w6 := hS1.low hb6 hS.le
        refine D.va 9 rfl (by kernel_rfl) (fun _ _ _ h => h) rfl (fun w' hw => X.assign (by conv => lhs; whnf)) hS2 ?_
        refine D.done (by kernel_rfl) ?_
        refine J.region ?_
        -- buildSlice
        refine L.bsliceR (ls := []) rfl Evs.nil rfl rfl rfl rfl Try.underlying23 sz_32 zr_32 (by decide) ?_
        intro b7 w7 hb7 hs7 hk7 he7
        have ho7 : w7.ownsRow w6.heap.size 32 2 (.slice (some ⟨b7, 0, none⟩) 0 0) 0 (([] : List Rw).flatMap Rw.vs) := blk_own (size := 2) (q := 0) (c := 0) (l := []) hk7 (by omega) (Nat.le_refl _) (Nat.zero_le _) rfl
        have hoZ := hoY.ext he7
        have ho67 := ho6.ext he7
        have z7 := he7.le
        have he07 := he06.trans he7
        have hdz := own_le' hoZ
        have hrf := (Reads.of_own hoZ).first (k := a) ha
        rw [flat_tk rw_len, rowsAt, ← List.map_take] at hrf
        have hones2 := rw_ones (rowsAt s (Q.take a))
        unfold rowsAt at hones2
        refine L.va rfl (X.move (by conv => lhs; whnf)) ?_
        refine L.va rfl (X.move (by conv => lhs; whnf)) ?_
        refine L.va rfl ((by first | exact X.sliceTon rfl rfl Try.underlying23 sz_32 (by omega) | exact X.sliceTo rfl rfl Try.underlying23 sz_32 (by omega))) ?_
        -- append
        refine L.appendV (q := a) (ys := _) rfl rfl rfl Try.underlying23 el_32 (ho7) (hrf) (by first | rfl | exact strs_ones _ | assumption) (by omega) rfl (by unfold maxLen; omega) (by omega) ?_
        intro A8 c8 w8 ho8 hg8 hb8 hor8
        have he08 : Ext w w8 := he07.low hb8 he06.le
        have ho68 := ho67.kept hg8 (own_eld ho6 ho7)
        have hones3 := rw_ones (x :: rowsAt s (Q.drop a))
        have e8 : x.vs ++ ((Q.drop a).map fun x => s.l.getD x rw0).flatMap Rw.vs = (x :: rowsAt s (Q.drop a)).flatMap Rw.vs := rfl
        rw [e8] at ho68
        have z8 : w6.heap.size ≤ w8.heap.size := by have := hg8.size; omega
        refine L.va rfl (X.move (by conv => lhs; whnf)) ?_
        -- append
        refine L.appendV (q := i + 1) (ys := _) rfl rfl rfl Try.underlying23 el_32 (ho8) (Reads.of_own ho68) (by first | rfl | exact strs_ones _ | assumption) (by omega) rfl (by unfold maxLen; omega) (by omega) ?_
        intro A9 c9 w9 ho9 hg9 hb9 hor9
        have he09 : Ext w w9 := he08.low hb9 he06.le
        have e9 : ([] : List Rw).flatMap Rw.vs ++ ((Q.take a).map fun x => s.l.getD x rw0).flatMap Rw.vs ++ (x :: rowsAt s (Q.drop a)).flatMap Rw.vs = (rowsAt s (Q.take a ++ i :: Q.drop a)).flatMap Rw.vs := by
          rw [rowsAt, rowsAt, List.map_append, List.flatMap_append, List.map_cons, ← hx]
          rfl
        rw [e9] at ho9
        refine L.va rfl (X.assign (by conv => lhs; whnf)) ?_
        refine L.nil ?_
        refine J.region ?_
        refine L.va rfl (X.move (by conv => lhs; whnf)) ?_
        refine L.va rfl (X.add rfl rfl (by omega)) ?_
        refine L.va rfl (X.assign (by conv => lhs; whnf)) ?_
        refine L.nil ?_
        -- loopend
        refine ⟨(i + 1, A9, c9, Q.take a ++ i :: Q.drop a), At2 (by first | rfl | exact at_int rfl (by omega) | exact at_slice rfl (by omega) | exact at_int rfl (by simp)) (by first | rfl | exact at_int rfl (by omega) | exact at_slice rfl (by omega) | exact at_int rfl (by simp)), (by (iterate 21 refine Agr.lk rfl ?_); refine Agr.lk rfl ?_; refine Agr.hav rfl ?_; (iterate 5 refine Agr.lk rfl ?_); exact Agr.lk rfl (Agr.hav rfl Agr.rfl')), ?_⟩
        exact ⟨⟨by omega, hQ', own_lower ho9 he06.le, he09⟩, by show s.n - (i + 1) < s.n - i; omega⟩
    · obtain rfl : i = s.n := by omega
      have hd := own_le' ho2
      refine J.exit ?_
      refine J.seq ?_
      refine J.seq ?_
      refine J.region ?_
      refine L.va rfl (X.move (by conv => lhs; whnf)) ?_
      refine L.va rfl (X.gtr rfl rfl) ?_
      refine L.va rfl (X.move (by conv => lhs; whnf)) ?_
      -- case t54
      refine L.caseDec (k := 54) rfl (fun hp => ?_) (fun hp => ?_)
      · refine L.va rfl (X.move (by conv => lhs; whnf)) ?_
        refine L.va rfl (X.move (by conv => lhs; whnf)) ?_
        refine L.va rfl (X.len rfl Try.underlying23) ?_
        refine L.va rfl (X.lss rfl rfl) ?_
        refine L.va rfl (X.pickT rfl (by conv => lhs; whnf)) ?_
        refine L.nil ?_
        -- cond
        refine J.dec rfl (fun hlt2 => ?_) (fun hlt2 => ?_)
        · obtain ⟨m, rfl⟩ := Int.eq_ofNat_of_zero_le (show 0 ≤ lim by omega)
          have hm := own_cut ho2 (show m ≤ s.n by omega)
          rw [flat_tk rw_len, rowsAt, ← List.map_take] at hm
          refine J.region ?_
          refine L.va rfl (X.move (by conv => lhs; whnf)) ?_
          refine L.va rfl (X.move (by conv => lhs; whnf)) ?_
          refine L.va rfl ((by first | exact X.sliceTon rfl rfl Try.underlying23 sz_32 (by omega) | exact X.sliceTo rfl rfl Try.underlying23 sz_32 (by omega))) ?_
          refine L.va rfl (X.assign (by conv => lhs; whnf)) ?_
          refine L.nil ?_
          refine J.seq ?_
          refine J.region ?_
          refine L.va rfl (X.move (by conv => lhs; whnf)) ?_
          refine L.va rfl (X.assign (by conv => lhs; whnf)) ?_
          refine L.nil ?_
          -- ret
          refine J.ret ?_
          refine fin1 ?_
          exact ⟨B, m, d, Q, rfl, hm, hQ, by rw [if_neg (by omega)]; omega, he2⟩
        · refine J.skip ?_
          refine J.seq ?_
          refine J.region ?_
          refine L.va rfl (X.move (by conv => lhs; whnf)) ?_
          refine L.va rfl (X.assign (by conv => lhs; whnf)) ?_
          refine L.nil ?_
          -- ret
          refine J.ret ?_
          refine fin1 ?_
          exact ⟨B, s.n, d, Q, rfl, by rw [List.take_of_length_le (by omega)]; exact ho2, hQ, by rw [if_neg (by omega)]; omega, he2⟩
      · refine L.no rfl ?_
        refine L.no rfl ?_
        refine L.no rfl ?_
        refine L.no rfl ?_
        refine L.va rfl (X.pickF rfl (by conv => lhs; whnf)) ?_
        refine L.nil ?_
        -- cond
        refine J.iteF rfl ?_
        refine J.skip ?_
        refine J.seq ?_
        refine J.region ?_
        refine L.va rfl (X.move (by conv => lhs; whnf)) ?_
        refine L.va rfl (X.assign (by conv => lhs; whnf)) ?_
        refine L.nil ?_
        -- ret
        refine J.ret ?_
        refine fin1 ?_
        exact ⟨B, s.n, d, Q, rfl, by rw [List.take_of_length_le (by omega)]; exact ho2, hQ, by rw [if_pos (by omega)]; omega, he2⟩
end Go.Proofs.Ytmnlaekcojblkaa
