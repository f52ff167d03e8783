/-
  Lattices: the examples of chapter 17; all sets between two.
-/
import Derived.Test.YtmnlaekcojblkaaWLatA
import Derived.Test.YtmnlaekcojblkaaWTouC
namespace Go.Proofs.Ytmnlaekcojblkaa
set_option maxRecDepth 100000
open Go.RowKit H
open Mk Clo Srt
set_option linter.unusedVariables false
theorem strict_of {o : List Int} (h : In o 0 o.length) (hd : o.Nodup) : o.Pairwise (· < ·) := by
  rw [List.pairwise_iff_getElem]
  intro i j hi hj hij
  have h1 := h i j (Nat.zero_le _) hij hj
  rw [List.getD, List.getD, List.getElem?_eq_getElem hi, List.getElem?_eq_getElem hj] at h1
  have h2 := List.pairwise_iff_getElem.1 (List.nodup_iff_pairwise_ne.1 hd) i j hi hj hij
  have h3 : o[i] ≤ o[j] := h1
  omega
theorem cm_nil (z : Nat) : ¬ Cm [] z := fun h => by obtain ⟨⟨s, hs, _⟩, _⟩ := h; cases hs
theorem cm36 (z : Nat) : Cm [3, 6] z ↔ z = 2 ∨ z = 3 ∨ z = 6 := by
  have h3 : ∀ y, Cm [3] y ↔ y = 3 := fun y => by
    have := Cm.snoc (l := []) (x := 3) (z := y) (by decide)
    rw [show ([] : List Nat) ++ [3] = [3] from rfl] at this
    rw [this]
    constructor
    · rintro (h | ⟨x, rfl | h, e⟩)
      · exact absurd h (cm_nil _)
      · exact e
      · exact absurd h (cm_nil _)
    · rintro rfl
      exact .inr ⟨3, .inl rfl, rfl⟩
  have := Cm.snoc (l := [3]) (x := 6) (z := z) (by decide)
  rw [show [3] ++ [6] = [3, 6] from rfl] at this
  rw [this, h3]
  constructor
  · rintro (h | ⟨x, rfl | h, e⟩)
    · exact .inr (.inl h)
    · exact .inr (.inr e)
    · rw [h3] at h
      subst h
      exact .inl e
  · rintro (rfl | rfl | rfl)
    · exact .inr ⟨3, .inr ((h3 3).2 rfl), rfl⟩
    · exact .inl rfl
    · exact .inr ⟨6, .inl rfl, rfl⟩
theorem closed36 {o : List Int} (h : o.Pairwise (· < ·)) (hm : ∀ z : Int, z ∈ o ↔ ∃ y : Nat, z = (y : Int) ∧ Cm [3, 6] y) : o = [2, 3, 6] := by
  refine ssort_eq o [2, 3, 6] h (by decide) fun z => ?_
  rw [hm]
  constructor
  · rintro ⟨y, rfl, hy⟩
    rcases (cm36 y).1 hy with rfl | rfl | rfl <;> simp
  · intro hz
    simp only [List.mem_cons, List.not_mem_nil, or_false] at hz
    rcases hz with rfl | rfl | rfl
    · exact ⟨2, rfl, (cm36 2).2 (by omega)⟩
    · exact ⟨3, rfl, (cm36 3).2 (by omega)⟩
    · exact ⟨6, rfl, (cm36 6).2 (by omega)⟩
theorem cov17 : MinAt (fun i => sb 1 ([7, 3, 5].getD i 0)) (fun i => ([9, 4, 2] : List Int).getD i 0) 0 3 2 := by
  refine .inr ⟨2, rfl, by decide, by decide, by decide, fun i h1 h2 h3 => ?_⟩
  rcases (by omega : i = 0 ∨ i = 1 ∨ i = 2) with rfl | rfl | rfl <;> decide
theorem steps17 {o : List Int} (hl : o.length = 3) (h : ∀ i, i < 3 → MinAt (okS [7, 3, 5] i) (fun i => ([9, 4, 2] : List Int).getD i 0) 0 3 (o.getD i 0)) : o = [-1, 0, 0] := by
  have h0 : MinAt (okS [7, 3, 5] 0) (fun i => ([9, 4, 2] : List Int).getD i 0) 0 3 (-1) := .inl ⟨rfl, fun i h1 h2 => by
    rcases (by omega : i = 0 ∨ i = 1 ∨ i = 2) with rfl | rfl | rfl <;> decide⟩
  have h1 : MinAt (okS [7, 3, 5] 1) (fun i => ([9, 4, 2] : List Int).getD i 0) 0 3 0 := .inr ⟨0, rfl, by decide, by decide, by decide, fun i h1 h2 h3 => by
    rcases (by omega : i = 0 ∨ i = 1 ∨ i = 2) with rfl | rfl | rfl
    · decide
    · exact absurd h3 (by decide)
    · exact absurd h3 (by decide)⟩
  have h2 : MinAt (okS [7, 3, 5] 2) (fun i => ([9, 4, 2] : List Int).getD i 0) 0 3 0 := .inr ⟨0, rfl, by decide, by decide, by decide, fun i h1 h2 h3 => by
    rcases (by omega : i = 0 ∨ i = 1 ∨ i = 2) with rfl | rfl | rfl
    · decide
    · exact absurd h3 (by decide)
    · exact absurd h3 (by decide)⟩
  have e0 := (h 0 (by decide)).one h0
  have e1 := (h 1 (by decide)).one h1
  have e2 := (h 2 (by decide)).one h2
  match o, hl with
  | [a, b, c], _ =>
    have f0 : a = -1 := e0
    have f1 : b = 0 := e1
    have f2 : c = 0 := e2
    rw [f0, f1, f2]
theorem close_few (A : Option Addr) (n c : Nat) (l : List Nat) (w : World) (hr : Reads w w.heap.size 1 A n (nums .u32 (zl l))) (hl : ∀ x ∈ l, x < 4294967296) (h12 : l.length ≤ 12) :
    Calls Try.prog 48 #[.slice A n c] w fun e w' => ∃ (A : Option Addr) (c : Nat) (o : List Int), e = .returned (.tuple #[.slice A o.length c, .int .i64 0]) ∧ w'.ownsRow w.heap.size 53 1 (.slice A o.length c) o.length (nums .u32 o) ∧ o.Pairwise (· < ·) ∧ o.length ≤ 4096 ∧ (∀ z : Int, z ∈ o ↔ ∃ y : Nat, z = (y : Int) ∧ Cm l y) ∧ Ext w w' :=
  (close_any A n c l w hr hl).mono fun e w' hC => by
    rcases hC with ⟨h, _⟩ | ⟨_, A2, q2, c2, o2, rfl, ho2, hd2, hI2, hq, hm2, he2⟩
    · omega
    · have hq2 : o2.length = q2 := by have := ho2.1; simpa [nums] using this
      subst hq2
      exact ⟨A2, c2, o2, rfl, ho2, strict_of hI2 hd2, hq, hm2, he2⟩
theorem close_many (A : Option Addr) (n c : Nat) (l : List Nat) (w : World) (hr : Reads w w.heap.size 1 A n (nums .u32 (zl l))) (hl : ∀ x ∈ l, x < 4294967296) (h12 : 12 < l.length) :
    Calls Try.prog 48 #[.slice A n c] w fun e w' => e = .returned (.tuple #[.slice none 0 0, .int .i64 3]) ∧ Ext w w' :=
  (close_any A n c l w hr hl).mono fun e w' hC => by
    rcases hC with ⟨_, h⟩ | ⟨h, _⟩
    · exact h
    · omega
theorem awake17 (w : World) : Calls Try.prog 42 #[] w fun e w' => e = .returned (.bool true) ∧ Ext w w' := by
  refine enter Try.func42 rfl (by kernel_rfl) ?_
  refine J.seq ?_
  refine J.region ?_
  refine L.va rfl (X.assign (by conv => lhs; whnf)) ?_
  refine L.nil ?_
  refine J.seq ?_
  refine J.region ?_
  -- buildSlice
  refine L.bslice (vs := [_, _]) rfl (Evs.cons (by conv => lhs; whnf) (Evs.cons (by conv => lhs; whnf) Evs.nil)) rfl rfl rfl rfl Try.underlying54 sz_53 zr_53 (by decide) ?_
  intro b1 w1 hb1 hs1 hk1 he1
  have r1 : Reads w1 w1.heap.size 1 (some ⟨b1, 0, none⟩) 2 (nums .u32 (zl [3, 6])) := blk_readsN (sz := 1) (q := 2) (l := nums .u32 [3, 6]) hk1 hk1.lt rfl
  -- callfn bushel/lattice.Close
  refine L.call rfl en_48 rfl (close_few (some ⟨b1, 0, none⟩) 2 2 [3, 6] w1 r1 (by decide) (by decide)) ?_
  rintro e w2 ⟨A2, c2, o2, rfl, ho2, hp2, _, hm2, he2⟩
  refine ⟨_, rfl, ?_⟩
  obtain rfl := closed36 hp2 hm2
  have he02 := he1.trans he2
  refine L.va rfl (X.move (by conv => lhs; whnf)) ?_
  refine L.va rfl (X.extract rfl rfl) ?_
  refine L.va rfl (X.extract rfl rfl) ?_
  refine L.va rfl (X.assign (by conv => lhs; whnf)) ?_
  refine L.va rfl (X.assign (by conv => lhs; whnf)) ?_
  refine L.nil ?_
  refine J.seq ?_
  refine J.region ?_
  -- buildSlice
  refine L.bslice (vs := [_, _, _]) rfl (Evs.cons (by conv => lhs; whnf) (Evs.cons (by conv => lhs; whnf) (Evs.cons (by conv => lhs; whnf) Evs.nil))) rfl rfl rfl rfl Try.underlying54 sz_53 zr_53 (by decide) ?_
  intro b3 w3 hb3 hs3 hk3 he3
  refine L.va rfl (X.assign (by conv => lhs; whnf)) ?_
  refine L.nil ?_
  refine J.seq ?_
  refine J.region ?_
  -- buildSlice
  refine L.bslice (vs := [_, _, _]) rfl (Evs.cons (by conv => lhs; whnf) (Evs.cons (by conv => lhs; whnf) (Evs.cons (by conv => lhs; whnf) Evs.nil))) rfl rfl rfl rfl Try.underlying29 sz_3 zr_3 (by decide) ?_
  intro b4 w4 hb4 hs4 hk4 he4
  have ho4 := (ho2.ext he3).ext he4
  have hk34 := hk3.ext he4
  have he04 := (he02.trans he3).trans he4
  refine L.va rfl (X.assign (by conv => lhs; whnf)) ?_
  refine L.nil ?_
  refine J.seq ?_
  refine J.region ?_
  refine L.va rfl (X.move (by conv => lhs; whnf)) ?_
  refine L.va rfl (X.eql rfl rfl) ?_
  refine L.va rfl (X.move (by conv => lhs; whnf)) ?_
  -- case t14
  refine L.caseDecT (k := 14) rfl (by rfl) ?_
  refine L.va rfl (X.move (by conv => lhs; whnf)) ?_
  -- buildSlice
  refine L.bslice (vs := [_, _, _]) rfl (Evs.cons (by conv => lhs; whnf) (Evs.cons (by conv => lhs; whnf) (Evs.cons (by conv => lhs; whnf) Evs.nil))) rfl rfl rfl rfl Try.underlying54 sz_53 zr_53 (by decide) ?_
  intro b5 w5 hb5 hs5 hk5 he5
  -- callfn bushel/bushelref11.Masks
  refine L.call rfl en_43 rfl (rmasks_same A2 (some ⟨b5, 0, none⟩) 3 c2 3 [2, 3, 6] w5 (Reads.of_own (ho4.ext he5)) (blk_readsN (sz := 1) (q := 3) (l := nums .u32 [2, 3, 6]) hk5 hk5.lt rfl) (by decide)) ?_
  rintro e w6 ⟨rfl, he6⟩
  refine ⟨_, rfl, ?_⟩
  have hk36 := hk34.ext (he5.trans he6)
  have hk46 := hk4.ext (he5.trans he6)
  have rv : Reads w6 w6.heap.size 1 (some ⟨b3, 0, none⟩) 3 (nums .u32 (zl [7, 3, 5])) := blk_readsN (sz := 1) (q := 3) (l := nums .u32 [7, 3, 5]) hk36 hk36.lt rfl
  have rs : Reads w6 w6.heap.size 1 (some ⟨b4, 0, none⟩) 3 (nums .i64 [9, 4, 2]) := blk_readsN (sz := 1) (q := 3) (l := nums .i64 [9, 4, 2]) hk46 hk46.lt rfl
  refine L.va rfl (X.pickT rfl (by conv => lhs; whnf)) ?_
  refine L.va rfl (X.move (by conv => lhs; whnf)) ?_
  -- case t19
  refine L.caseBT (k := 19) rfl (by rfl) ?_
  refine L.va rfl (X.move (by conv => lhs; whnf)) ?_
  refine L.va rfl (X.move (by conv => lhs; whnf)) ?_
  -- callfn bushel/lattice.Cover
  refine L.call rfl en_45 rfl (lcover (some ⟨b3, 0, none⟩) 3 3 [7, 3, 5] (some ⟨b4, 0, none⟩) 3 3 [9, 4, 2] 1 w6 rv rs (by decide) (by decide) (by decide)) ?_
  rintro e _ ⟨a, rfl, hM, rfl⟩
  refine ⟨_, rfl, ?_⟩
  obtain rfl := hM.one cov17
  refine L.va rfl (X.eql rfl rfl) ?_
  refine L.va rfl (X.pickT rfl (by conv => lhs; whnf)) ?_
  refine L.va rfl (X.move (by conv => lhs; whnf)) ?_
  -- case t25
  refine L.caseDecT (k := 25) rfl (by rfl) ?_
  refine L.va rfl (X.move (by conv => lhs; whnf)) ?_
  refine L.va rfl (X.move (by conv => lhs; whnf)) ?_
  -- callfn bushel/lattice.Steps
  refine L.call rfl en_47 rfl (lsteps (some ⟨b3, 0, none⟩) 3 3 [7, 3, 5] (some ⟨b4, 0, none⟩) 3 3 [9, 4, 2] w6 rv rs (by decide) (by decide)) ?_
  rintro e w7 ⟨A7, c7, o7, rfl, ho7, hS7, he7⟩
  refine ⟨_, rfl, ?_⟩
  obtain rfl := steps17 (by have := ho7.1; simpa [nums] using this) hS7
  -- buildSlice
  refine L.bslice (vs := [_, _, _]) rfl (Evs.cons (by conv => lhs; whnf) (Evs.cons (by conv => lhs; whnf) (Evs.cons (by conv => lhs; whnf) Evs.nil))) rfl rfl rfl rfl Try.underlying29 sz_3 zr_3 (by decide) ?_
  intro b8 w8 hb8 hs8 hk8 he8
  -- callfn bushel/bushelref16.Ints
  refine L.call rfl en_28 rfl (ints16 _ _ _ _ _ _ _ [-1, 0, 0] w8 (Reads.of_own (ho7.ext he8)) (blk_readsN (sz := 1) (q := 3) (l := nums .i64 [-1, 0, 0]) hk8 hk8.lt rfl) (by unfold maxLen; omega) (by unfold maxLen; omega)) ?_
  rintro e w9 ⟨rfl, he9⟩
  refine ⟨_, rfl, ?_⟩
  rw [eqI_self]
  refine L.va rfl (X.pickT rfl (by conv => lhs; whnf)) ?_
  refine L.va rfl (X.assign (by conv => lhs; whnf)) ?_
  refine L.nil ?_
  -- ret
  refine J.ret ?_
  refine fin1 ?_
  exact ⟨rfl, ((((he04.trans he5).trans he6).trans he7).trans he8).trans he9⟩
end Go.Proofs.Ytmnlaekcojblkaa
