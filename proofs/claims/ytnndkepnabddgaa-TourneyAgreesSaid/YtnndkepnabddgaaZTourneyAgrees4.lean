import Derived.Test.YtnndkepnabddgaaZTourneyAgrees3
/-
  What the law leans on, part 4: TouPlainC, WTouF, DifPlain, WCelG, WTouG, RowSet, WTouH, TmgPlain, TouPlainD, WTouI, CelIn, WTouJ, TmgPlainB, WCelL, AppFull, WCelN, WCelI, WTouB, Mark, TouAwake, LTourneyAgrees.
-/
namespace Go.Proofs.Ytnndkepnabddgaa
set_option maxRecDepth 100000
open Go.RowKit H
open HeapK
set_option linter.unusedVariables false
def tailC (s : Ces) : Ces := ⟨if s.c = 1 then s.A else s.A.map (·.add (1 * 4)), s.n - 1, s.c - 1, s.l.drop 1⟩
theorem tailC_at {s : Ces} {N : Nat} {w : World} (h : s.At N w) (hn : 0 < s.n) (hc : s.n ≤ s.c) : (tailC s).At N w := by
  have := h.r.cut (k := 1) (cap := s.c) (by omega) hc
  rw [flat_drop1] at this
  exact ⟨this, fun x hx => h.h x (List.mem_of_mem_drop hx), by show (s.l.drop 1).length = s.n - 1; rw [List.length_drop, h.l], by show s.n - 1 ≤ _; have := h.m; omega⟩
where
  flat_drop1 {l : List Ce} : (l.flatMap Ce.vs).drop (1 * 4) = (l.drop 1).flatMap Ce.vs := by
    cases l with
    | nil => rfl
    | cons x t => rfl
structure Hs (ls : List Ces) (l : List Int) : Prop where
  nd : l.Nodup
  hp : Heapk (kapH ls) 0 l.length l
  mem : ∀ x : Int, x ∈ l ↔ 0 ≤ x ∧ x < (ls.length : Int) ∧ Full ls x
theorem set_ne {ls : List Ces} {p q : Nat} {t : Ces} (h : p ≠ q) : (ls.set p t).getD q ces0 = ls.getD q ces0 := by
  rw [List.getD, List.getElem?_set_ne h, List.getD]
theorem set_eq {ls : List Ces} {p : Nat} {t : Ces} (h : p < ls.length) : (ls.set p t).getD p ces0 = t := by
  rw [List.getD, List.getElem?_set, if_pos rfl, if_pos h]
  rfl
theorem kap_set {ls : List Ces} {p : Nat} {t : Ces} {x : Int} (h : p ≠ x.toNat) : kapH (ls.set p t) x = kapH ls x := by
  unfold kapH
  rw [set_ne h]
theorem nodup_at {l : List Int} (h : l.Nodup) {i j : Nat} (hi : i < l.length) (hj : j < l.length) (e : l.getD i 0 = l.getD j 0) : i = j := by
  rw [List.getD, List.getElem?_eq_getElem hi, List.getD, List.getElem?_eq_getElem hj] at e
  have e : l[i] = l[j] := e
  rcases Nat.lt_trichotomy i j with g | g | g
  · exact absurd e (List.pairwise_iff_getElem.1 h i j hi hj g)
  · exact g
  · exact absurd e.symm (List.pairwise_iff_getElem.1 h j i hj hi g)
theorem mem_at {l : List Int} {i : Nat} (hi : i < l.length) : l.getD i 0 ∈ l := by rw [List.getD, List.getElem?_eq_getElem hi]; exact List.getElem_mem _
section
variable {ls : List Ces} {l : List Int} {p : Nat} {t : Ces}
theorem Hs.ne (h : Hs ls l) (hp : (p : Int) = l.getD 0 0) {i : Nat} (h0 : 0 < i) (hi : i < l.length) : p ≠ (l.getD i 0).toNat := by
  intro e
  have h1 := (h.mem _).1 (mem_at hi)
  have := nodup_at h.nd (i := 0) (j := i) (by omega) hi (by omega)
  omega
theorem Hs.fix (h : Hs ls l) (h0 : 0 < l.length) (hp : (p : Int) = l.getD 0 0) (ht : 0 < t.n) : Hs (ls.set p t) (siftDk (kapH (ls.set p t)) l.length l 0 l.length) := by
  have hpm := siftDk_perm (κ := kapH (ls.set p t)) l.length l 0 l.length (Nat.le_refl _)
  have pm := (h.mem _).1 (mem_at (i := 0) h0)
  refine ⟨hpm.symm.nodup h.nd, ?_, fun x => ?_⟩
  · rw [siftDk_length]
    refine siftDk_heap _ _ _ _ _ (Nat.le_refl _) (by omega) (fun k hk0 hkn _ hne => ?_) (fun h' => absurd h' (by omega))
    rw [kap_set (h.ne hp (by omega) (by omega)), kap_set (h.ne hp hk0 hkn)]
    exact h.hp k hk0 hkn (Nat.zero_le _)
  · rw [hpm.mem_iff, h.mem, List.length_set]
    unfold Full
    by_cases e : p = x.toNat
    · subst e
      rw [set_eq (by omega)]
      constructor
      · exact fun k => ⟨k.1, k.2.1, ht⟩
      · rintro ⟨k1, k2, _⟩
        have : x = l.getD 0 0 := by omega
        rw [this]
        exact pm
    · rw [set_ne e]
theorem Hs.pop (h : Hs ls l) (h0 : 0 < l.length) (hp : (p : Int) = l.getD 0 0) (ht : t.n = 0) : Hs (ls.set p t) ((siftDk (kapH (ls.set p t)) l.length (swp l 0 (l.length - 1)) 0 (l.length - 1)).take (l.length - 1)) := by
  have pm := (h.mem _).1 (mem_at (i := 0) h0)
  obtain ⟨m, hm⟩ : ∃ m, m = siftDk (kapH (ls.set p t)) l.length (swp l 0 (l.length - 1)) 0 (l.length - 1) := ⟨_, rfl⟩
  have lm : m.length = l.length := by rw [hm, siftDk_length, swp_length]
  have hpm : m.Perm l := by
    rw [hm]
    exact (siftDk_perm _ _ _ _ (by rw [swp_length]; omega)).trans (swp_perm l (by omega) (by omega))
  have hlast : m.getD (l.length - 1) 0 = l.getD 0 0 := by
    rw [hm, siftDk_past _ _ _ _ (by rw [swp_length]; omega) _ (Nat.le_refl _), swp_at l (by omega) (by omega), if_pos rfl]
  have hheap : Heapk (kapH (ls.set p t)) 0 (l.length - 1) m := by
    rw [hm]
    refine siftDk_heap _ _ _ _ _ (by rw [swp_length]; omega) (by omega) (fun k hk0 hkn _ hne => ?_) (fun h' => absurd h' (by omega))
    rw [swp_at l (by omega) (by omega), swp_at l (by omega) (by omega), if_neg (by omega), if_neg (by omega), if_neg (by omega), if_neg (by omega)]
    rw [kap_set (h.ne hp (by omega) (by omega)), kap_set (h.ne hp hk0 (by omega))]
    exact h.hp k hk0 (by omega) (Nat.zero_le _)
  rw [← hm]
  have em : m = m.take (l.length - 1) ++ [l.getD 0 0] := by
    have : m.take (l.length - 1 + 1) = m.take (l.length - 1) ++ [m.getD (l.length - 1) 0] := by
      rw [List.take_succ_eq_append_getElem (by omega), List.getD, List.getElem?_eq_getElem (by omega)]
      rfl
    rw [List.take_of_length_le (by omega), hlast] at this
    exact this
  have hnm : (m.take (l.length - 1) ++ [l.getD 0 0]).Nodup := by rw [← em]; exact hpm.symm.nodup h.nd
  have hn1 : (m.take (l.length - 1)).Nodup := List.Nodup.sublist (List.sublist_append_left ..) hnm
  refine ⟨hn1, ?_, fun x => ?_⟩
  · intro k hk0 hkn hlo
    rw [List.length_take] at hkn
    have e : ∀ i, i < l.length - 1 → (m.take (l.length - 1)).getD i 0 = m.getD i 0 := fun i hi => by
      rw [List.getD, List.getElem?_take_of_lt hi, List.getD]
    rw [e _ (by omega), e _ (by omega)]
    exact hheap k hk0 (by omega) hlo
  · rw [List.length_set]
    have hmx : x ∈ l ↔ x ∈ m.take (l.length - 1) ∨ x = l.getD 0 0 := by
      rw [← hpm.mem_iff]
      conv => lhs; rw [em]
      rw [List.mem_append, List.mem_singleton]
    have hno : l.getD 0 0 ∉ m.take (l.length - 1) := fun hh => by
      rw [List.nodup_append] at hnm
      exact hnm.2.2 _ hh _ (List.mem_singleton.2 rfl) rfl
    unfold Full
    by_cases e : p = x.toNat
    · subst e
      constructor
      · intro hx
        have h1 := (h.mem x).1 (hmx.2 (.inl hx))
        have : x = l.getD 0 0 := by omega
        rw [this] at hx
        exact absurd hx hno
      · rintro ⟨k1, k2, k3⟩
        rw [set_eq (by omega), ht] at k3
        exact absurd k3 (by omega)
    · rw [set_ne e]
      have hx0 : x ≠ l.getD 0 0 := fun hh => by rw [hh] at e; omega
      constructor
      · intro hx
        exact (h.mem x).1 (hmx.2 (.inl hx))
      · intro hx
        rcases hmx.1 ((h.mem x).2 hx) with k | k
        · exact k
        · exact absurd k hx0
end
end Go.Proofs.Ytnndkepnabddgaa
namespace Go.Proofs.Ytnndkepnabddgaa
set_option maxRecDepth 100000
open Go.RowKit H
open HeapK
set_option linter.unusedVariables false
namespace Hq
variable {ls : List Ces} {N d : Nat} {B a : Option Addr × Nat} {w w' : World} {l : List Int}
theorem put (h : Hq ls N d B a w l) (hb : Below N w w') (hC : TCh 48 w w') : Hq ls N d B a w' l := ⟨hC.blk h.hb (by decide), hC.own h.hf (by decide), hC.own h.hl (by decide), fun s hs => (h.hs s hs).low hb (Nat.le_refl _), h.hd, h.el, h.bn, h.bl⟩
def Nch (d : Nat) (B a : Option Addr × Nat) (g : Nat) : Prop := Tch d a g ∨ Value.ownBlock (.slice B.1 0 B.2) = some g
theorem next_ (h : Hq ls N d B a w l) (H : Hs ls l) (h0 : 0 < l.length) (hcp : ∀ s ∈ ls, s.n ≤ s.c) {p : Nat} (hp : (p : Int) = l.getD 0 0) : Calls Try.prog 17 #[.pointer (some ⟨d, 0, none⟩)] w fun e w' =>
    e = .returned ((ls.getD p ces0).l.getD 0 ce0).val ∧ (∃ l', Hq (ls.set p (tailC (ls.getD p ces0))) N d B a w' l' ∧ Hs (ls.set p (tailC (ls.getD p ces0))) l') ∧ Chg (Nch d B a) w w' := by
  have hb := h.hb
  have hr := Reads.of_own h.hf
  have hA := hr.some_ (by omega)
  have hrl := Reads.of_own h.hl
  have pm := (H.mem _).1 (mem_at (i := 0) h0)
  rw [← hp] at pm
  have hpl : p < ls.length := by omega
  have hB := hrl.some_ (by omega)
  obtain ⟨s, hs⟩ : ∃ s, s = ls.getD p ces0 := ⟨_, rfl⟩
  have gs := gtS (l := ls) (i := p) hpl
  have mem := memD (l := ls) (i := p) (d := ces0) hpl
  have ms := h.hs _ mem
  have mc := hcp _ mem
  have sn : 0 < (ls.getD p ces0).n := pm.2.2
  rw [← hs] at gs ms mc sn ⊢
  have ls1 := ms.l
  have g1 := gtX (l := s.l) (i := 0) (by omega)
  have hsA := ms.r.some_ (by omega)
  have lx : ∀ (w' : World), Ext w w' → Ld w' (pA B.1 p) (.slice s.A s.n s.c) := fun w' hw => by have h := Ld.flat2 cs_len (hrl.ext hw) gs (r := 0) rfl; rwa [Nat.mul_one] at h
  have eo : ∀ (w' : World), Ext w w' → Ld w' (pA a.1 0) (.int .i64 (p : Int)) := fun w' hw => by have h := Ld.num (hr.ext hw) (j := 0) h0; rwa [← hp] at h
  refine enter Try.func17 rfl (by kernel_rfl) ?_
  refine J.seq ?_
  refine J.region ?_
  refine L.alloc rfl zr_48 ?_
  intro b1 w1 hb1 hs1 hk1 he1
  have hb1' := hb.ext he1
  refine L.nil ?_
  refine J.seq ?_
  refine J.region ?_
  refine L.va rfl (X.move (by conv => lhs; whnf)) ?_
  refine L.va rfl (X.nilCheck rfl) ?_
  refine L.va rfl (X.fieldAddr rfl Try.underlying41 rfl sz_35 (by decide)) ?_
  refine L.va rfl (X.load rfl sc_35 (by first | exact Ld.blk hb1' rfl | exact hA | exact eo _ he1)) ?_
  refine L.va rfl (X.index1n (j := 0) rfl rfl Try.underlying35 sz_3 (by first | exact Option.some_ne_none _ | exact hA | exact eo _ he1) (by omega)) ?_
  refine L.va rfl (X.load rfl sc_3 (by first | exact Ld.blk hb1' rfl | exact hA | exact eo _ he1)) ?_
  refine L.va rfl (X.assign (by conv => lhs; whnf)) ?_
  refine L.nil ?_
  refine J.seq ?_
  refine J.region ?_
  refine L.va rfl (X.move (by conv => lhs; whnf)) ?_
  refine L.va rfl (X.nilCheck rfl) ?_
  refine L.va rfl (X.fieldAddr rfl Try.underlying41 rfl sz_22 (by decide)) ?_
  refine L.va rfl (X.load rfl sc_22 (by first | exact Ld.blk hb1' rfl | exact hB | exact hsA | exact lx _ he1)) ?_
  refine L.va rfl (X.move (by conv => lhs; whnf)) ?_
  refine L.va rfl ((by first | exact X.index1n rfl rfl Try.underlying22 sz_25 (by first | exact Option.some_ne_none _ | exact hB | exact hsA | exact lx _ he1) (by omega) | exact X.index1 rfl rfl Try.underlying22 sz_25 (by first | exact Option.some_ne_none _ | exact hB | exact hsA | exact lx _ he1) (by omega))) ?_
  refine L.va rfl (X.load rfl sc_25 (by first | exact Ld.blk hb1' rfl | exact hB | exact hsA | exact lx _ he1)) ?_
  refine L.va rfl (X.indexAddrn (j := 0) rfl rfl Try.underlying25 sz_48 (by first | exact Option.some_ne_none _ | exact hB | exact hsA | exact lx _ he1) (by omega)) ?_
  refine L.va rfl (X.loadRow (cs := (s.l.getD 0 ce0).vs) rfl (ms.r.ext he1) (fun r u hu => flat_row ce_len g1 r u hu) (Nat.zero_lt_succ _) Try.underlying48 rfl (by kernel_rfl)) ?_
  refine L.alloc rfl zr_48 ?_
  intro b4 w4 hb4 hs4 hk4 he4
  have he04 := he1.trans he4
  have hk1 := hk1.ext he4
  refine L.storeAgg (vs := [_, _, _, _]) rfl rfl rfl rfl sz_48 (hk4) rfl ?_
  intro w5 hk5 hg5 hs5
  have he5 : Ext w w5 := he04.grw hg5 (by intro g hg; injection hg with hg; omega)
  have hk15 := hk1.grown hg5 (fun e => by injection e with e; omega)
  have hb5 := hb.ext he5
  have hl5 := h.hl.ext he5
  refine L.nil ?_
  refine J.seq ?_
  refine J.draw (ℓ := 14) (S := Ext w5) mixed (fun w6 hS hS_h => ?_)
  refine D.va 0 rfl (by kernel_rfl) (fun _ _ _ h => h) rfl (fun w' hw => X.move (by conv => lhs; whnf)) hS ?_
  refine D.va 1 rfl (by kernel_rfl) (fun _ _ _ h => h) rfl (fun w' hw => X.nilCheck rfl) hS ?_
  refine D.va 2 rfl (by kernel_rfl) (fun _ _ _ h => h) rfl (fun w' hw => X.fieldAddr rfl Try.underlying41 rfl sz_22 (by decide)) hS ?_
  refine D.va 3 rfl (by kernel_rfl) (fun _ _ _ h => h) rfl (fun w' hw => X.load rfl sc_22 (by first | exact Ld.blk (hb5.ext hw) rfl | exact hB | exact lx _ (he5.trans hw))) hS ?_
  refine D.va 4 rfl (by kernel_rfl) (fun _ _ _ h => h) rfl (fun w' hw => X.move (by conv => lhs; whnf)) hS ?_
  refine D.va 5 rfl (by kernel_rfl) (fun _ _ _ h => h) rfl (fun w' hw => X.move (by conv => lhs; whnf)) hS ?_
  refine D.va 6 rfl (by kernel_rfl) (fun _ _ _ h => h) rfl (fun w' hw => X.nilCheck rfl) hS ?_
  refine D.va 7 rfl (by kernel_rfl) (fun _ _ _ h => h) rfl (fun w' hw => X.fieldAddr rfl Try.underlying41 rfl sz_22 (by decide)) hS ?_
  refine D.va 8 rfl (by kernel_rfl) (fun _ _ _ h => h) rfl (fun w' hw => X.load rfl sc_22 (by first | exact Ld.blk (hb5.ext hw) rfl | exact hB | exact lx _ (he5.trans hw))) hS ?_
  refine D.va 9 rfl (by kernel_rfl) (fun _ _ _ h => h) rfl (fun w' hw => X.move (by conv => lhs; whnf)) hS ?_
  refine D.va 10 rfl (by kernel_rfl) (fun _ _ _ h => h) rfl (fun w' hw => (by first | exact X.index1n rfl rfl Try.underlying22 sz_25 (by first | exact Option.some_ne_none _ | exact hB | exact lx _ (he5.trans hw)) (by omega) | exact X.index1 rfl rfl Try.underlying22 sz_25 (by first | exact Option.some_ne_none _ | exact hB | exact lx _ (he5.trans hw)) (by omega))) hS ?_
  refine D.va 11 rfl (by kernel_rfl) (fun _ _ _ h => h) rfl (fun w' hw => X.load rfl sc_25 (by first | exact Ld.blk (hb5.ext hw) rfl | exact hB | exact lx _ (he5.trans hw))) hS ?_
  refine D.va 12 rfl (by kernel_rfl) (fun _ _ _ h => h) rfl (fun w' hw => X.sliceFromn (i := 1) rfl rfl Try.underlying25 sz_48 (by omega)) hS ?_
  refine D.va 13 rfl (by kernel_rfl) (fun _ _ _ h => h) rfl (fun w' hw => (by first | exact X.index1n rfl rfl Try.underlying22 sz_25 (by first | exact Option.some_ne_none _ | exact hB | exact lx _ (he5.trans hw)) (by omega) | exact X.index1 rfl rfl Try.underlying22 sz_25 (by first | exact Option.some_ne_none _ | exact hB | exact lx _ (he5.trans hw)) (by omega))) hS ?_
  have hl6 := hl5.ext hS
  have z6 := h.lo
  refine D.one 14 (by kernel_rfl) rfl ?_
  refine L.storeO rfl rfl (by conv => lhs; whnf) rfl sz_25 (hl6) (by first | omega | (simp; omega)) ?_
  intro w7 hl7 hg7 hb7 hs7
  refine L.nil ?_
  refine ⟨fun h => absurd rfl h, ?_⟩
  have he6 := he5.trans hS
  have hC7 : TCh 25 w6 w7 := TCh.row hl6 hg7
  have hB7 : Below N w6 w7 := hb7
  have hset := flat_set (f := Ces.vs) (r := 0) (v := .slice (tailC s).A (tailC s).n (tailC s).c) (y := tailC s) cs_len ls p hpl (by omega) (by rfl)
  have hl7 : w7.ownsRow N 25 1 (.slice B.1 ls.length B.2) ls.length ((ls.set p (tailC s)).flatMap Ces.vs) := by
    rw [← hset, Nat.mul_one, Nat.add_zero]
    exact hl7
  have hb7' := hC7.blk (hb5.ext hS) (by decide)
  have hk17 := hC7.blk (hk15.ext hS) (by decide)
  have hk57 := hC7.blk (hk5.ext hS) (by decide)
  have hn' : (ls.set p (tailC s)).length = ls.length := List.length_set
  have hQ : Hq (ls.set p (tailC s)) N d B a w7 l := by
    refine ⟨by rw [hn']; exact hb7', hC7.own (h.hf.ext he6) (by decide), by rw [hn']; exact hl7, fun t ht => ?_, h.hd, by rw [hn']; exact h.el, by rw [hn']; exact h.bn, by rw [hn']; exact h.bl⟩
    rcases List.mem_or_eq_of_mem_set ht with ht | rfl
    · exact ((h.hs t ht).ext he6).low hB7 (Nat.le_refl _)
    · exact (tailC_at (ms.ext he6) sn mc).low hB7 (Nat.le_refl _)
  have g7 : (ls.set p (tailC s))[p]? = some (tailC s) := by rw [List.getElem?_set, if_pos rfl, if_pos hpl]
  have lx7 : Ld w7 (pA B.1 p) (.slice (tailC s).A (tailC s).n (tailC s).c) := by have h := Ld.flat2 cs_len (Reads.of_own hl7) g7 (r := 0) rfl; rwa [Nat.mul_one] at h
  have hG7 : Chg (Nch d B a) w w7 := (Chg.of_ext he6).trans (Chg.of_grown hg7 (S := Nch d B a) fun g hg => .inr ((own_n _ _ _ _).trans hg)) fun _ _ hh => hh
  refine D.done (by kernel_rfl) ?_
  replace hb5 := hb5.ext hS
  refine J.seq ?_
  refine J.seq ?_
  refine J.region ?_
  refine L.va rfl (X.move (by conv => lhs; whnf)) ?_
  refine L.va rfl (X.nilCheck rfl) ?_
  refine L.va rfl (X.fieldAddr rfl Try.underlying41 rfl sz_22 (by decide)) ?_
  refine L.va rfl (X.load rfl sc_22 (by first | exact Ld.blk hb7' rfl | exact hB | exact lx7)) ?_
  refine L.va rfl (X.move (by conv => lhs; whnf)) ?_
  refine L.va rfl ((by first | exact X.index1n rfl rfl Try.underlying22 sz_25 (by first | exact Option.some_ne_none _ | exact hB | exact lx7) (by omega) | exact X.index1 rfl rfl Try.underlying22 sz_25 (by first | exact Option.some_ne_none _ | exact hB | exact lx7) (by omega))) ?_
  refine L.va rfl (X.load rfl sc_25 (by first | exact Ld.blk hb7' rfl | exact hB | exact lx7)) ?_
  refine L.va rfl (X.len rfl Try.underlying25) ?_
  refine L.va rfl (X.eql rfl rfl) ?_
  refine L.nil ?_
  have hl0 : (ls.set p (tailC s)).getD p ces0 = tailC s := set_eq hpl
  have hfull : ∀ q, 0 < q → q < l.length → Full (ls.set p (tailC s)) (l.getD q 0) := fun q hq0 hq => by
    unfold Full
    rw [set_ne (H.ne hp hq0 hq)]
    exact ((H.mem _).1 (mem_at hq)).2.2
  have hnc : ∀ g, w.heap.size ≤ g → ¬ Tch d a g := fun g hg hT => by
    rcases hT with rfl | hT
    · have := hb.lt; omega
    · have := (h.hf.lt g ((own_n _ _ _ _).trans hT)).2; omega
  refine J.dec rfl (fun hz => ?_) (fun hz => ?_)
  · have hz : (tailC s).n = 0 := by omega
    have c1 := (kit (ls.set p (tailC s)) N d B a).pop_ hQ h0 hfull
    refine J.region ?_
    refine L.va rfl (X.move (by conv => lhs; whnf)) ?_
    refine L.va rfl (X.mkI rfl Try.underlying39 rfl) ?_
    refine L.call rfl en_30 rfl (c1) ?_
    rintro e w8 ⟨rfl, hQ8, hC8⟩
    refine ⟨_, rfl, ?_⟩
    have hk18 := hC8.blk hk17 (hnc _ (by omega))
    have hk58 := hC8.blk hk57 (hnc _ (by omega))
    refine L.nil ?_
    refine J.seq ?_
    refine J.region ?_
    refine L.va rfl (X.loadAgg rfl (range_l hk58) Try.underlying48 rfl (by kernel_rfl)) ?_
    refine L.storeAgg (vs := [_, _, _, _]) rfl rfl rfl rfl sz_48 (hk18) rfl ?_
    intro w9 hk9 hg9 hs9
    have hC9 : TCh 48 w8 w9 := TCh.put hk18 hg9
    have hB9 : Below N w8 w9 := Chg.below (.of_grown hg9 (S := fun g => g = b1) (fun g hg => by injection hg with hg; exact hg.symm)) hQ8.lo (fun g hg => by omega)
    have hQ9 := hQ8.put hB9 hC9
    refine L.nil ?_
    refine J.ret ?_
    refine finC rfl (run_cell hk9 Try.underlying48 rfl (by kernel_rfl)) ?_
    exact ⟨rfl, ⟨_, hQ9, H.pop h0 hp hz⟩, (hG7.trans hC8 fun _ _ hh => .inl hh).trans (Chg.of_grown hg9 (S := (· = b1)) fun g hg => by injection hg with hg; exact hg.symm) fun g hg e => by omega⟩
  · have hz : 0 < (tailC s).n := by omega
    have hfull0 : ∀ q, q < l.length → Full (ls.set p (tailC s)) (l.getD q 0) := fun q hq => by
      rcases Nat.eq_zero_or_pos q with rfl | hq0
      · unfold Full
        rw [← hp, Int.toNat_natCast, hl0]
        exact hz
      · exact hfull q hq0 hq
    have c1 := (kit (ls.set p (tailC s)) N d B a).fix_ hQ h0 hfull0
    refine J.region ?_
    refine L.va rfl (X.move (by conv => lhs; whnf)) ?_
    refine L.va rfl (X.mkI rfl Try.underlying39 rfl) ?_
    refine L.call rfl en_29 rfl (c1) ?_
    rintro e w8 ⟨rfl, hQ8, hC8⟩
    refine ⟨_, rfl, ?_⟩
    have hk18 := hC8.blk hk17 (hnc _ (by omega))
    have hk58 := hC8.blk hk57 (hnc _ (by omega))
    refine L.nil ?_
    refine J.seq ?_
    refine J.region ?_
    refine L.va rfl (X.loadAgg rfl (range_l hk58) Try.underlying48 rfl (by kernel_rfl)) ?_
    refine L.storeAgg (vs := [_, _, _, _]) rfl rfl rfl rfl sz_48 (hk18) rfl ?_
    intro w9 hk9 hg9 hs9
    have hC9 : TCh 48 w8 w9 := TCh.put hk18 hg9
    have hB9 : Below N w8 w9 := Chg.below (.of_grown hg9 (S := fun g => g = b1) (fun g hg => by injection hg with hg; exact hg.symm)) hQ8.lo (fun g hg => by omega)
    have hQ9 := hQ8.put hB9 hC9
    refine L.nil ?_
    refine J.ret ?_
    refine finC rfl (run_cell hk9 Try.underlying48 rfl (by kernel_rfl)) ?_
    exact ⟨rfl, ⟨_, hQ9, H.fix h0 hp hz⟩, (hG7.trans hC8 fun _ _ hh => .inl hh).trans (Chg.of_grown hg9 (S := (· = b1)) fun g hg => by injection hg with hg; exact hg.symm) fun g hg e => by omega⟩
end Hq
end Go.Proofs.Ytnndkepnabddgaa
namespace Go.Proofs.Ytnndkepnabddgaa
open Go.RowKit
set_option linter.unusedVariables false
namespace Dfp
abbrev Ris (l : List (Int × Int)) : Prop := l.Pairwise fun p q => p.1 < q.1
abbrev RisC (l : List Ce) : Prop := l.Pairwise fun x y => x.key < y.key
theorem ris_eq : ∀ {l m : List (Int × Int)}, Ris l → Ris m → (∀ x, x ∈ l ↔ x ∈ m) → l = m
  | [], [], _, _, _ => rfl
  | [], b :: t, _, _, h => absurd ((h b).2 (by simp)) (by simp)
  | a :: s, [], _, _, h => absurd ((h a).1 (by simp)) (by simp)
  | a :: s, b :: t, hl, hm, h => by
    have hl' := List.pairwise_cons.1 hl
    have hm' := List.pairwise_cons.1 hm
    have hab : a = b := by
      rcases List.mem_cons.1 ((h a).1 (by simp)) with h1 | h1
      · exact h1
      · rcases List.mem_cons.1 ((h b).2 (by simp)) with h2 | h2
        · exact h2.symm
        · have := hm'.1 a h1
          have := hl'.1 b h2
          omega
    subst hab
    rw [ris_eq hl'.2 hm'.2 fun x => ?_]
    constructor
    · intro hx
      rcases List.mem_cons.1 ((h x).1 (by simp [hx])) with h1 | h1
      · subst h1
        have := hl'.1 x hx
        omega
      · exact h1
    · intro hx
      rcases List.mem_cons.1 ((h x).2 (by simp [hx])) with h1 | h1
      · subst h1
        have := hm'.1 x hx
        omega
      · exact h1
theorem ris_of {l : List Ce} (h : rise l = true) : RisC l := by
  rw [rise_at] at h
  have key : ∀ i j, i < j → j < l.length → (l.getD i ce0).key < (l.getD j ce0).key := by
    intro i j hij
    induction j with
    | zero => omega
    | succ j ih =>
      intro hj
      rcases Nat.lt_or_ge i j with h1 | h1
      · exact Int.lt_trans (ih h1 (by omega)) (h j hj)
      · obtain rfl : i = j := by omega
        exact h i hj
  rw [RisC, List.pairwise_iff_getElem]
  intro i j hi hj hij
  have := key i j hij hj
  rw [List.getD, List.getD, List.getElem?_eq_getElem hi, List.getElem?_eq_getElem hj] at this
  exact this
def Becomes (sm : Ce → Ce → Bool) (a b : List Ce) (p : Int × Int) : Prop :=
  (p.2 = 1 ∧ (∃ x ∈ a, x.key = p.1) ∧ ∀ y ∈ b, y.key ≠ p.1) ∨ (p.2 = 2 ∧ (∃ y ∈ b, y.key = p.1) ∧ ∀ x ∈ a, x.key ≠ p.1) ∨ (p.2 = 3 ∧ ∃ x ∈ a, ∃ y ∈ b, x.key = p.1 ∧ y.key = p.1 ∧ sm x y = false)
theorem becomes_key {sm : Ce → Ce → Bool} {a b : List Ce} {p : Int × Int} (h : Becomes sm a b p) : (∃ x ∈ a, x.key = p.1) ∨ ∃ y ∈ b, y.key = p.1 := by
  rcases h with ⟨_, h, _⟩ | ⟨_, h, _⟩ | ⟨_, x, hx, y, hy, h1, h2, _⟩
  · exact .inl h
  · exact .inr h
  · exact .inl ⟨x, hx, h1⟩
theorem merge_ok (sm : Ce → Ce → Bool) (a b : List Ce) (ha : RisC a) (hb : RisC b) : Ris (mergeD sm a b) ∧ ∀ p, p ∈ mergeD sm a b ↔ Becomes sm a b p := by
  induction a, b using mergeD.induct with
  | case1 =>
    rw [mergeD]
    refine ⟨List.Pairwise.nil, fun p => ?_⟩
    unfold Becomes
    simp
  | case2 x a ih =>
    rw [mergeD]
    obtain ⟨hx, ha'⟩ := List.pairwise_cons.1 ha
    obtain ⟨i1, i2⟩ := ih ha' hb
    refine ⟨List.pairwise_cons.2 ⟨fun q hq => ?_, i1⟩, fun p => ?_⟩
    · rcases becomes_key ((i2 q).1 hq) with ⟨z, hz, e⟩ | ⟨z, hz, e⟩
      · have := hx z hz
        show x.key < q.1
        omega
      · cases hz
    · rw [List.mem_cons, i2]
      unfold Becomes
      obtain ⟨p1, p2⟩ := p
      simp only [Prod.mk.injEq]
      grind
  | case3 y b ih =>
    rw [mergeD]
    obtain ⟨hy, hb'⟩ := List.pairwise_cons.1 hb
    obtain ⟨i1, i2⟩ := ih ha hb'
    refine ⟨List.pairwise_cons.2 ⟨fun q hq => ?_, i1⟩, fun p => ?_⟩
    · rcases becomes_key ((i2 q).1 hq) with ⟨z, hz, e⟩ | ⟨z, hz, e⟩
      · cases hz
      · have := hy z hz
        show y.key < q.1
        omega
    · rw [List.mem_cons, i2]
      unfold Becomes
      obtain ⟨p1, p2⟩ := p
      simp only [Prod.mk.injEq]
      grind
  | case4 x a y b h ih =>
    rw [mergeD, if_pos h]
    obtain ⟨hx, ha'⟩ := List.pairwise_cons.1 ha
    obtain ⟨hy, hb'⟩ := List.pairwise_cons.1 hb
    obtain ⟨i1, i2⟩ := ih ha' hb
    refine ⟨List.pairwise_cons.2 ⟨fun q hq => ?_, i1⟩, fun p => ?_⟩
    · show x.key < q.1
      rcases becomes_key ((i2 q).1 hq) with ⟨z, hz, e⟩ | ⟨z, hz, e⟩
      · have := hx z hz
        omega
      · rcases List.mem_cons.1 hz with rfl | hz
        · omega
        · have := hy z hz
          omega
    · rw [List.mem_cons, i2]
      unfold Becomes
      obtain ⟨p1, p2⟩ := p
      simp only [Prod.mk.injEq]
      grind
  | case5 x a y b h1 h2 ih =>
    rw [mergeD, if_neg h1, if_pos h2]
    obtain ⟨hx, ha'⟩ := List.pairwise_cons.1 ha
    obtain ⟨hy, hb'⟩ := List.pairwise_cons.1 hb
    obtain ⟨i1, i2⟩ := ih ha hb'
    refine ⟨List.pairwise_cons.2 ⟨fun q hq => ?_, i1⟩, fun p => ?_⟩
    · show y.key < q.1
      rcases becomes_key ((i2 q).1 hq) with ⟨z, hz, e⟩ | ⟨z, hz, e⟩
      · rcases List.mem_cons.1 hz with rfl | hz
        · omega
        · have := hx z hz
          omega
      · have := hy z hz
        omega
    · rw [List.mem_cons, i2]
      unfold Becomes
      obtain ⟨p1, p2⟩ := p
      simp only [Prod.mk.injEq]
      grind
  | case6 x a y b h1 h2 ih =>
    rw [mergeD, if_neg h1, if_neg h2]
    obtain ⟨hx, ha'⟩ := List.pairwise_cons.1 ha
    obtain ⟨hy, hb'⟩ := List.pairwise_cons.1 hb
    obtain ⟨i1, i2⟩ := ih ha' hb'
    have hk : x.key = y.key := by omega
    refine ⟨?_, fun p => ?_⟩
    · rw [Ris, List.pairwise_append]
      refine ⟨by split <;> simp, i1, fun q hq r hr => ?_⟩
      have e : q = (x.key, 3) := by
        split at hq
        · cases hq
        · simpa using hq
      rw [e]
      show x.key < r.1
      rcases becomes_key ((i2 r).1 hr) with ⟨z, hz, e⟩ | ⟨z, hz, e⟩
      · have := hx z hz
        omega
      · have := hy z hz
        omega
    · rw [List.mem_append, i2]
      unfold Becomes
      obtain ⟨p1, p2⟩ := p
      cases hs : sm x y <;> grind
def Part (sm : Ce → Ce → Bool) (a b : List Ce) (i j : Nat) (p : Int × Int) : Prop :=
  (p.2 = 1 ∧ (∃ x ∈ a.take i, x.key = p.1) ∧ ∀ y ∈ b, y.key ≠ p.1) ∨ (p.2 = 2 ∧ (∃ y ∈ b.take j, y.key = p.1) ∧ ∀ x ∈ a, x.key ≠ p.1) ∨ (p.2 = 3 ∧ ∃ x ∈ a.take i, ∃ y ∈ b, x.key = p.1 ∧ y.key = p.1 ∧ sm x y = false)
structure PartL (sm : Ce → Ce → Bool) (a b : List Ce) (i j : Nat) (o : List (Int × Int)) : Prop where
  up : Ris o
  mem : ∀ p, p ∈ o ↔ Part sm a b i j p
variable {sm : Ce → Ce → Bool} {a b : List Ce} {i j : Nat} {o : List (Int × Int)}
theorem PartL.all (h : PartL sm a b a.length b.length o) (ha : RisC a) (hb : RisC b) : o = mergeD sm a b := by
  obtain ⟨m1, m2⟩ := merge_ok sm a b ha hb
  refine ris_eq h.up m1 fun p => ?_
  rw [h.mem, m2]
  unfold Part Becomes
  rw [List.take_length, List.take_length]
theorem take_one {l : List Ce} {i : Nat} (h : i < l.length) : l.take (i + 1) = l.take i ++ [l.getD i ce0] := by
  rw [List.take_succ_eq_append_getElem h, List.getD, List.getElem?_eq_getElem h]
  rfl
theorem before {l : List Ce} (hl : RisC l) {i : Nat} (h : i < l.length) : ∀ x ∈ l.take i, x.key ≠ (l.getD i ce0).key := fun x hx => by
  obtain ⟨k, hk, rfl⟩ := List.getElem_of_mem hx
  rw [List.length_take] at hk
  have := List.pairwise_iff_getElem.1 hl k i (by omega) h (by omega)
  rw [List.getElem_take, List.getD, List.getElem?_eq_getElem h]
  show (l[k]).key ≠ (l[i]).key
  omega
end Dfp
end Go.Proofs.Ytnndkepnabddgaa
namespace Go.Proofs.Ytnndkepnabddgaa
set_option maxRecDepth 100000
open Go.RowKit H
open Dfp
set_option linter.unusedVariables false
theorem crising {w : World} {N : Nat} (A : Option Addr) (c : Nat) (l : List Ce) (hr : Reads w N 4 A l.length (l.flatMap Ce.vals)) (hN : N ≤ w.heap.size) (hm : l.length ≤ 1000000) : Calls Try.prog 23 #[.slice A l.length c] w fun e w' => e = .returned (.bool (rise l)) ∧ Ext w w' := by
  refine enter Try.func23 rfl (by kernel_rfl) ?_
  refine J.seq ?_
  refine J.region ?_
  refine L.va rfl (X.assign (by conv => lhs; whnf)) ?_
  refine L.nil ?_
  refine J.seq ?_
  refine J.seq ?_
  refine J.region ?_
  refine L.va rfl (X.assign (by conv => lhs; whnf)) ?_
  refine L.nil ?_
  refine J.block ?_
  refine J.loop (X := Nat) [2, 3, 4, 5, 6, 7, 8, 9, 10, 11, 12, 13, 14, 15, 16, 17, 18, 19, 20, 21] (fun i => [(3, .int .i64 (i : Int))]) (fun i w' => 1 ≤ i ∧ (i ≤ l.length ∨ l.length = 0 ∧ i = 1) ∧ Ext w w' ∧ ∀ j, j + 1 < i → (l.getD j ce0).key < (l.getD (j + 1) ce0).key) (fun i => l.length + 1 - i) (1) (At1 (by first | rfl | exact at_int rfl (by omega) | exact at_slice rfl (by omega) | exact at_int rfl (by simp))) ?_ ?_
  · exact ⟨by omega, by omega, Ext.refl _, fun j hj => by omega⟩
  · rintro i g w2 ⟨h1, hi, he, hall⟩
    have hr2 := hr.low (Below.mono he hN) (Nat.le_refl _)
    have z := he.le
    refine J.seq ?_
    refine J.seq ?_
    refine J.region ?_
    refine L.va rfl (X.move (by conv => lhs; whnf)) ?_
    refine L.va rfl (X.move (by conv => lhs; whnf)) ?_
    refine L.va rfl (X.len rfl Try.underlying25) ?_
    refine L.va rfl (X.lss rfl rfl) ?_
    refine L.nil ?_
    refine J.dec rfl (fun hlt => ?_) (fun hlt => ?_)
    · have hil : i < l.length := by omega
      have hA := hr2.some_ (by omega)
      obtain ⟨j, rfl⟩ : ∃ j, i = j + 1 := ⟨i - 1, by omega⟩
      have gi := gtX hil
      have gj := gtX (show j < l.length by omega)
      have hrow1 := fun (w' : World) (hw : Ext w2 w') => hr2.low (Below.mono hw (by omega)) (Nat.le_refl _)
      generalize hx : l.getD (j + 1) ce0 = x at *
      generalize hy : l.getD j ce0 = y at *
      have kx : x.key = (x.k : Int) := rfl
      have ky : y.key = (y.k : Int) := rfl
      refine J.skip ?_
      refine J.seq ?_
      refine J.block ?_
      refine J.seq ?_
      refine J.quiet mixed (by kernel_rfl) ?_
      refine Qt.va rfl (fun w' hw => X.move (by conv => lhs; whnf)) ?_
      refine Qt.va rfl (fun w' hw => X.move (by conv => lhs; whnf)) ?_
      refine Qt.va rfl (fun w' hw => (by first | exact X.indexAddrn rfl rfl Try.underlying25 sz_48 (by first | exact Option.some_ne_none _ | exact hA) (by omega) | exact X.indexAddr rfl rfl Try.underlying25 sz_48 (by first | exact Option.some_ne_none _ | exact hA) (by omega))) ?_
      refine Qt.va rfl (fun w' hw => X.fieldP rfl Try.underlying48 rfl sz_44 (by decide) (by first | exact Option.some_ne_none _ | exact hA)) ?_
      refine Qt.va rfl (fun w' hw => X.load rfl sc_44 (Ld.flat2 ce_len (hrow1 w' hw) gi (r := 0) rfl)) ?_
      refine Qt.va rfl (fun w' hw => X.move (by conv => lhs; whnf)) ?_
      refine Qt.va rfl (fun w' hw => X.move (by conv => lhs; whnf)) ?_
      refine Qt.va rfl (fun w' hw => X.sub rfl rfl (by omega)) ?_
      refine Qt.va rfl (fun w' hw => X.indexAddrn (j := j) rfl (show Value.int .i64 (((j + 1 : Nat) : Int) - 1) = _ by rw [show (((j + 1 : Nat) : Int) - 1) = (j : Int) by omega]) Try.underlying25 sz_48 hA (by omega)) ?_
      refine Qt.va rfl (fun w' hw => X.fieldP rfl Try.underlying48 rfl sz_44 (by decide) hA) ?_
      refine Qt.va rfl (fun w' hw => X.load rfl sc_44 (Ld.flat2 ce_len (hrow1 w' hw) gj (r := 0) rfl)) ?_
      refine Qt.va rfl (fun w' hw => X.leq rfl rfl) ?_
      refine Qt.nil (fun w3 hq => ?_)
      have he3 := he.trans hq
      refine J.dec rfl (fun hle => ?_) (fun hle => ?_)
      · have e : rise l = false := by
          rw [← Bool.not_eq_true, rise_at]
          intro h
          have := h j hil
          rw [hx, hy] at this
          omega
        rw [e]
        refine J.seq ?_
        refine J.region ?_
        refine L.va rfl (X.assign (by conv => lhs; whnf)) ?_
        refine L.nil ?_
        refine J.ret ?_
        refine inB_ret <|  thn_ret <|  thn_ret <|  inB_ret <|  thn_ret <| ?_
        refine fin1 ?_
        exact ⟨rfl, he3⟩
      · refine J.skip ?_
        refine J.region ?_
        refine L.va rfl (X.move (by conv => lhs; whnf)) ?_
        refine L.va rfl (X.add rfl rfl (by omega)) ?_
        refine L.va rfl (X.assign (by conv => lhs; whnf)) ?_
        refine L.nil ?_
        refine ⟨(j + 1) + 1, At1 (by first | rfl | exact at_int rfl (by omega) | exact at_slice rfl (by omega) | exact at_int rfl (by simp)), (by (iterate 19 refine Agr.lk rfl ?_); exact Agr.lk rfl (Agr.hav rfl Agr.rfl')), ?_⟩
        refine ⟨⟨by omega, by omega, he3, fun k hk => ?_⟩, by omega⟩
        rcases Nat.lt_or_ge k j with h2 | h2
        · exact hall k (by omega)
        · obtain rfl : k = j := by omega
          rw [hx, hy]
          omega
    · have e : rise l = true := by
        rw [rise_at]
        intro j hj
        exact hall j (by omega)
      rw [e]
      refine J.exit ?_
      refine J.seq ?_
      refine J.region ?_
      refine L.va rfl (X.assign (by conv => lhs; whnf)) ?_
      refine L.nil ?_
      refine J.ret ?_
      refine fin1 ?_
      exact ⟨rfl, he⟩
end Go.Proofs.Ytnndkepnabddgaa
namespace Go.Proofs.Ytnndkepnabddgaa
set_option maxRecDepth 100000
open Go.RowKit H
open Dfp
set_option linter.unusedVariables false
theorem trising {w : World} {N : Nat} (A : Option Addr) (c : Nat) (l : List Ce) (hr : Reads w N 4 A l.length (l.flatMap Ce.vals)) (hN : N ≤ w.heap.size) (hm : l.length ≤ 1000000) : Calls Try.prog 14 #[.slice A l.length c] w fun e w' => e = .returned (.bool (rise l)) ∧ Ext w w' := by
  refine enter Try.func14 rfl (by kernel_rfl) ?_
  refine J.seq ?_
  refine J.region ?_
  refine L.va rfl (X.assign (by conv => lhs; whnf)) ?_
  refine L.nil ?_
  refine J.seq ?_
  refine J.seq ?_
  refine J.region ?_
  refine L.va rfl (X.assign (by conv => lhs; whnf)) ?_
  refine L.nil ?_
  refine J.block ?_
  refine J.loop (X := Nat) [2, 3, 4, 5, 6, 7, 8, 9, 10, 11, 12, 13, 14, 15, 16, 17, 18, 19, 20, 21] (fun i => [(3, .int .i64 (i : Int))]) (fun i w' => 1 ≤ i ∧ (i ≤ l.length ∨ l.length = 0 ∧ i = 1) ∧ Ext w w' ∧ ∀ j, j + 1 < i → (l.getD j ce0).key < (l.getD (j + 1) ce0).key) (fun i => l.length + 1 - i) (1) (At1 (by first | rfl | exact at_int rfl (by omega) | exact at_slice rfl (by omega) | exact at_int rfl (by simp))) ?_ ?_
  · exact ⟨by omega, by omega, Ext.refl _, fun j hj => by omega⟩
  · rintro i g w2 ⟨h1, hi, he, hall⟩
    have hr2 := hr.low (Below.mono he hN) (Nat.le_refl _)
    have z := he.le
    refine J.seq ?_
    refine J.seq ?_
    refine J.region ?_
    refine L.va rfl (X.move (by conv => lhs; whnf)) ?_
    refine L.va rfl (X.move (by conv => lhs; whnf)) ?_
    refine L.va rfl (X.len rfl Try.underlying25) ?_
    refine L.va rfl (X.lss rfl rfl) ?_
    refine L.nil ?_
    refine J.dec rfl (fun hlt => ?_) (fun hlt => ?_)
    · have hil : i < l.length := by omega
      have hA := hr2.some_ (by omega)
      obtain ⟨j, rfl⟩ : ∃ j, i = j + 1 := ⟨i - 1, by omega⟩
      have gi := gtX hil
      have gj := gtX (show j < l.length by omega)
      have hrow1 := fun (w' : World) (hw : Ext w2 w') => hr2.low (Below.mono hw (by omega)) (Nat.le_refl _)
      generalize hx : l.getD (j + 1) ce0 = x at *
      generalize hy : l.getD j ce0 = y at *
      have kx : x.key = (x.k : Int) := rfl
      have ky : y.key = (y.k : Int) := rfl
      refine J.skip ?_
      refine J.seq ?_
      refine J.block ?_
      refine J.seq ?_
      refine J.quiet mixed (by kernel_rfl) ?_
      refine Qt.va rfl (fun w' hw => X.move (by conv => lhs; whnf)) ?_
      refine Qt.va rfl (fun w' hw => X.move (by conv => lhs; whnf)) ?_
      refine Qt.va rfl (fun w' hw => (by first | exact X.indexAddrn rfl rfl Try.underlying25 sz_48 (by first | exact Option.some_ne_none _ | exact hA) (by omega) | exact X.indexAddr rfl rfl Try.underlying25 sz_48 (by first | exact Option.some_ne_none _ | exact hA) (by omega))) ?_
      refine Qt.va rfl (fun w' hw => X.fieldP rfl Try.underlying48 rfl sz_44 (by decide) (by first | exact Option.some_ne_none _ | exact hA)) ?_
      refine Qt.va rfl (fun w' hw => X.load rfl sc_44 (Ld.flat2 ce_len (hrow1 w' hw) gi (r := 0) rfl)) ?_
      refine Qt.va rfl (fun w' hw => X.move (by conv => lhs; whnf)) ?_
      refine Qt.va rfl (fun w' hw => X.move (by conv => lhs; whnf)) ?_
      refine Qt.va rfl (fun w' hw => X.sub rfl rfl (by omega)) ?_
      refine Qt.va rfl (fun w' hw => X.indexAddrn (j := j) rfl (show Value.int .i64 (((j + 1 : Nat) : Int) - 1) = _ by rw [show (((j + 1 : Nat) : Int) - 1) = (j : Int) by omega]) Try.underlying25 sz_48 hA (by omega)) ?_
      refine Qt.va rfl (fun w' hw => X.fieldP rfl Try.underlying48 rfl sz_44 (by decide) hA) ?_
      refine Qt.va rfl (fun w' hw => X.load rfl sc_44 (Ld.flat2 ce_len (hrow1 w' hw) gj (r := 0) rfl)) ?_
      refine Qt.va rfl (fun w' hw => X.leq rfl rfl) ?_
      refine Qt.nil (fun w3 hq => ?_)
      have he3 := he.trans hq
      refine J.dec rfl (fun hle => ?_) (fun hle => ?_)
      · have e : rise l = false := by
          rw [← Bool.not_eq_true, rise_at]
          intro h
          have := h j hil
          rw [hx, hy] at this
          omega
        rw [e]
        refine J.seq ?_
        refine J.region ?_
        refine L.va rfl (X.assign (by conv => lhs; whnf)) ?_
        refine L.nil ?_
        refine J.ret ?_
        refine inB_ret <|  thn_ret <|  thn_ret <|  inB_ret <|  thn_ret <| ?_
        refine fin1 ?_
        exact ⟨rfl, he3⟩
      · refine J.skip ?_
        refine J.region ?_
        refine L.va rfl (X.move (by conv => lhs; whnf)) ?_
        refine L.va rfl (X.add rfl rfl (by omega)) ?_
        refine L.va rfl (X.assign (by conv => lhs; whnf)) ?_
        refine L.nil ?_
        refine ⟨(j + 1) + 1, At1 (by first | rfl | exact at_int rfl (by omega) | exact at_slice rfl (by omega) | exact at_int rfl (by simp)), (by (iterate 19 refine Agr.lk rfl ?_); exact Agr.lk rfl (Agr.hav rfl Agr.rfl')), ?_⟩
        refine ⟨⟨by omega, by omega, he3, fun k hk => ?_⟩, by omega⟩
        rcases Nat.lt_or_ge k j with h2 | h2
        · exact hall k (by omega)
        · obtain rfl : k = j := by omega
          rw [hx, hy]
          omega
    · have e : rise l = true := by
        rw [rise_at]
        intro j hj
        exact hall j (by omega)
      rw [e]
      refine J.exit ?_
      refine J.seq ?_
      refine J.region ?_
      refine L.va rfl (X.assign (by conv => lhs; whnf)) ?_
      refine L.nil ?_
      refine J.ret ?_
      refine fin1 ?_
      exact ⟨rfl, he⟩
end Go.Proofs.Ytnndkepnabddgaa
namespace Go.Proofs.Ytnndkepnabddgaa.H
open Go.RowKit Go.Proofs.Ytnndkepnabddgaa
set_option linter.unusedSimpArgs false
set_option linter.unusedVariables false
theorem flat_splice {X : Type} {f : X → List Value} {sz : Nat} (h : ∀ x, (f x).length = sz) {y : X} : ∀ (l : List X) (i : Nat), i < l.length → (l.flatMap f).take (i * sz) ++ f y ++ (l.flatMap f).drop (i * sz + sz) = (l.set i y).flatMap f
  | x :: t, 0, hi => by
    have hx := h x
    rw [List.set_cons_zero, List.flatMap_cons, List.flatMap_cons, Nat.zero_mul, Nat.zero_add, List.take_zero, List.nil_append, ← hx, List.drop_left]
  | x :: t, i + 1, hi => by
    have hx := h x
    have ih := flat_splice h (y := y) t i (by simpa using hi)
    rw [List.set_cons_succ, List.flatMap_cons, List.flatMap_cons, ← ih, show (i + 1) * sz = (f x).length + i * sz by rw [hx, Nat.succ_mul, Nat.add_comm], List.take_length_add_append, Nat.add_assoc, List.drop_length_add_append]
    simp only [List.append_assoc]
section
variable {P : Program} {n : Nat} {ops rest : List Oper} {Q : Exit → Fr → World → Prop} {fr : Fr} {w w' : World} {d : Option Tmp} {ty : TypeId} {pos : String} {aft : Array Edge} {g : Option (Nat × Bool)} {x y : Operand} {t e : TypeId}
theorem L.storeOC {X : Type} {f : X → List Value} {A : Option Addr} {n' c i base size : Nat} {l : List X} {z : X} (hf : ∀ x, (f x).length = size) (hg : wn ops fr g = true) (hx : ev fr x = pA A (i * size)) (hy : ev fr y = .agg (f z).toArray) (h1 : ((f z).all (·.oneCell')) = true) (hz : Siz P t size) (hown : w.ownsRow base e size (.slice A n' c) n' (l.flatMap f)) (hi : i < l.length) (hn : l.length = n')
    (h : ∀ w', w'.ownsRow base e size (.slice A n' c) n' ((l.set i z).flatMap f) → w.grownBy w' (Value.ownBlock (.slice A n' c)) → w'.heap.size = w.heap.size → L P n ops Q rest (putO fr d undef) w') : L P n ops Q (⟨d, .store t x y, ty, pos, aft, g⟩ :: rest) fr w := by
  subst hn
  rcases hown.2 with ⟨h1', h2⟩ | ⟨b, cap, cur, hv, hb, hh, h2, h3, h4, h5⟩
  · omega
  · injection hv with hA _ hc
    subst hA hc
    have hbk : Blk w b e cur := hh
    have hle : (i + 1) * size ≤ c * size := Nat.mul_le_mul_right _ (by omega)
    rw [Nat.succ_mul] at hle
    have hx' : ev fr x = .pointer (some ⟨b, i * size, none⟩) := by rw [hx]; simp [pA, Addr.add_mid]
    refine L.storeC (vs := f z) hg hx' hy (by rfl) h1 (by rw [hf z]; exact hz) hbk (by rw [hf z, h4]; exact hle) ?_
    intro w' hk hg' hs
    rw [hf z] at hk
    have hil : (i + 1) * size ≤ l.length * size := Nat.mul_le_mul_right _ hi
    rw [Nat.succ_mul] at hil
    have hlc : l.length * size ≤ c * size := Nat.mul_le_mul_right _ h2
    have hsz : cur.toList.length = c * size := by rw [Array.length_toList]; exact h4
    refine h w' ⟨?_, .inr ⟨b, c, _, rfl, hb, hk, h2, h3, ?_, ?_⟩⟩ hg' hs
    · rw [← flat_splice hf l i hi]
      simp only [List.length_append, List.length_take, List.length_drop, hf z, hown.1]
      omega
    · rw [List.size_toArray]
      simp only [List.length_append, List.length_take, List.length_drop, hf z, hsz]
      omega
    · rw [← flat_splice hf l i hi, ← h5]
      rw [List.append_assoc, List.append_assoc, List.take_append, List.take_append]
      simp only [List.length_take, hf z, hsz, List.take_take, List.drop_take]
      rw [Nat.min_eq_left (show i * size ≤ c * size by omega), Nat.min_eq_right (show i * size ≤ l.length * size by omega), Nat.min_eq_left (show i * size ≤ l.length * size by omega)]
      rw [List.take_of_length_le (show (f z).length ≤ l.length * size - i * size by rw [hf z]; omega)]
      rw [show l.length * size - i * size - size = l.length * size - (i * size + size) by omega]
end
end Go.Proofs.Ytnndkepnabddgaa.H
namespace Go.Proofs.Ytnndkepnabddgaa
set_option maxRecDepth 100000
open Go.RowKit H
open HeapK Dfp
set_option linter.unusedVariables false
namespace Hq
variable {ls : List Ces} {N d : Nat} {B a : Option Addr × Nat} {w w' : World} {l : List Int}
theorem nch_ty (h : Hq ls N d B a w l) {g : Nat} (hg : Nch d B a g) : OfT w 41 g ∨ OfT w 3 g ∨ OfT w 25 g := by
  rcases hg with (rfl | hg) | hg
  · exact .inl h.hb.ofT
  · exact .inr (.inl (own_ofT h.hf ((own_n _ _ _ _).trans hg)).1)
  · exact .inr (.inr (own_ofT h.hl ((own_n _ _ _ _).trans hg)).1)
theorem nch_ge (h : Hq ls N d B a w l) : ∀ g, Nch d B a g → N ≤ g := by
  rintro g (hg | hg)
  · exact h.tch_ge g hg
  · exact (h.hl.lt g ((own_n _ _ _ _).trans hg)).1
theorem nch_own (h : Hq ls N d B a w l) (hC : Chg (Nch d B a) w w') {M e sz n : Nat} {x : Value} {xs : List Value} (ho : w.ownsRow M e sz x n xs) (hne : e ≠ 41 ∧ e ≠ 3 ∧ e ≠ 25) : w'.ownsRow M e sz x n xs :=
  hC.own ho fun g hg hS => by
    have h1 := (own_ofT ho hg).1
    rcases h.nch_ty hS with k | k | k
    · exact hne.1 (h1.one k)
    · exact hne.2.1 (h1.one k)
    · exact hne.2.2 (h1.one k)
theorem nch_low (h : Hq ls N d B a w l) (hC : Chg (Nch d B a) w w') : Below N w w' := hC.below h.lo h.nch_ge
theorem nch_cell (h : Hq ls N d B a w l) (hC : Chg (Nch d B a) w w') {x : Ce} {q : Nat} (hx : x.OwnQ q N w) : x.OwnQ q N w' :=
  ⟨hx.k, hx.t, h.nch_own hC hx.i (by decide), fun y hy => ⟨(hx.hi y hy).r.imp (fun r => r.low (h.nch_low hC) (Nat.le_refl _)) (fun r => h.nch_own hC r (by decide)), (hx.hi y hy).m, (hx.hi y hy).o, (hx.hi y hy).cp⟩, hx.li, h.nch_own hC hx.r (by decide), fun y hy => ⟨(hx.hr y hy).r.imp (fun r => r.low (h.nch_low hC) (Nat.le_refl _)) (fun r => h.nch_own hC r (by decide)), (hx.hr y hy).m, (hx.hr y hy).o⟩, hx.lr, hx.L⟩
end Hq
def riseAll (ls : List Ces) : Bool := ls.all fun s => rise s.l
theorem riseAll_no {ls : List Ces} {i : Nat} (hi : i < ls.length) (h : rise (ls.getD i ces0).l = false) : riseAll ls = false := by
  rw [← Bool.not_eq_true]
  intro k
  have := List.all_eq_true.1 k _ (memD (d := ces0) hi)
  rw [h] at this
  cases this
theorem riseAll_yes {ls : List Ces} (h : ∀ i, i < ls.length → rise (ls.getD i ces0).l = true) : riseAll ls = true := by
  unfold riseAll
  rw [List.all_eq_true]
  intro s hs
  obtain ⟨i, hi, rfl⟩ := List.getElem_of_mem hs
  have := h i hi
  rwa [List.getD, List.getElem?_eq_getElem hi] at this
def fullsTo (ls : List Ces) (i : Nat) : List Int := ((List.range i).filter fun j => decide (0 < (ls.getD j ces0).n)).map fun (j : Nat) => (j : Int)
theorem fulls_next (ls : List Ces) (i : Nat) : fullsTo ls (i + 1) = fullsTo ls i ++ (if 0 < (ls.getD i ces0).n then [(i : Int)] else []) := by
  unfold fullsTo
  rw [List.range_succ, List.filter_append, List.map_append]
  congr 1
  by_cases h : 0 < (ls.getD i ces0).n
  · rw [if_pos h, List.filter_cons_of_pos (by simpa using h)]
    rfl
  · rw [if_neg h, List.filter_cons_of_neg (by simpa using h)]
    rfl
theorem fulls_len (ls : List Ces) (i : Nat) : (fullsTo ls i).length ≤ i := by
  unfold fullsTo
  rw [List.length_map]
  exact Nat.le_trans (List.length_filter_le ..) (by simp)
theorem fulls_mem {ls : List Ces} {i : Nat} {x : Int} : x ∈ fullsTo ls i ↔ 0 ≤ x ∧ x < (i : Int) ∧ Full ls x := by
  unfold fullsTo Full
  rw [List.mem_map]
  constructor
  · rintro ⟨j, hj, rfl⟩
    rw [List.mem_filter, List.mem_range] at hj
    refine ⟨by omega, by omega, ?_⟩
    simpa using hj.2
  · rintro ⟨h1, h2, h3⟩
    obtain ⟨j, rfl⟩ := Int.eq_ofNat_of_zero_le h1
    refine ⟨j, ?_, rfl⟩
    rw [List.mem_filter, List.mem_range]
    exact ⟨by omega, by simpa using h3⟩
theorem fulls_nodup (ls : List Ces) (i : Nat) : (fullsTo ls i).Nodup := by
  unfold fullsTo
  have h : ((List.range i).filter fun j => decide (0 < (ls.getD j ces0).n)).Nodup := List.Nodup.sublist List.filter_sublist List.nodup_range
  exact List.Pairwise.map _ (fun a b hab e => hab (by omega)) h
theorem Hs.init (ls : List Ces) : Hs ls (initHk (kapH ls) (fullsTo ls ls.length) ((fullsTo ls ls.length).length / 2)) := by
  have hp := initHk_perm (κ := kapH ls) (fullsTo ls ls.length) ((fullsTo ls ls.length).length / 2)
  refine ⟨hp.symm.nodup (fulls_nodup _ _), ?_, fun x => by rw [hp.mem_iff]; exact fulls_mem⟩
  rw [initHk_length]
  exact initHk_heap _ _ fun k hk0 hkn hlo => by omega
end Go.Proofs.Ytnndkepnabddgaa
namespace Go.Proofs.Ytnndkepnabddgaa
set_option linter.unusedVariables false
namespace Tmg
def Ris (l : List Con) : Prop := l.Pairwise (fun a b => a.k < b.k)
structure IsBest (rest : List (List Con)) (i : Nat) (c : Con) (t : List Con) : Prop where
  at_ : rest[i]? = some (c :: t)
  le : ∀ (j : Nat) (d : Con) (u : List Con), rest[j]? = some (d :: u) → c.k < d.k ∨ (c.k = d.k ∧ i ≤ j)
theorem IsBest.one {rest : List (List Con)} {i j : Nat} {c d : Con} {t u : List Con} (h : IsBest rest i c t) (k : IsBest rest j d u) : i = j ∧ c = d ∧ t = u := by
  have h1 := h.le j d u k.at_
  have h2 := k.le i c t h.at_
  have e : i = j := by omega
  subst e
  have h3 := h.at_.symm.trans k.at_
  injection h3 with h3
  injection h3 with h4 h5
  exact ⟨rfl, h4, h5⟩
section
variable (E : Con → Con → Int) (V : Con → Con → Con)
open Classical in
noncomputable def mP : Nat → List (List Con) → List Con → List Con × Int
  | 0, _, out => (out, 0)
  | f + 1, rest, out =>
    if h : ∃ p : Nat × Con × List Con, IsBest rest p.1 p.2.1 p.2.2 then
      let p := Classical.choose h
      match out.getLast? with
      | none => mP f (rest.set p.1 p.2.2) (out ++ [p.2.1])
      | some l =>
        if l.k = p.2.1.k then
          if E l p.2.1 ≠ 0 then ([], E l p.2.1) else mP f (rest.set p.1 p.2.2) (out.dropLast ++ [V l p.2.1])
        else mP f (rest.set p.1 p.2.2) (out ++ [p.2.1])
    else (out, 0)
variable {E V} {f : Nat} {rest : List (List Con)} {out : List Con} {i : Nat} {c : Con} {t : List Con}
theorem mP_best (h : IsBest rest i c t) : mP E V (f + 1) rest out =
    match out.getLast? with
      | none => mP E V f (rest.set i t) (out ++ [c])
      | some l => if l.k = c.k then (if E l c ≠ 0 then ([], E l c) else mP E V f (rest.set i t) (out.dropLast ++ [V l c])) else mP E V f (rest.set i t) (out ++ [c]) := by
  have hx : ∃ p : Nat × Con × List Con, IsBest rest p.1 p.2.1 p.2.2 := ⟨(i, c, t), h⟩
  obtain ⟨e1, e2, e3⟩ := (Classical.choose_spec hx).one h
  rw [mP, dif_pos hx]
  dsimp only
  rw [e1, e2, e3]
theorem mP_push (h : IsBest rest i c t) (hl : ∀ l, out.getLast? = some l → l.k ≠ c.k) : mP E V (f + 1) rest out = mP E V f (rest.set i t) (out ++ [c]) := by
  rw [mP_best h]
  cases hg : out.getLast? with
  | none => rfl
  | some l => exact if_neg (hl l hg)
theorem mP_join (h : IsBest rest i c t) {x : Con} (hk : x.k = c.k) (he : E x c = 0) : mP E V (f + 1) rest (out ++ [x]) = mP E V f (rest.set i t) (out ++ [V x c]) := by
  rw [mP_best h, List.getLast?_concat]
  dsimp only
  rw [if_pos hk, if_neg (by simp [he]), List.dropLast_concat]
theorem mP_err (h : IsBest rest i c t) {x : Con} (hk : x.k = c.k) (he : E x c ≠ 0) : mP E V (f + 1) rest (out ++ [x]) = ([], E x c) := by
  rw [mP_best h, List.getLast?_concat]
  dsimp only
  rw [if_pos hk, if_pos he]
theorem mP_end (h : ∀ l ∈ rest, l = []) : mP E V f rest out = (out, 0) := by
  cases f with
  | zero => rfl
  | succ f =>
    rw [mP, dif_neg]
    rintro ⟨p, hp⟩
    have := h _ (List.mem_of_getElem? hp.at_)
    cases this
theorem best_ex : ∀ rest : List (List Con), (∀ l ∈ rest, l = []) ∨ ∃ i c t, IsBest rest i c t
  | [] => .inl (fun l hl => by cases hl)
  | a :: r => by
    rcases best_ex r with h | ⟨i, d, u, h⟩
    · cases a with
      | nil => exact .inl (fun l hl => (List.mem_cons.1 hl).elim id (h l))
      | cons c t =>
        refine .inr ⟨0, c, t, rfl, fun j d u hj => ?_⟩
        cases j with
        | zero =>
          have hj : (c :: t) = d :: u := by simpa using hj
          injection hj with h1 h2
          subst h1
          exact .inr ⟨rfl, Nat.le_refl _⟩
        | succ j =>
          have hj : r[j]? = some (d :: u) := by simpa using hj
          have := h _ (List.mem_of_getElem? hj)
          cases this
    · have up : IsBest (a :: r) (i + 1) d u ∨ ∃ c t, a = c :: t ∧ c.k ≤ d.k := by
        cases a with
        | nil =>
          refine .inl ⟨by simpa using h.at_, fun j e v hj => ?_⟩
          cases j with
          | zero => simp at hj
          | succ j =>
            have hj : r[j]? = some (e :: v) := by simpa using hj
            have := h.le j e v hj
            omega
        | cons c t =>
          by_cases hc : c.k ≤ d.k
          · exact .inr ⟨c, t, rfl, hc⟩
          · refine .inl ⟨by simpa using h.at_, fun j e v hj => ?_⟩
            cases j with
            | zero =>
              have hj : (c :: t) = e :: v := by simpa using hj
              injection hj with h1 h2
              subst h1
              omega
            | succ j =>
              have hj : r[j]? = some (e :: v) := by simpa using hj
              have := h.le j e v hj
              omega
      rcases up with up | ⟨c, t, rfl, hc⟩
      · exact .inr ⟨_, _, _, up⟩
      · refine .inr ⟨0, c, t, rfl, fun j e v hj => ?_⟩
        cases j with
        | zero =>
          have hj : (c :: t) = e :: v := by simpa using hj
          injection hj with h1 h2
          subst h1
          exact .inr ⟨rfl, Nat.le_refl _⟩
        | succ j =>
          have hj : r[j]? = some (e :: v) := by simpa using hj
          have := h.le j e v hj
          omega
def tot (rest : List (List Con)) : Nat := (rest.map List.length).sum
theorem tot_set : ∀ {rest : List (List Con)} {i : Nat} {c : Con} {t : List Con}, rest[i]? = some (c :: t) → tot rest = tot (rest.set i t) + 1
  | [], i, c, t, h => by simp at h
  | a :: r, 0, c, t, h => by
    have h : a = c :: t := by simpa using h
    subst h
    simp [tot]
    omega
  | a :: r, i + 1, c, t, h => by
    have h : r[i]? = some (c :: t) := by simpa using h
    have := tot_set h
    simp only [tot, List.set_cons_succ, List.map_cons, List.sum_cons] at this ⊢
    omega
theorem tot_zero : ∀ {rest : List (List Con)}, tot rest = 0 → ∀ l ∈ rest, l = []
  | [], _, l, hl => by cases hl
  | a :: r, h, l, hl => by
    simp only [tot, List.map_cons, List.sum_cons] at h
    rcases List.mem_cons.1 hl with rfl | hl
    · exact List.length_eq_zero_iff.1 (by omega)
    · exact tot_zero (rest := r) (by unfold tot; omega) l hl
end
def at_ (l : List Con) (k : Nat) : Option Con := l.find? (fun c => decide (c.k = k))
theorem at_nil (k : Nat) : at_ [] k = none := rfl
theorem at_cons (c : Con) (l : List Con) (k : Nat) : at_ (c :: l) k = if c.k = k then some c else at_ l k := by
  unfold at_
  rw [List.find?_cons]
  by_cases h : c.k = k
  · rw [if_pos h, decide_eq_true h]
  · rw [if_neg h, decide_eq_false h]
theorem at_key {l : List Con} {k : Nat} {c : Con} (h : at_ l k = some c) : c.k = k ∧ c ∈ l := by
  unfold at_ at h
  have h1 := List.find?_some (p := fun c : Con => decide (c.k = k)) h
  exact ⟨of_decide_eq_true h1, List.mem_of_find?_eq_some h⟩
theorem at_none {l : List Con} {k : Nat} : at_ l k = none ↔ ∀ c ∈ l, c.k ≠ k := by
  unfold at_
  rw [List.find?_eq_none]
  exact ⟨fun h c hc e => h c hc (decide_eq_true e), fun h c hc e => h c hc (of_decide_eq_true e)⟩
theorem at_app (a b : List Con) (k : Nat) : at_ (a ++ b) k = (at_ a k).or (at_ b k) := by
  unfold at_
  exact List.find?_append
theorem ris_cons {c : Con} {l : List Con} : Ris (c :: l) ↔ (∀ d ∈ l, c.k < d.k) ∧ Ris l := List.pairwise_cons
theorem ris_ext : ∀ {a b : List Con}, Ris a → Ris b → (∀ k, at_ a k = at_ b k) → a = b
  | [], [], _, _, _ => rfl
  | [], d :: b, _, _, h => by
    have := h d.k
    rw [at_nil, at_cons, if_pos rfl] at this
    cases this
  | c :: a, [], _, _, h => by
    have := h c.k
    rw [at_nil, at_cons, if_pos rfl] at this
    cases this
  | c :: a, d :: b, ha, hb, h => by
    obtain ⟨ha1, ha2⟩ := ris_cons.1 ha
    obtain ⟨hb1, hb2⟩ := ris_cons.1 hb
    have hkey : c.k = d.k := by
      have h1 := h c.k
      have h2 := h d.k
      rw [at_cons, at_cons, if_pos rfl] at h1
      rw [at_cons, at_cons, if_pos rfl] at h2
      apply Decidable.byContradiction
      intro hne
      rw [if_neg (fun e => hne e.symm)] at h1
      rw [if_neg hne] at h2
      have m1 := hb1 c (at_key h1.symm).2
      have m2 := ha1 d (at_key h2).2
      omega
    have hcd : c = d := by
      have h1 := h c.k
      rw [at_cons, at_cons, if_pos rfl, if_pos hkey.symm] at h1
      injection h1
    subst hcd
    congr 1
    refine ris_ext ha2 hb2 fun k => ?_
    have h1 := h k
    rw [at_cons, at_cons] at h1
    by_cases hk : c.k = k
    · have e1 : at_ a k = none := at_none.2 fun x hx e => by have := ha1 x hx; omega
      have e2 : at_ b k = none := at_none.2 fun x hx e => by have := hb1 x hx; omega
      rw [e1, e2]
    · rwa [if_neg hk, if_neg hk] at h1
section
variable (E : Con → Con → Int) (V : Con → Con → Con)
def oj : Option Con → Option Con → Option Con
  | none, y => y
  | some x, none => some x
  | some x, some y => some (V x y)
theorem oj_none (x : Option Con) : oj V x none = x := by cases x <;> rfl
def m2 : List Con → List Con → List Con × Int
  | [], b => (b, 0)
  | a, [] => (a, 0)
  | x :: a, y :: b =>
    if x.k < y.k then let r := m2 a (y :: b); if r.2 = 0 then (x :: r.1, 0) else r
    else if y.k < x.k then let r := m2 (x :: a) b; if r.2 = 0 then (y :: r.1, 0) else r
    else if E x y ≠ 0 then ([], E x y) else let r := m2 a b; if r.2 = 0 then (V x y :: r.1, 0) else r
termination_by a b => a.length + b.length
variable {E V}
theorem m2_law (hV : ∀ x y, x.k = y.k → E x y = 0 → (V x y).k = x.k) : ∀ (n : Nat) (a b l : List Con), a.length + b.length ≤ n → Ris a → Ris b → m2 E V a b = (l, 0) → Ris l ∧ ∀ k, at_ l k = oj V (at_ a k) (at_ b k) := by
  intro n
  induction n with
  | zero =>
    intro a b l hn ha hb h
    have e1 : a = [] := List.length_eq_zero_iff.1 (by omega)
    have e2 : b = [] := List.length_eq_zero_iff.1 (by omega)
    subst e1 e2
    rw [m2] at h
    injection h with h _
    subst h
    exact ⟨List.Pairwise.nil, fun k => rfl⟩
  | succ n ih =>
    intro a b l hn ha hb h
    match a, b with
    | [], b =>
      rw [m2] at h
      injection h with h _
      subst h
      exact ⟨hb, fun k => rfl⟩
    | x :: a, [] =>
      rw [m2] at h
      · injection h with h _
        subst h
        exact ⟨ha, fun k => (oj_none _ _).symm⟩
      · simp
    | x :: a, y :: b =>
      obtain ⟨ha1, ha2⟩ := ris_cons.1 ha
      obtain ⟨hb1, hb2⟩ := ris_cons.1 hb
      simp only [List.length_cons] at hn
      rw [m2] at h
      have gt : ∀ {l : List Con} {c : Con} {u v : List Con}, (∀ k, at_ l k = oj V (at_ u k) (at_ v k)) → (∀ d ∈ u, c.k < d.k) → (∀ d ∈ v, c.k < d.k) → Ris l → Ris (c :: l) := by
        intro l c u v hl hu hv hr
        refine ris_cons.2 ⟨fun d hd => ?_, hr⟩
        have h1 := hl d.k
        cases hx : at_ u d.k with
        | some x => have := hu x (at_key hx).2; have := (at_key hx).1; omega
        | none =>
          cases hy : at_ v d.k with
          | some y => have := hv y (at_key hy).2; have := (at_key hy).1; omega
          | none =>
            rw [hx, hy] at h1
            exact absurd rfl (at_none.1 h1 d hd)
      split at h
      · rename_i hlt
        dsimp only at h
        split at h
        · rename_i h0
          injection h with h _
          subst h
          obtain ⟨i1, i2⟩ := ih a (y :: b) _ (by simp only [List.length_cons]; omega) ha2 hb (Prod.ext rfl h0)
          have hy : ∀ d ∈ y :: b, x.k < d.k := fun d hd => by
            rcases List.mem_cons.1 hd with rfl | hd
            · exact hlt
            · have := hb1 d hd; omega
          refine ⟨gt i2 ha1 hy i1, fun k => ?_⟩
          rw [at_cons, at_cons x]
          by_cases hk : x.k = k
          · rw [if_pos hk, if_pos hk, show at_ (y :: b) k = none from at_none.2 fun d hd e => by have := hy d hd; omega]
            rfl
          · rw [if_neg hk, if_neg hk]
            exact i2 k
        · rename_i h0
          rw [h] at h0
          exact absurd rfl h0
      · split at h
        · rename_i hge hlt
          dsimp only at h
          split at h
          · rename_i h0
            injection h with h _
            subst h
            obtain ⟨i1, i2⟩ := ih (x :: a) b _ (by simp only [List.length_cons]; omega) ha hb2 (Prod.ext rfl h0)
            have hy : ∀ d ∈ x :: a, y.k < d.k := fun d hd => by
              rcases List.mem_cons.1 hd with rfl | hd
              · exact hlt
              · have := ha1 d hd; omega
            refine ⟨gt i2 hy hb1 i1, fun k => ?_⟩
            rw [at_cons, at_cons y]
            by_cases hk : y.k = k
            · rw [if_pos hk, if_pos hk, show at_ (x :: a) k = none from at_none.2 fun d hd e => by have := hy d hd; omega]
              rfl
            · rw [if_neg hk, if_neg hk]
              exact i2 k
          · rename_i h0
            rw [h] at h0
            exact absurd rfl h0
        · rename_i hge hge2
          have hk0 : x.k = y.k := by omega
          split at h
          · rename_i he
            injection h with _ h
            exact absurd h he
          · rename_i he
            have he : E x y = 0 := Decidable.byContradiction he
            have hv := hV x y hk0 he
            dsimp only at h
            split at h
            · rename_i h0
              injection h with h _
              subst h
              obtain ⟨i1, i2⟩ := ih a b _ (by omega) ha2 hb2 (Prod.ext rfl h0)
              refine ⟨gt i2 (fun d hd => by rw [hv]; exact ha1 d hd) (fun d hd => by rw [hv, hk0]; exact hb1 d hd) i1, fun k => ?_⟩
              rw [at_cons, at_cons x, at_cons y, hv, hk0]
              by_cases hk : y.k = k
              · rw [if_pos hk, if_pos hk, if_pos hk]
                rfl
              · rw [if_neg hk, if_neg hk, if_neg hk]
                exact i2 k
            · rename_i h0
              rw [h] at h0
              exact absurd rfl h0
theorem mP_law_end {rest : List (List Con)} {out l : List Con} (e : ∀ r ∈ rest, r = []) (h : (out, (0 : Int)) = (l, 0)) (ho : Ris out) : Ris l ∧ ∀ k, at_ l k = (rest.map (at_ · k)).foldl (oj V) (at_ out k) := by
  injection h with h _
  subst h
  refine ⟨ho, fun k => ?_⟩
  have : ∀ (rs : List (List Con)) (x : Option Con), (∀ r ∈ rs, r = []) → (rs.map (at_ · k)).foldl (oj V) x = x := by
    intro rs
    induction rs with
    | nil => intros; rfl
    | cons a rs ih =>
      intro x hx
      rw [List.map_cons, List.foldl_cons, hx a List.mem_cons_self, at_nil, oj_none]
      exact ih x (fun r hr => hx r (List.mem_cons_of_mem _ hr))
  exact (this rest _ e).symm
theorem mP_law (hV : ∀ x y, x.k = y.k → E x y = 0 → (V x y).k = x.k) : ∀ (f : Nat) (rest : List (List Con)) (out l : List Con), tot rest ≤ f → (∀ r ∈ rest, Ris r) → Ris out → (∀ r ∈ rest, ∀ c ∈ r, ∀ o, out.getLast? = some o → o.k ≤ c.k) → mP E V f rest out = (l, 0) → Ris l ∧ ∀ k, at_ l k = (rest.map (at_ · k)).foldl (oj V) (at_ out k) := by
  intro f
  induction f with
  | zero =>
    intro rest out l hf hr ho hl h
    exact mP_law_end (tot_zero (show tot rest = 0 by omega)) (by rw [mP] at h; exact h) ho
  | succ f ih =>
    intro rest out l hf hr ho hl h
    rcases best_ex rest with hx | ⟨i, c, t, hb⟩
    · exact mP_law_end hx (by rw [mP_end hx] at h; exact h) ho
    · have hi := hb.at_
      have hlt : i < rest.length := (List.getElem?_eq_some_iff.1 hi).1
      have hct := hr _ (List.mem_of_getElem? hi)
      obtain ⟨hc1, hc2⟩ := ris_cons.1 hct
      have hsp : rest = rest.take i ++ (c :: t) :: rest.drop (i + 1) := by
        have h1 := List.take_append_drop i rest
        rw [List.drop_eq_getElem_cons hlt, show rest[i] = c :: t from (List.getElem?_eq_some_iff.1 hi).2] at h1
        exact h1.symm
      have hset : rest.set i t = rest.take i ++ t :: rest.drop (i + 1) := List.set_eq_take_append_cons_drop .. |>.trans (if_pos hlt)
      have hall : ∀ r ∈ rest.set i t, (∀ d ∈ r, c.k ≤ d.k) ∧ Ris r := by
        intro r hrm
        rcases List.mem_or_eq_of_mem_set hrm with h1 | rfl
        · refine ⟨fun d hd => ?_, hr r h1⟩
          obtain ⟨j, hj, rfl⟩ := List.getElem_of_mem h1
          cases hrj : rest[j] with
          | nil => rw [hrj] at hd; cases hd
          | cons e u =>
            have h2 := hb.le j e u (by rw [List.getElem?_eq_getElem hj, hrj])
            have h3 := hr _ h1
            rw [hrj] at h3 hd
            rcases List.mem_cons.1 hd with rfl | hd
            · omega
            · have := (ris_cons.1 h3).1 d hd
              omega
        · exact ⟨fun d hd => Nat.le_of_lt (hc1 d hd), hc2⟩
      have hpre : ∀ r ∈ rest.take i, at_ r c.k = none := by
        intro r hrm
        obtain ⟨j, hj, rfl⟩ := List.getElem_of_mem hrm
        rw [List.length_take] at hj
        rw [List.getElem_take]
        have hm : rest[j]'(by omega) ∈ rest := List.getElem_mem _
        refine at_none.2 fun d hd e => ?_
        cases hrj : rest[j]'(by omega) with
        | nil => rw [hrj] at hd; cases hd
        | cons x u =>
          have h2 := hb.le j x u (by rw [List.getElem?_eq_getElem (by omega), hrj])
          have h3 := hr _ hm
          rw [hrj] at h3 hd
          rcases List.mem_cons.1 hd with rfl | hd
          · omega
          · have := (ris_cons.1 h3).1 d hd
            omega
      have htot : tot (rest.set i t) ≤ f := by have := tot_set hi; omega
      have STEP : ∀ out', Ris out' → (∀ o, out'.getLast? = some o → o.k = c.k) → (∀ k, k ≠ c.k → at_ out' k = at_ out k) → oj V (at_ out c.k) (some c) = at_ out' c.k → mP E V f (rest.set i t) out' = (l, 0) → Ris l ∧ ∀ k, at_ l k = (rest.map (at_ · k)).foldl (oj V) (at_ out k) := by
        intro out' h1 h2 h3 h4 h5
        obtain ⟨g1, g2⟩ := ih (rest.set i t) out' l htot (fun r hrm => (hall r hrm).2) h1 (fun r hrm d hd o ho' => by rw [h2 o ho']; exact (hall r hrm).1 d hd) h5
        refine ⟨g1, fun k => ?_⟩
        rw [g2 k, hset]
        conv => rhs; rw [hsp]
        simp only [List.map_append, List.map_cons, List.foldl_append, List.foldl_cons]
        have skip : ∀ (rs : List (List Con)) (x : Option Con), (∀ r ∈ rs, at_ r c.k = none) → (rs.map (at_ · c.k)).foldl (oj V) x = x := by
          intro rs
          induction rs with
          | nil => intros; rfl
          | cons a rs ihs =>
            intro x hx
            rw [List.map_cons, List.foldl_cons, hx a List.mem_cons_self, oj_none]
            exact ihs x (fun r hr' => hx r (List.mem_cons_of_mem _ hr'))
        by_cases hk : k = c.k
        · subst hk
          rw [skip _ _ hpre, skip _ _ hpre, at_cons, if_pos rfl, h4, show at_ t c.k = none from at_none.2 fun d hd e => by have := hc1 d hd; omega, oj_none]
        · rw [h3 k hk, at_cons, if_neg (fun e => hk e.symm)]
      rw [mP_best hb] at h
      have keys : ∀ o, out.getLast? = some o → ∀ d ∈ out, d = o ∨ d.k < o.k := by
        intro o ho' d hd
        obtain ⟨ys, rfl⟩ := List.getLast?_eq_some_iff.1 ho'
        rcases List.mem_append.1 hd with hd | hd
        · exact .inr ((List.pairwise_append.1 ho).2.2 d hd o (by simp))
        · exact .inl (by simpa using hd)
      have PUSH : (∀ o, out.getLast? = some o → o.k < c.k) → mP E V f (rest.set i t) (out ++ [c]) = (l, 0) → Ris l ∧ ∀ k, at_ l k = (rest.map (at_ · k)).foldl (oj V) (at_ out k) := by
        intro hlast h
        have hlt2 : ∀ d ∈ out, d.k < c.k := by
          intro d hd
          have hne : out ≠ [] := fun e => by rw [e] at hd; cases hd
          have h1 := List.getLast?_eq_some_getLast hne
          rcases keys _ h1 d hd with rfl | h2
          · exact hlast _ h1
          · have := hlast _ h1
            omega
        refine STEP (out ++ [c]) (List.pairwise_append.2 ⟨ho, List.pairwise_singleton _ _, fun x hx y hy => ?_⟩) (fun o ho' => ?_) (fun k hk => ?_) ?_ h
        · obtain rfl : y = c := by simpa using hy
          exact hlt2 x hx
        · rw [List.getLast?_concat] at ho'
          injection ho' with ho'
          rw [ho']
        · rw [at_app, at_cons, if_neg (fun e => hk e.symm), at_nil, Option.or_none]
        · rw [at_app, at_cons, if_pos rfl, show at_ out c.k = none from at_none.2 fun d hd e => by have := hlt2 d hd; omega]
          rfl
      cases hg : out.getLast? with
      | none =>
        rw [hg] at h
        exact PUSH (fun o ho' => by rw [hg] at ho'; cases ho') h
      | some o =>
        rw [hg] at h
        dsimp only at h
        have hoc := hl _ (List.mem_of_getElem? hi) c List.mem_cons_self o hg
        split at h
        · rename_i hk
          split at h
          · rename_i he
            injection h with _ h
            exact absurd h he
          · rename_i he
            have he : E o c = 0 := Decidable.byContradiction he
            have hv := hV o c hk he
            obtain ⟨ys, rfl⟩ := List.getLast?_eq_some_iff.1 hg
            rw [List.dropLast_concat] at h
            obtain ⟨p1, _, p3⟩ := List.pairwise_append.1 ho
            refine STEP (ys ++ [V o c]) (List.pairwise_append.2 ⟨p1, List.pairwise_singleton _ _, fun x hx y hy => ?_⟩) (fun q hq => ?_) (fun k hk2 => ?_) ?_ h
            · obtain rfl : y = V o c := by simpa using hy
              rw [hv]
              exact p3 x hx o (by simp)
            · rw [List.getLast?_concat] at hq
              injection hq with hq
              rw [← hq, hv, hk]
            · rw [at_app, at_app, at_cons, at_cons, if_neg (by rw [hv, hk]; exact fun e => hk2 e.symm), if_neg (by rw [hk]; exact fun e => hk2 e.symm)]
            · have hn : at_ ys c.k = none := at_none.2 fun d hd e => by have := p3 d hd o (by simp); omega
              rw [at_app, at_app, hn, at_cons, at_cons, if_pos hk, if_pos (by rw [hv, hk])]
              rfl
        · rename_i hk
          exact PUSH (fun o' ho' => by rw [hg] at ho'; injection ho' with ho'; subst ho'; omega) h
end
end Tmg
end Go.Proofs.Ytnndkepnabddgaa
namespace Go.Proofs.Ytnndkepnabddgaa
set_option maxRecDepth 100000
open Go.RowKit H
open HeapK Dfp Tmg
set_option linter.unusedVariables false
theorem con_at {rest : List Ces} {j : Nat} {d : Con} {u : List Con} (h : (rest.map Ces.con)[j]? = some (d :: u)) : j < rest.length ∧ 0 < (rest.getD j ces0).l.length ∧ d.k = hkey (rest.getD j ces0) := by
  rw [List.getElem?_map] at h
  rcases Nat.lt_or_ge j rest.length with hj | hj
  · rw [List.getElem?_eq_getElem hj] at h
    injection h with h
    have e : rest.getD j ces0 = rest[j] := by rw [List.getD, List.getElem?_eq_getElem hj]; rfl
    rw [e]
    have h : (rest[j]).l.map Ce.con = d :: u := h
    cases hl : (rest[j]).l with
    | nil => rw [hl] at h; cases h
    | cons x t =>
      rw [hl, List.map_cons] at h
      injection h with h1 h2
      refine ⟨hj, by simp, ?_⟩
      rw [← h1]
      show x.k = hkey rest[j]
      unfold hkey
      rw [hl]
      rfl
  · rw [List.getElem?_eq_none hj] at h
    cases h
theorem Hs.best {rest : List Ces} {l : List Int} (h : Hs rest l) (h0 : 0 < l.length) (hn : ∀ s ∈ rest, s.l.length = s.n) (hb : rest.length ≤ 900000) {p : Nat} (hp : (p : Int) = l.getD 0 0) : IsBest (rest.map Ces.con) p ((rest.getD p ces0).l.getD 0 ce0).con (tailC (rest.getD p ces0)).con := by
  have pm := (h.mem _).1 (mem_at (i := 0) h0)
  rw [← hp] at pm
  have hpl : p < rest.length := by omega
  have hpn : 0 < (rest.getD p ces0).n := pm.2.2
  have hpm := memD (l := rest) (i := p) (d := ces0) hpl
  have hl := hn _ hpm
  constructor
  · rw [List.getElem?_map, List.getElem?_eq_getElem hpl]
    have e : rest.getD p ces0 = rest[p] := by rw [List.getD, List.getElem?_eq_getElem hpl]; rfl
    rw [e] at hl hpn ⊢
    show some ((rest[p]).l.map Ce.con) = some (((rest[p]).l.getD 0 ce0).con :: ((rest[p]).l.drop 1).map Ce.con)
    cases hx : (rest[p]).l with
    | nil => rw [hx] at hl; simp at hl; omega
    | cons x t => rfl
  · intro j d u hj
    obtain ⟨hjl, hj0, hk⟩ := con_at hj
    have hjn : 0 < (rest.getD j ces0).n := by rw [← hn _ (memD (d := ces0) hjl)]; exact hj0
    have hjm : (j : Int) ∈ l := (h.mem _).2 ⟨by omega, by omega, hjn⟩
    obtain ⟨k, hkl, ek⟩ := List.getElem_of_mem hjm
    have hr := heapk_root h.hp k hkl
    rw [← hp, show l.getD k 0 = (j : Int) by rw [List.getD, List.getElem?_eq_getElem hkl]; exact ek] at hr
    unfold kapH at hr
    rw [Int.toNat_natCast, Int.toNat_natCast] at hr
    have e1 : ((rest.getD p ces0).l.getD 0 ce0).con.k = hkey (rest.getD p ces0) := rfl
    rw [e1, hk]
    omega
theorem Hs.done {rest : List Ces} {l : List Int} (h : Hs rest l) (h0 : l.length = 0) (hn : ∀ s ∈ rest, s.l.length = s.n) : ∀ r ∈ rest.map Ces.con, r = [] := by
  intro r hr
  obtain ⟨s, hs, rfl⟩ := List.mem_map.1 hr
  obtain ⟨j, hj, rfl⟩ := List.getElem_of_mem hs
  have e : rest.getD j ces0 = rest[j] := by rw [List.getD, List.getElem?_eq_getElem hj]; rfl
  have hno : (j : Int) ∉ l := by rw [List.length_eq_zero_iff.1 h0]; simp
  rw [h.mem] at hno
  have : ¬ 0 < (rest.getD j ces0).n := fun k => hno ⟨by omega, by omega, k⟩
  rw [e, ← hn _ hs] at this
  show (rest[j]).l.map Ce.con = []
  rw [List.length_eq_zero_iff.1 (show (rest[j]).l.length = 0 by omega)]
  rfl
theorem con_set (rest : List Ces) (p : Nat) (t : Ces) : (rest.set p t).map Ces.con = (rest.map Ces.con).set p t.con := List.map_set
end Go.Proofs.Ytnndkepnabddgaa
namespace Go.Proofs.Ytnndkepnabddgaa
set_option maxRecDepth 100000
open Go.RowKit H
open HeapK Dfp Tmg
set_option linter.unusedVariables false
theorem css_ones (l : List Ces) : (l.flatMap Ces.vs).all (·.oneCell') = true := by
  rw [List.all_eq_true]
  intro v hv
  obtain ⟨x, _, hx⟩ := List.mem_flatMap.1 hv
  simp only [Ces.vs, List.mem_cons, List.not_mem_nil, or_false] at hx
  rw [hx]
  rfl
def TmR (ls : List Ces) (w : World) (e : Ending) (w' : World) : Prop :=
  ∃ (t : Ces) (z : Int), e = .returned (.tuple #[t.val, .int .i64 z]) ∧ (riseAll ls = false → z = 1 ∧ t.con = []) ∧ (riseAll ls = true → (t.con, z) = mP eJ vJ (tot (ls.map Ces.con)) (ls.map Ces.con) []) ∧ t.At w'.heap.size w' ∧ t.n ≤ 10000 ∧ Ext w w'
theorem Ce.My.low {x : Ce} {M N : Nat} {w : World} (h : x.My N w) (hM : M ≤ N) : x.My M w := ⟨h.k, h.t, own_lowB h.i hM, fun y hy => (h.hi y hy).low hM, h.li, own_lowB h.r hM, fun y hy => (h.hr y hy).low hM, h.lr⟩
theorem nil_or_snoc {α : Type} (o : List α) : o = [] ∨ ∃ o0 z, o = o0 ++ [z] := by
  rcases List.eq_nil_or_concat o with h | ⟨a, b, h⟩
  · exact .inl h
  · exact .inr ⟨a, b, by rw [h, List.concat_eq_append]⟩
theorem tot_le {ls : List Ces} {m : Nat} (h : ∀ s ∈ ls, s.l.length ≤ m) : tot (ls.map Ces.con) ≤ ls.length * m := by
  induction ls with
  | nil => exact Nat.zero_le _
  | cons s t ih =>
    have h1 := h s List.mem_cons_self
    have h2 := ih fun x hx => h x (List.mem_cons_of_mem _ hx)
    have e : tot ((s :: t).map Ces.con) = s.l.length + tot (t.map Ces.con) := by
      show (((s :: t).map Ces.con).map List.length).sum = _
      rw [List.map_cons, List.map_cons, List.sum_cons]
      show (s.l.map Ce.con).length + _ = _
      rw [List.length_map]
      rfl
    rw [e, List.length_cons, Nat.succ_mul]
    omega
theorem tmerge (A : Option Addr) (n c : Nat) (ls : List Ces) (w : World) (hr : Reads w w.heap.size 1 A n (ls.flatMap Ces.vs)) (hs : ∀ s ∈ ls, s.At w.heap.size w ∧ s.n ≤ s.c ∧ s.n ≤ 1000 ∧ ∀ x ∈ s.l, x.LtQ 20) (hl : ls.length = n) (hn : n ≤ 8) : Calls Try.prog 7 #[.slice A n c] w (TmR ls w) := by
  have hones := css_ones ls
  refine enter Try.func7 rfl (by kernel_rfl) ?_
  refine J.seq ?_
  refine J.region ?_
  refine L.va rfl (X.assign (by conv => lhs; whnf)) ?_
  refine L.va rfl (X.assign (by conv => lhs; whnf)) ?_
  refine L.nil ?_
  refine J.seq ?_
  refine J.region ?_
  refine L.va rfl (X.move (by conv => lhs; whnf)) ?_
  have ho0 : w.ownsRow w.heap.size 25 1 (.slice none 0 0) 0 (([] : List Ces).flatMap Ces.vs) := own_nil _ _ _ _
  refine L.appendV (q := n) (ys := ls.flatMap Ces.vs) rfl rfl rfl Try.underlying22 el_25 (ho0) (hr) (by first | rfl | exact strs_ones _ | assumption) (by omega) (by simp) (by unfold maxLen; omega) (by omega) ?_
  intro B1 B2 w1 hoL hg1 he1 hor1
  have he1 : Ext w w1 := he1
  refine L.va rfl (X.build (l := [_, _]) (Evs.cons (by conv => lhs; whnf) Evs.nil) (bld_run Try.underlying41 (bp_41 Try.underlying41) zr_41 rfl)) ?_
  refine L.boxA (l := [_, _]) rfl rfl ?_
  intro d w2 hd hs2 hkd he2
  have he02 := he1.trans he2
  have z1 := he1.le
  have hoL2 := hoL.ext he2
  have hkd : Blk w2 d 41 #[.slice B1 n B2, .slice none 0 0] := hkd
  refine L.va rfl (X.assign (by conv => lhs; whnf)) ?_
  refine L.nil ?_
  refine J.seq ?_
  refine J.seq ?_
  refine J.region ?_
  refine L.va rfl (X.move (by conv => lhs; whnf)) ?_
  refine L.va rfl (X.len rfl Try.underlying22) ?_
  refine L.va rfl (X.move (by conv => lhs; whnf)) ?_
  refine L.nil ?_
  refine J.block ?_
  refine J.loop (X := Nat × Option Addr × Nat × List Int) [2, 3, 5, 6, 18, 19, 20, 21, 22, 23, 24, 25, 26, 27, 28, 29, 30, 31, 32, 33, 34, 35, 36, 37, 38, 39] (fun (i, oA, oc, l) => [(18, .int .i64 (i : Int))]) (fun (i, oA, oc, l) w' => i ≤ n ∧ l = fullsTo ls i ∧ (∀ j, j < i → rise (ls.getD j ces0).l = true) ∧ Blk w' d 41 #[.slice B1 n B2, .slice oA l.length oc] ∧ w'.ownsRow w.heap.size 3 1 (.slice oA l.length oc) l.length (nums .i64 l) ∧ w'.ownsRow w.heap.size 25 1 (.slice B1 n B2) n (ls.flatMap Ces.vs) ∧ Ext w w' ∧ d < w'.heap.size) (fun (i, _) => n - i) ((0, none, 0, [])) (At1 (by first | rfl | exact at_int rfl (by omega) | exact at_slice rfl (by omega) | exact at_int rfl (by simp))) ?_ ?_
  · exact ⟨Nat.zero_le _, rfl, fun j hj => absurd hj (by omega), hkd, own_nil _ _ _ _, hoL2, he02, by omega⟩
  · rintro ⟨i, oA, oc, l⟩ g w3 ⟨hi, el, hrs, hk3, ho3, hL3, he3, hd3⟩
    have hr3 := hr.ext he3
    have hA := fun h => hr3.some_ h
    refine J.seq ?_
    refine J.region ?_
    refine L.va rfl (X.lss rfl rfl) ?_
    refine L.nil ?_
    refine J.seq ?_
    refine J.dec rfl (fun hlt => ?_) (fun hlt => ?_)
    · have hil : i < ls.length := by omega
      have gs := gtS (l := ls) (i := i) hil
      have ms := hs _ (memD (l := ls) (i := i) (d := ces0) hil)
      obtain ⟨s, es⟩ : ∃ s, s = ls.getD i ces0 := ⟨_, rfl⟩
      rw [← es] at gs ms
      have hA := hr3.some_ (by omega)
      have lx : Ld w3 (pA A i) (.slice s.A s.n s.c) := by have h := Ld.flat2 cs_len hr3 gs (r := 0) rfl; rwa [Nat.mul_one] at h
      refine J.skip ?_
      refine J.seq ?_
      refine J.block ?_
      refine J.seq ?_
      refine J.region ?_
      refine L.va rfl (X.move (by conv => lhs; whnf)) ?_
      refine L.va rfl ((by first | exact X.index1n rfl rfl Try.underlying22 sz_25 (by first | exact Option.some_ne_none _ | exact hA | exact lx) (by omega) | exact X.index1 rfl rfl Try.underlying22 sz_25 (by first | exact Option.some_ne_none _ | exact hA | exact lx) (by omega))) ?_
      refine L.va rfl (X.load rfl sc_25 (by first | exact hA | exact lx)) ?_
      refine L.va rfl (X.assign (by conv => lhs; whnf)) ?_
      refine L.va rfl (X.assign (by conv => lhs; whnf)) ?_
      refine L.nil ?_
      refine J.seq ?_
      refine J.seq ?_
      refine J.region ?_
      refine L.va rfl (X.move (by conv => lhs; whnf)) ?_
      have hsl := (ms.1.ext he3).l
      have c1 := trising s.A s.c s.l (by rw [hsl]; exact (ms.1.ext he3).r) he3.le (by omega)
      rw [hsl] at c1
      refine L.call rfl en_14 rfl (c1) ?_
      rintro e w4 ⟨rfl, he4⟩
      refine ⟨_, rfl, ?_⟩
      have he4 : Ext w3 w4 := he4
      have he04 := he3.trans he4
      refine L.va rfl (X.not rfl) ?_
      refine L.nil ?_
      cases hri : rise s.l
      · refine J.iteT rfl ?_
        refine J.seq ?_
        refine J.region ?_
        refine L.va rfl (X.assign (by conv => lhs; whnf)) ?_
        refine L.va rfl (X.assign (by conv => lhs; whnf)) ?_
        refine L.nil ?_
        refine J.ret ?_
        refine thn_ret <|  inB_ret <|  thn_ret <|  thn_ret <|  inB_ret <|  thn_ret <| ?_
        refine fin2 ?_
        have hno := riseAll_no hil (by rw [← es]; exact hri)
        exact ⟨⟨none, 0, 0, []⟩, 1, rfl, fun _ => ⟨rfl, rfl⟩, fun h => by (rw [hno] at h; cases h), ⟨Reads.of_own (own_nil _ 0 0 4), (fun x hx => by cases hx), rfl, Nat.zero_le _⟩, Nat.zero_le _, he04⟩
      · have hrs' : ∀ j, j < i + 1 → rise (ls.getD j ces0).l = true := fun j hj => by
          rcases Nat.lt_or_ge j i with k | k
          · exact hrs j k
          · rw [show j = i by omega, ← es]; exact hri
        have en := fulls_next ls i
        rw [← es, ← el] at en
        have hk4 := hk3.ext he4
        have ho4 := ho3.ext he4
        have hL4 := hL3.ext he4
        have lln : l.length ≤ i := by rw [el]; exact fulls_len _ _
        refine J.iteF rfl ?_
        refine J.skip ?_
        refine J.seq ?_
        refine J.region ?_
        refine L.va rfl (X.move (by conv => lhs; whnf)) ?_
        refine L.va rfl (X.len rfl Try.underlying25) ?_
        refine L.va rfl (X.gtr rfl rfl) ?_
        refine L.nil ?_
        refine J.dec rfl (fun hpos => ?_) (fun hpos => ?_)
        · rw [if_pos (by omega)] at en
          refine J.region ?_
          refine L.va rfl (X.move (by conv => lhs; whnf)) ?_
          refine L.va rfl (X.move (by conv => lhs; whnf)) ?_
          refine L.va rfl (X.nilCheck rfl) ?_
          refine L.va rfl (X.fieldAddr rfl Try.underlying41 rfl sz_35 (by decide)) ?_
          refine L.va rfl (X.load rfl sc_35 (by first | exact Ld.blk hk4 rfl | exact hA | exact lx)) ?_
          refine L.va rfl (X.move (by conv => lhs; whnf)) ?_
          refine L.bslice (vs := [_]) rfl (Evs.cons (by conv => lhs; whnf) Evs.nil) rfl rfl rfl rfl Try.underlying35 sz_3 zr_3 (by decide) ?_
          intro b5 w5 hb5 hs5 hk5 he5
          have hk45 := hk4.ext he5
          have ho5 := ho4.ext he5
          have hL5 := hL4.ext he5
          have he05 := he04.trans he5
          have z5 := he05.le
          refine L.appendQ (q := l.length + 1) (ys := l ++ [(i : Int)]) rfl rfl rfl Try.underlying35 el_3 (ho5) ((blk_readsN (sz := 1) (q := 1) (l := nums .i64 [(i : Int)]) hk5 hk5.lt rfl)) (by omega) (by simp) (by unfold maxLen; omega) (by omega) ?_
          intro A6 c6 w6 ho6 hg6 hb6 hor6
          have hC6 : TCh 3 w5 w6 := TCh.row ho5 hg6
          have hk46 := hC6.blk hk45 (by decide)
          have hL6 := hC6.own hL5 (by decide)
          have he6 := he05.grw hg6 (fun g hg => (ho5.lt g hg).1)
          refine L.va rfl (X.nilCheck rfl) ?_
          refine L.va rfl (X.fieldAddr rfl Try.underlying41 rfl sz_35 (by decide)) ?_
          refine L.store rfl rfl (by conv => lhs; whnf) rfl sz_35 (hk46) (by first | decide | exact Nat.le_of_ble_eq_true rfl) ?_
          intro w7 hk7 hg7 hs7
          have hC7 : TCh 41 w6 w7 := TCh.put hk46 hg7
          have he7 := he6.grw hg7 (by intro g hg; injection hg with hg; omega)
          have ll : (l ++ [(i : Int)]).length = l.length + 1 := by rw [List.length_append]; rfl
          refine L.nil ?_
          refine J.region ?_
          refine L.va rfl (X.add rfl rfl (by omega)) ?_
          refine L.va rfl (X.move (by conv => lhs; whnf)) ?_
          refine L.nil ?_
          refine ⟨(i + 1, A6, c6, l ++ [(i : Int)]), At1 (by first | rfl | exact at_int rfl (by omega) | exact at_slice rfl (by omega) | exact at_int rfl (by simp)), (by (iterate 24 refine Agr.lk rfl ?_); exact Agr.lk rfl (Agr.hav rfl Agr.rfl')), ?_⟩
          exact ⟨⟨by omega, en.symm, hrs', by rw [ll]; exact hk7, by rw [ll]; exact hC7.own ho6 (by decide), hC7.own hL6 (by decide), he7, by have := he4.le; have := he5.le; have := hg6.size; omega⟩, by show n - (i + 1) < n - i; omega⟩
        · rw [if_neg (by omega), List.append_nil] at en
          refine J.skip ?_
          refine J.region ?_
          refine L.va rfl (X.add rfl rfl (by omega)) ?_
          refine L.va rfl (X.move (by conv => lhs; whnf)) ?_
          refine L.nil ?_
          refine ⟨(i + 1, oA, oc, l), At1 (by first | rfl | exact at_int rfl (by omega) | exact at_slice rfl (by omega) | exact at_int rfl (by simp)), (by (iterate 14 refine Agr.lk rfl ?_); exact Agr.lk rfl (Agr.hav rfl Agr.rfl')), ?_⟩
          exact ⟨⟨by omega, en.symm, hrs', hk4, ho4, hL4, he04, by have := he4.le; omega⟩, by show n - (i + 1) < n - i; omega⟩
    · obtain rfl : i = n := by omega
      have hyes := riseAll_yes (ls := ls) fun j hj => hrs j (by omega)
      have lln : l.length ≤ i := by rw [el]; exact fulls_len _ _
      have hQ : Hq ls w.heap.size d (B1, B2) (oA, oc) w3 l := ⟨by rw [hl]; exact hk3, ho3, by rw [hl]; exact hL3, fun s hs' => (hs s hs').1.ext he3, by omega, fun x hx => by
        rw [el] at hx
        have := fulls_mem.1 hx
        omega, by omega, by omega⟩
      have c1 := (Hq.kit ls w.heap.size d (B1, B2) (oA, oc)).init_ hQ (fun q hq => by
        have := mem_at hq
        rw [el] at this
        exact (fulls_mem.1 (by rw [← el] at this ⊢; exact this)).2.2)
      have hH := Hs.init ls
      rw [hl, ← el] at hH
      refine J.exit ?_
      refine J.seq ?_
      refine J.region ?_
      refine L.va rfl (X.move (by conv => lhs; whnf)) ?_
      refine L.va rfl (X.mkI rfl Try.underlying39 rfl) ?_
      refine L.call rfl en_15 rfl (c1) ?_
      rintro e w4 ⟨rfl, hQ4, hC4⟩
      refine ⟨_, rfl, ?_⟩
      generalize initHk (kapH ls) l (l.length / 2) = l4 at *
      have he4 : Ext w w4 := ((Chg.of_ext he3).trans hC4 fun _ _ hh => hh).below (Nat.le_refl _) hQ.tch_ge
      obtain ⟨F, hF⟩ : ∃ F, F = tot (ls.map Ces.con) := ⟨_, rfl⟩
      have hF8 : F ≤ ls.length * 1000 := by rw [hF]; exact tot_le fun s hs' => by have h1 := (hs s hs').1.l; have h2 := (hs s hs').2.2.1; omega
      refine L.nil ?_
      refine J.seq ?_
      refine J.region ?_
      refine L.va rfl (X.assign (by conv => lhs; whnf)) ?_
      refine L.nil ?_
      refine J.seq ?_
      refine J.block ?_
      refine J.loop (X := Nat × List Ces × List Int × Option Addr × Nat × List Ce) [2, 3, 7, 8, 9, 10, 11, 43, 44, 45, 46, 47, 48, 49, 50, 51, 52, 53, 54, 55, 56, 57, 58, 59, 60, 61, 62, 63, 64, 65, 66, 67, 68, 69, 70, 71, 72, 73, 74, 75, 76, 77, 78, 79, 80, 81, 82, 83] (fun (f, rest, l, tA, tc, o) => [(7, .slice tA o.length tc)]) (fun (f, rest, l, tA, tc, o) w' => rest.length = ls.length ∧ Hq rest w.heap.size d (B1, B2) (oA, oc) w' l ∧ Hs rest l ∧ (∀ s ∈ rest, s.n ≤ s.c ∧ ∀ x ∈ s.l, x.LtQ 20) ∧ tot (rest.map Ces.con) = f ∧ f ≤ F ∧ mP eJ vJ f (rest.map Ces.con) (o.map Ce.con) = mP eJ vJ F (ls.map Ces.con) [] ∧ o.length + f ≤ F ∧ (∀ y ∈ o, y.OwnQ (20 + (F - f)) w.heap.size w') ∧ w'.ownsRow w.heap.size 48 4 (.slice tA o.length tc) o.length (o.flatMap Ce.vs) ∧ Ext w w') (fun (f, _) => f) ((F, ls, l4, none, 0, [])) (At1 (by first | rfl | exact at_int rfl (by omega) | exact at_slice rfl (by omega) | exact at_int rfl (by simp))) ?_ ?_
      · exact ⟨rfl, hQ4, hH, fun s hs' => ⟨(hs s hs').2.1, (hs s hs').2.2.2⟩, hF.symm, Nat.le_refl _, rfl, by show 0 + F ≤ F; omega, (fun y hy => by cases hy), own_nil _ _ _ _, he4⟩
      · rintro ⟨f, rest, l, tA, tc, o⟩ g w5 ⟨hrl, hQ5, H5, hcp5, hf5, hfF, hm5, hol, hO5, ho5, he5⟩
        have z5 := he5.le
        have hlen5 : ∀ s ∈ rest, s.l.length = s.n := fun s hs' => (hQ5.hs s hs').l
        refine J.seq ?_
        refine J.seq ?_
        refine J.region ?_
        refine L.va rfl (X.move (by conv => lhs; whnf)) ?_
        refine L.call rfl en_16 rfl (hQ5.len_) ?_
        rintro e _ ⟨rfl, rfl⟩
        refine ⟨_, rfl, ?_⟩
        refine L.va rfl (X.gtr rfl rfl) ?_
        refine L.nil ?_
        refine J.dec rfl (fun hpos => ?_) (fun hpos => ?_)
        · have hpos : 0 < l.length := by omega
          have pm := (H5.mem _).1 (mem_at (i := 0) hpos)
          obtain ⟨p, hp⟩ := Int.eq_ofNat_of_zero_le pm.1
          have hbest := H5.best hpos hlen5 (by omega) hp.symm
          have c6 := hQ5.next_ H5 hpos (fun s hs' => (hcp5 s hs').1) hp.symm
          obtain ⟨s, hs5⟩ : ∃ s, s = rest.getD p ces0 := ⟨_, rfl⟩
          rw [← hs5] at c6 hbest
          obtain ⟨x, hx5⟩ : ∃ x, x = s.l.getD 0 ce0 := ⟨_, rfl⟩
          rw [← hx5] at c6 hbest
          refine J.skip ?_
          refine J.block ?_
          refine J.seq ?_
          refine J.region ?_
          refine L.va rfl (X.move (by conv => lhs; whnf)) ?_
          refine L.call rfl en_17 rfl (c6) ?_
          rintro e w6 ⟨rfl, ⟨l6, hQ6, H6⟩, hC6⟩
          refine ⟨_, rfl, ?_⟩
          refine L.alloc rfl zr_48 ?_
          intro b7 w7 hb7 hs7 hk7 he7
          refine L.storeAgg (vs := [_, _, _, _]) rfl rfl rfl rfl sz_48 (hk7) rfl ?_
          intro w8 hk8 hg8 hs8
          have hk8 : Blk w8 b7 48 x.vs.toArray := hk8
          have he68 : Ext w6 w8 := he7.grw hg8 (by intro g hg; injection hg with hg; omega)
          have he6 : Ext w w6 := ((Chg.of_ext he5).trans hC6 fun _ _ hh => hh).below (Nat.le_refl _) hQ5.nch_ge
          have he8 := he6.trans he68
          have hQ8 := hQ6.ext he68
          have ho8 := (hQ5.nch_own hC6 ho5 (by decide)).ext he68
          have hO8 : ∀ y ∈ o, y.OwnQ (20 + (F - f)) w.heap.size w8 := fun y hy => (hQ5.nch_cell hC6 (hO5 y hy)).ext he68
          have hpl : p < rest.length := by omega
          have hsm := memD (l := rest) (i := p) (d := ces0) hpl
          rw [← hs5] at hsm
          have hsA := hQ5.hs s hsm
          have hsn : 0 < s.n := by have := pm.2.2; unfold Full at this; rw [hp, Int.toNat_natCast, ← hs5] at this; exact this
          have hxm : x ∈ s.l := by rw [hx5]; exact memD (by rw [hsA.l]; exact hsn)
          have hxL := (hcp5 s hsm).2 x hxm
          have hxA : x.At w.heap.size w8 := ((hsA.h x hxm).low (hQ5.nch_low hC6) (Nat.le_refl _)).ext he68
          have hcp6 : ∀ u ∈ rest.set p (tailC s), u.n ≤ u.c ∧ ∀ y ∈ u.l, y.LtQ 20 := fun u hu => by
            rcases List.mem_or_eq_of_mem_set hu with hu | rfl
            · exact hcp5 u hu
            · have := (hcp5 s hsm).1
              exact ⟨by show s.n - 1 ≤ s.c - 1; omega, fun y hy => (hcp5 s hsm).2 y (List.mem_of_mem_drop hy)⟩
          have hts := tot_set hbest.at_
          obtain ⟨f', rfl⟩ : ∃ f', f = f' + 1 := ⟨f - 1, by omega⟩
          have hf6 : tot ((rest.set p (tailC s)).map Ces.con) = f' := by rw [con_set]; omega
          refine L.nil ?_
          refine J.seq ?_
          refine J.region ?_
          refine L.va rfl (X.move (by conv => lhs; whnf)) ?_
          refine L.va rfl (X.len rfl Try.underlying25) ?_
          refine L.va rfl (X.sub rfl rfl (by omega)) ?_
          refine L.va rfl (X.assign (by conv => lhs; whnf)) ?_
          refine L.nil ?_
          refine J.seq ?_
          refine J.seq ?_
          rcases nil_or_snoc o with rfl | ⟨o0, z, rfl⟩
          · refine J.quiet mixed (by kernel_rfl) ?_
            refine Qt.va rfl (fun w' hw => X.move (by conv => lhs; whnf)) ?_
            refine Qt.va rfl (fun w' hw => X.lss rfl rfl) ?_
            refine Qt.va rfl (fun w' hw => X.move (by conv => lhs; whnf)) ?_
            refine Qt.caseDecT (k := 53) rfl (by decide) ?_
            refine Qt.no rfl ?_
            refine Qt.no rfl ?_
            refine Qt.no rfl ?_
            refine Qt.no rfl ?_
            refine Qt.no rfl ?_
            refine Qt.no rfl ?_
            refine Qt.no rfl ?_
            refine Qt.no rfl ?_
            refine Qt.va rfl (fun w' hw => X.pickT rfl (by conv => lhs; whnf)) ?_
            refine Qt.nil (fun w9 hq => ?_)
            have he9 := he8.trans hq
            have hk9 := hk8.ext hq
            have ho9 := ho8.ext hq
            have hQ9 := hQ8.ext hq
            have hO9 : ∀ y ∈ ([] : List Ce), y.OwnQ (20 + (F - (f' + 1))) w.heap.size w9 := fun y hy => (hO8 y hy).ext hq
            refine J.iteT rfl ?_
            refine J.seq ?_
            refine J.region ?_
            refine L.va rfl (X.move (by conv => lhs; whnf)) ?_
            refine L.va rfl (X.loadAgg rfl (range_l hk9) Try.underlying48 rfl (by kernel_rfl)) ?_
            refine L.call rfl en_18 rfl (town x (q := 20) (by decide) w9 he9.le (hxA.ext hq) hxL) ?_
            rintro e w10 ⟨y, rfl, hyc, hy10, he10⟩
            refine ⟨_, rfl, ?_⟩
            have he010 := he9.trans he10
            have ho10 := ho9.ext he10
            refine L.bslice1 (l := [_, _, _, _]) rfl rfl rfl Try.underlying25 sz_48 zr_48 rfl ?_
            intro b11 w11 hb11 hs11 hk11 he11
            have ho11 := ho10.ext he11
            have he011 := he010.trans he11
            have z11 := he011.le
            refine L.appendV (q := ([] : List Ce).length + 1) (ys := ((([] : List Ce) ++ [y]).flatMap Ce.vs)) rfl rfl rfl Try.underlying25 el_48 (ho11) ((blk_readsN (sz := 4) (q := 1) (l := y.vs) hk11 hk11.lt rfl)) (by first | rfl | exact strs_ones _ | assumption) (by omega) (by simp) (by unfold maxLen; omega) (by omega) ?_
            intro A12 c12 w12 ho12 hg12 hb12 hor12
            have hC12 : TCh 48 w11 w12 := TCh.row ho11 hg12
            have hB12 : Below w.heap.size w11 w12 := hb12
            have he12 := he011.grw hg12 (fun g hg => (ho11.lt g hg).1)
            have ll : (([] : List Ce) ++ [y]).length = ([] : List Ce).length + 1 := by rw [List.length_append]; rfl
            refine L.va rfl (X.assign (by conv => lhs; whnf)) ?_
            refine L.nil ?_
            refine J.exit ?_
            refine ⟨(f', rest.set p (tailC s), l6, A12, c12, ([] : List Ce) ++ [y]), At1 (at_slice rfl ll.symm), (by (iterate 29 refine Agr.lk rfl ?_); exact Agr.lk rfl (Agr.hav rfl Agr.rfl')), ?_⟩
            have hm6 := mP_push (E := eJ) (V := vJ) (f := f') (out := ([] : List Ce).map Ce.con) hbest (fun l hl => by cases hl)
            refine ⟨⟨by rw [List.length_set]; exact hrl, ((hQ9.ext he10).ext he11).put hB12 hC12, H6, hcp6, hf6, by omega, ?_, by rw [ll]; omega, fun u hu => ?_, by rw [ll]; exact ho12, he12⟩, by show f' < f' + 1; omega⟩
            · rw [con_set, List.map_append, ← hm5, hm6, ← hyc]
              rfl
            · have hu9 : u.OwnQ (20 + (F - f')) w.heap.size w11 := by
                rcases List.mem_append.1 hu with hu | hu
                · exact (((hO9 u hu).ext he10).ext he11).wide (by omega)
                · rw [List.mem_singleton] at hu
                  rw [hu]
                  exact (hy10.ext he11).wide (by omega)
              exact hu9.put hB12 hC12 (by decide)
          · have ol : (o0 ++ [z]).length = o0.length + 1 := by rw [List.length_append]; rfl
            have gz : (o0 ++ [z])[o0.length]? = some z := by rw [List.getElem?_append_right (Nat.le_refl _), Nat.sub_self]; rfl
            have hzm : z ∈ o0 ++ [z] := List.mem_append_right _ (List.mem_singleton.2 rfl)
            have hAo := own_ne ho8 (by omega)
            refine J.quiet mixed (by kernel_rfl) ?_
            refine Qt.va rfl (fun w' hw => X.move (by conv => lhs; whnf)) ?_
            refine Qt.va rfl (fun w' hw => X.lss rfl rfl) ?_
            refine Qt.va rfl (fun w' hw => X.move (by conv => lhs; whnf)) ?_
            refine Qt.caseDecF (k := 53) rfl (by omega) ?_
            refine Qt.va rfl (fun w' hw => X.move (by conv => lhs; whnf)) ?_
            refine Qt.va rfl (fun w' hw => X.move (by conv => lhs; whnf)) ?_
            refine Qt.va rfl (fun w' hw => X.indexAddrn (j := o0.length) rfl (show Value.int .i64 (((o0 ++ [z]).length : Int) - 1) = _ by rw [show (((o0 ++ [z]).length : Int) - 1) = (o0.length : Int) by omega]) Try.underlying25 sz_48 hAo (by omega)) ?_
            refine Qt.va rfl (fun w' hw => X.fieldP rfl Try.underlying48 rfl sz_44 (by decide) hAo) ?_
            refine Qt.va rfl (fun w' hw => X.load rfl sc_44 (Ld.flat2 ce_len (Reads.of_own (ho8.ext hw)) gz (r := 0) rfl)) ?_
            refine Qt.va rfl (fun w' hw => X.fieldAddr rfl Try.underlying48 rfl sz_44 (by decide)) ?_
            refine Qt.va rfl (fun w' hw => X.load rfl sc_44 (Ld.blk (hk8.ext hw) rfl)) ?_
            refine Qt.va rfl (fun w' hw => X.neq rfl rfl) ?_
            refine Qt.va rfl (fun w' hw => X.pickF rfl (by conv => lhs; whnf)) ?_
            refine Qt.nil (fun w9 hq => ?_)
            have he9 := he8.trans hq
            have hk9 := hk8.ext hq
            have ho9 := ho8.ext hq
            have hQ9 := hQ8.ext hq
            have hO9 : ∀ y ∈ o0 ++ [z], y.OwnQ (20 + (F - (f' + 1))) w.heap.size w9 := fun y hy => (hO8 y hy).ext hq
            refine J.ndec rfl (fun hne => ?_) (fun hne => ?_)
            · have hkk : z.con.k ≠ x.con.k := by show z.k ≠ x.k; intro h; apply hne; omega
              refine J.seq ?_
              refine J.region ?_
              refine L.va rfl (X.move (by conv => lhs; whnf)) ?_
              refine L.va rfl (X.loadAgg rfl (range_l hk9) Try.underlying48 rfl (by kernel_rfl)) ?_
              refine L.call rfl en_18 rfl (town x (q := 20) (by decide) w9 he9.le (hxA.ext hq) hxL) ?_
              rintro e w10 ⟨y, rfl, hyc, hy10, he10⟩
              refine ⟨_, rfl, ?_⟩
              have he010 := he9.trans he10
              have ho10 := ho9.ext he10
              refine L.bslice1 (l := [_, _, _, _]) rfl rfl rfl Try.underlying25 sz_48 zr_48 rfl ?_
              intro b11 w11 hb11 hs11 hk11 he11
              have ho11 := ho10.ext he11
              have he011 := he010.trans he11
              have z11 := he011.le
              refine L.appendV (q := (o0 ++ [z]).length + 1) (ys := (((o0 ++ [z]) ++ [y]).flatMap Ce.vs)) rfl rfl rfl Try.underlying25 el_48 (ho11) ((blk_readsN (sz := 4) (q := 1) (l := y.vs) hk11 hk11.lt rfl)) (by first | rfl | exact strs_ones _ | assumption) (by omega) (by simp) (by unfold maxLen; omega) (by omega) ?_
              intro A12 c12 w12 ho12 hg12 hb12 hor12
              have hC12 : TCh 48 w11 w12 := TCh.row ho11 hg12
              have hB12 : Below w.heap.size w11 w12 := hb12
              have he12 := he011.grw hg12 (fun g hg => (ho11.lt g hg).1)
              have ll : ((o0 ++ [z]) ++ [y]).length = (o0 ++ [z]).length + 1 := by rw [List.length_append]; rfl
              refine L.va rfl (X.assign (by conv => lhs; whnf)) ?_
              refine L.nil ?_
              refine J.exit ?_
              refine ⟨(f', rest.set p (tailC s), l6, A12, c12, (o0 ++ [z]) ++ [y]), At1 (at_slice rfl ll.symm), (by (iterate 29 refine Agr.lk rfl ?_); exact Agr.lk rfl (Agr.hav rfl Agr.rfl')), ?_⟩
              have hm6 := mP_push (E := eJ) (V := vJ) (f := f') (out := (o0 ++ [z]).map Ce.con) hbest (fun u hu => by
                rw [List.map_append, List.map_cons, List.map_nil, List.getLast?_concat] at hu
                injection hu with hu
                rw [← hu]
                exact hkk)
              refine ⟨⟨by rw [List.length_set]; exact hrl, ((hQ9.ext he10).ext he11).put hB12 hC12, H6, hcp6, hf6, by omega, ?_, by rw [ll]; omega, fun u hu => ?_, by rw [ll]; exact ho12, he12⟩, by show f' < f' + 1; omega⟩
              · rw [con_set, List.map_append, ← hm5, hm6, ← hyc]
                rfl
              · have hu9 : u.OwnQ (20 + (F - f')) w.heap.size w11 := by
                  rcases List.mem_append.1 hu with hu | hu
                  · exact (((hO9 u hu).ext he10).ext he11).wide (by omega)
                  · rw [List.mem_singleton] at hu
                    rw [hu]
                    exact (hy10.ext he11).wide (by omega)
                exact hu9.put hB12 hC12 (by decide)
            · have hkk : z.con.k = x.con.k := by show z.k = x.k; omega
              have z9 := he9.le
              have hzO := hO9 z hzm
              have hxA9 := hxA.ext hq
              refine J.skip ?_
              refine J.cut (X := Ce × Nat) [10, 11, 68, 69, 70, 71, 72, 73, 74, 75, 76] (fun (y, b10) => [(10, .pointer (some ⟨b10, 0, none⟩)), (11, .int .i64 (eJ z.con x.con))]) (fun (y, b10) w' => Blk w' b10 48 y.vs.toArray ∧ y.con = vJ z.con x.con ∧ y.OwnQ (20 + (F - f')) w.heap.size w' ∧ w9.heap.size ≤ b10 ∧ Ext w9 w') ?_ ?_
              ·
                refine J.draw (ℓ := 1000000) (S := Ext w9) mixed (fun w10 hS hS_h => ?_)
                refine D.va 0 rfl (by kernel_rfl) (fun _ _ _ h => h) rfl (fun w' hw => X.move (by conv => lhs; whnf)) hS ?_
                refine D.va 1 rfl (by kernel_rfl) (fun _ _ _ h => h) rfl (fun w' hw => X.move (by conv => lhs; whnf)) hS ?_
                refine D.va 2 rfl (by kernel_rfl) (fun _ _ _ h => h) rfl (fun w' hw => X.indexAddrn (j := o0.length) rfl (show Value.int .i64 (((o0 ++ [z]).length : Int) - 1) = _ by rw [show (((o0 ++ [z]).length : Int) - 1) = (o0.length : Int) by omega]) Try.underlying25 sz_48 hAo (by omega)) hS ?_
                refine D.va 3 rfl (by kernel_rfl) (fun _ _ _ h => h) rfl (fun w' hw => X.loadRow (cs := z.vs) rfl (Reads.of_own (ho9.ext hw)) (fun r u hu => flat_row ce_len gz r u hu) (Nat.zero_lt_succ _) Try.underlying48 rfl (by kernel_rfl)) hS ?_
                refine D.va 4 rfl (by kernel_rfl) (fun _ _ _ h => h) rfl (fun w' hw => X.loadAgg rfl (range_l (hk9.ext hw)) Try.underlying48 rfl (by kernel_rfl)) hS ?_
                refine D.two 5 9 (by kernel_rfl) rfl rfl ?_ ?_
                · have zS := hS.le
                  have c10 := ajoin (w := w10) (N := w10.heap.size) (q := 20 + (F - (f' + 1))) (Nat.le_refl _) ((hzO.ext hS).at (by omega)) ((hxA9.ext hS).more (by omega)) hzO.L (hxL.more (by omega)) (by omega)
                  refine L.call rfl en_19 rfl (c10) ?_
                  rintro e w11 ⟨y, rfl, hyc, hy, hyL, he11⟩
                  refine ⟨_, rfl, ?_⟩
                  have hS1 := hS.trans he11
                  refine L.nil ?_
                  refine ⟨fun _ => hS1, ?_⟩
                  have z11 := hS1.le
                  refine D.va 6 rfl (by kernel_rfl) (fun _ _ _ h => h) rfl (fun w' hw => X.move (by conv => lhs; whnf)) hS1 ?_
                  refine D.va 7 rfl (by kernel_rfl) (fun _ _ _ h => h) rfl (fun w' hw => X.extract rfl rfl) hS1 ?_
                  refine D.va 8 rfl (by kernel_rfl) (fun _ _ _ h => h) rfl (fun w' hw => X.extract rfl rfl) hS1 ?_
                  refine D.one 9 (by kernel_rfl) rfl ?_
                  refine L.alloc rfl zr_48 ?_
                  intro b12 w12 hb12 hs12 hk12 he12
                  have hS2 := hS1.trans he12
                  refine L.nil ?_
                  refine ⟨fun _ => hS2, ?_⟩
                  refine D.one 10 (by kernel_rfl) rfl ?_
                  refine L.storeAgg (vs := [_, _, _, _]) rfl rfl rfl rfl sz_48 (hk12) rfl ?_
                  intro w13 hk13 hg13 hs13
                  have hS3 := hS2.grw hg13 (by intro g hg; injection hg with hg; omega)
                  refine L.nil ?_
                  refine ⟨fun _ => hS3, ?_⟩
                  refine D.va 11 rfl (by kernel_rfl) (fun _ _ _ h => h) rfl (fun w' hw => X.assign (by conv => lhs; whnf)) hS3 ?_
                  refine D.done (by kernel_rfl) ?_
                  refine ⟨(y, b12), At2 (by first | rfl | exact at_int rfl (by omega) | exact at_slice rfl (by omega) | exact at_int rfl (by simp)) (by first | rfl | exact at_int rfl (by omega) | exact at_slice rfl (by omega) | exact at_int rfl (by simp)), (by (iterate 11 refine Agr.lk rfl ?_); exact Agr.rfl'), ?_⟩
                  exact ⟨hk13, hyc, ((hy.low (by omega)).ownQ (hyL.more (by omega))).ext (he12.grw hg13 (by intro g hg; injection hg with hg; omega)), by omega, hS3⟩
                · refine L.alloc rfl zr_48 ?_
                  intro b12 w12 hb12 hs12 hk12 he12
                  have hS1 := hS.trans he12
                  refine L.nil ?_
                  refine ⟨fun _ => hS1, ?_⟩
                  have zS := hS.le
                  have z12 := hS1.le
                  have c10 := ajoin (w := w12) (N := w12.heap.size) (q := 20 + (F - (f' + 1))) (Nat.le_refl _) ((hzO.ext hS1).at (by omega)) ((hxA9.ext hS1).more (by omega)) hzO.L (hxL.more (by omega)) (by omega)
                  refine D.one 5 (by kernel_rfl) rfl ?_
                  refine L.call rfl en_19 rfl (c10) ?_
                  rintro e w11 ⟨y, rfl, hyc, hy, hyL, he11⟩
                  refine ⟨_, rfl, ?_⟩
                  have hS2 := hS1.trans he11
                  refine L.nil ?_
                  refine ⟨fun _ => hS2, ?_⟩
                  have hk12 := hk12.ext he11
                  have z11 := hS2.le
                  refine D.va 6 rfl (by kernel_rfl) (fun _ _ _ h => h) rfl (fun w' hw => X.move (by conv => lhs; whnf)) hS2 ?_
                  refine D.va 7 rfl (by kernel_rfl) (fun _ _ _ h => h) rfl (fun w' hw => X.extract rfl rfl) hS2 ?_
                  refine D.va 8 rfl (by kernel_rfl) (fun _ _ _ h => h) rfl (fun w' hw => X.extract rfl rfl) hS2 ?_
                  refine D.one 10 (by kernel_rfl) rfl ?_
                  refine L.storeAgg (vs := [_, _, _, _]) rfl rfl rfl rfl sz_48 (hk12) rfl ?_
                  intro w13 hk13 hg13 hs13
                  have hS3 := hS2.grw hg13 (by intro g hg; injection hg with hg; omega)
                  refine L.nil ?_
                  refine ⟨fun _ => hS3, ?_⟩
                  have hB13 : Below w.heap.size w11 w13 := Chg.below (.of_grown hg13 (S := fun g => g = b12) (fun g hg => by injection hg with hg; exact hg.symm)) (by omega) (fun g hg => by omega)
                  refine D.va 11 rfl (by kernel_rfl) (fun _ _ _ h => h) rfl (fun w' hw => X.assign (by conv => lhs; whnf)) hS3 ?_
                  refine D.done (by kernel_rfl) ?_
                  refine ⟨(y, b12), At2 (by first | rfl | exact at_int rfl (by omega) | exact at_slice rfl (by omega) | exact at_int rfl (by simp)) (by first | rfl | exact at_int rfl (by omega) | exact at_slice rfl (by omega) | exact at_int rfl (by simp)), (by (iterate 11 refine Agr.lk rfl ?_); exact Agr.rfl'), ?_⟩
                  exact ⟨hk13, hyc, ((hy.low (by omega)).ownQ (hyL.more (by omega))).put hB13 (TCh.put hk12 hg13) (by decide), by omega, hS3⟩
              · rintro ⟨y, b10⟩ g w10 ⟨hk10, hyc, hy, hb10, he10⟩
                have he010 := he9.trans he10
                refine J.seq ?_
                refine J.seq ?_
                refine J.region ?_
                refine L.va rfl (X.move (by conv => lhs; whnf)) ?_
                refine L.va rfl (X.neq rfl rfl) ?_
                refine L.nil ?_
                refine J.ndec rfl (fun herr => ?_) (fun herr => ?_)
                · have hm6 := mP_err (E := eJ) (V := vJ) (f := f') (out := o0.map Ce.con) (x := z.con) hbest hkk herr
                  refine J.seq ?_
                  refine J.region ?_
                  refine L.va rfl (X.move (by conv => lhs; whnf)) ?_
                  refine L.va rfl (X.assign (by conv => lhs; whnf)) ?_
                  refine L.va rfl (X.assign (by conv => lhs; whnf)) ?_
                  refine L.nil ?_
                  refine J.ret ?_
                  refine thn_ret <|  inB_ret <|  thn_ret <|  inB_ret <|  thn_ret <| ?_
                  refine fin2 ?_
                  refine ⟨⟨none, 0, 0, []⟩, eJ z.con x.con, rfl, fun h => by (rw [hyes] at h; cases h), fun _ => ?_, ⟨Reads.of_own (own_nil _ 0 0 4), (fun x hx => by cases hx), rfl, Nat.zero_le _⟩, Nat.zero_le _, he010⟩
                  rw [List.map_append] at hm5
                  rw [← hF, ← hm5]
                  exact hm6.symm
                · have herr : eJ z.con x.con = 0 := by omega
                  have hm6 := mP_join (E := eJ) (V := vJ) (f := f') (out := o0.map Ce.con) (x := z.con) hbest hkk herr
                  refine J.skip ?_
                  refine J.region ?_
                  refine L.va rfl (X.move (by conv => lhs; whnf)) ?_
                  refine L.va rfl (X.move (by conv => lhs; whnf)) ?_
                  refine L.va rfl (X.loadAgg rfl (range_l hk10) Try.underlying48 rfl (by kernel_rfl)) ?_
                  refine L.va rfl (X.indexAddrn (j := o0.length) rfl (show Value.int .i64 (((o0 ++ [z]).length : Int) - 1) = _ by rw [show (((o0 ++ [z]).length : Int) - 1) = (o0.length : Int) by omega]) Try.underlying25 sz_48 hAo (by omega)) ?_
                  refine L.storeOC (f := Ce.vs) (z := y) (i := o0.length) ce_len rfl rfl rfl rfl sz_48 (ho9.ext he10) (by omega) rfl ?_
                  intro w11 ho11 hg11 hs11
                  have ho10 := ho9.ext he10
                  have hC11 : TCh 48 w10 w11 := TCh.row ho10 hg11
                  have he11 := he010.grw hg11 (fun g hg => (ho10.lt g hg).1)
                  have z10 := he010.le
                  have hB11 : Below w.heap.size w10 w11 := Chg.below (.of_grown hg11 (S := fun g => w.heap.size ≤ g) (fun g hg => (ho10.lt g hg).1)) (by omega) (fun g hg => hg)
                  have eo : (o0 ++ [z]).set o0.length y = o0 ++ [y] := by
                    rw [List.set_append_right _ _ (Nat.le_refl _), Nat.sub_self]
                    rfl
                  rw [eo] at ho11
                  have ll : (o0 ++ [y]).length = (o0 ++ [z]).length := by rw [List.length_append, List.length_append]; rfl
                  refine L.nil ?_
                  refine ⟨(f', rest.set p (tailC s), l6, tA, tc, o0 ++ [y]), At1 (at_slice rfl ll.symm), (by (iterate 6 refine Agr.lk rfl ?_); refine Agr.lk rfl ?_; refine Agr.hav rfl ?_; (iterate 23 refine Agr.lk rfl ?_); exact Agr.lk rfl (Agr.hav rfl Agr.rfl')), ?_⟩
                  refine ⟨⟨by rw [List.length_set]; exact hrl, (hQ9.ext he10).put hB11 hC11, H6, hcp6, hf6, by omega, ?_, by rw [ll]; omega, fun u hu => ?_, by rw [ll]; exact ho11, he11⟩, by show f' < f' + 1; omega⟩
                  · rw [List.map_append] at hm5
                    rw [con_set, List.map_append, ← hm5]
                    show mP eJ vJ f' _ (o0.map Ce.con ++ [y.con]) = _
                    rw [hyc]
                    exact hm6.symm
                  · have hu10 : u.OwnQ (20 + (F - f')) w.heap.size w10 := by
                      rcases List.mem_append.1 hu with hu | hu
                      · exact ((hO9 u (List.mem_append_left _ hu)).ext he10).wide (by omega)
                      · rw [List.mem_singleton] at hu
                        rw [hu]
                        exact hy
                    exact hu10.put hB11 hC11 (by decide)
        · have hz : l.length = 0 := by omega
          have hend := mP_end (E := eJ) (V := vJ) (f := f) (out := o.map Ce.con) (H5.done hz hlen5)
          refine J.exit ?_
          refine J.seq ?_
          refine J.region ?_
          refine L.va rfl (X.move (by conv => lhs; whnf)) ?_
          refine L.va rfl (X.assign (by conv => lhs; whnf)) ?_
          refine L.va rfl (X.assign (by conv => lhs; whnf)) ?_
          refine L.nil ?_
          refine J.ret ?_
          refine fin2 ?_
          refine ⟨⟨tA, o.length, tc, o⟩, 0, rfl, fun h => by (rw [hyes] at h; cases h), fun _ => ?_, ⟨Reads.of_own ho5, fun y hy => (hO5 y hy).at he5.le, rfl, by show o.length ≤ _; unfold maxLen; omega⟩, by show o.length ≤ _; omega, he5⟩
          rw [← hF, ← hm5, hend]
end Go.Proofs.Ytnndkepnabddgaa
namespace Go.Proofs.Ytnndkepnabddgaa
set_option maxRecDepth 100000
open Go.RowKit H
set_option linter.unusedVariables false
theorem zsOf_u32b (xs : List (Nm .u32)) : InB 4294967296 (zsOf xs) := by
  intro z hz
  unfold zsOf at hz
  obtain ⟨a, _, rfl⟩ := List.mem_map.1 hz
  exact a.u32
theorem zsOf_u8b (xs : List (Nm .u8)) : InB 256 (zsOf xs) := zsOf_u8 xs
theorem flB (x : Fl) : x.b < 18446744073709551616 := of_decide_eq_true x.ok
abbrev WhT := (Nm .i64) × (Nm .i64) × (List (Nm .u32)) × (Nm .i64) × (Nm .i64)
abbrev ReT := (List (Nm .u8)) × (Fl) × (Fl)
abbrev CeT := (Nm .u64) × (Nm .i64) × (List WhT) × (List ReT)
theorem whs_of {w : World} {B n : Nat} {A : Option Addr} {xs : List WhT} (h : LiesSlice w B A n xs) : ∃ l : List Wh, l.length = n ∧ Reads w B 5 A n (l.flatMap Wh.vs) ∧ ∀ x ∈ l, x.At B w := by
  obtain ⟨l, h1, h2, h3⟩ := h.rows (X := Wh) (f := Wh.vs) (g := fun v => v.At B w) (fun _ => rfl) (fun us a hl => by
    obtain ⟨u1, u2, rfl, k1, ⟨v1, v2, rfl, k2, ⟨x1, x2, rfl, ⟨A, n, c, rfl, hn, hc, _, hl⟩, ⟨y1, y2, rfl, k3, k4⟩⟩⟩⟩ := hl
    refine ⟨⟨a.1.z, a.2.1.z, A, n, c, zsOf a.2.2.1, a.2.2.2.1.z, a.2.2.2.2.z⟩, ?_, hl.reads, Nat.le_trans hn hc, ⟨a.1.i64, a.2.1.i64, zsOf_u32b _, a.2.2.2.1.i64, a.2.2.2.2.i64⟩, hn⟩
    rw [show u1 = [.int .i64 a.1.z] from k1, show v1 = [.int .i64 a.2.1.z] from k2, show y1 = [.int .i64 a.2.2.2.1.z] from k3, show y2 = [.int .i64 a.2.2.2.2.z] from k4]
    rfl)
  exact ⟨l, h1, h2, h3⟩
theorem res_of {w : World} {B n : Nat} {A : Option Addr} {xs : List ReT} (h : LiesSlice w B A n xs) : ∃ l : List Re, l.length = n ∧ Reads w B 3 A n (l.flatMap Re.vs) ∧ ∀ x ∈ l, x.At B w := by
  obtain ⟨l, h1, h2, h3⟩ := h.rows (X := Re) (f := Re.vs) (g := fun v => v.At B w) (fun _ => rfl) (fun us a hl => by
    obtain ⟨u1, u2, rfl, ⟨A, n, c, rfl, hn, hc, _, hl⟩, ⟨v1, v2, rfl, k2, k3⟩⟩ := hl
    refine ⟨⟨A, n, c, zsOf a.1, a.2.1.b, a.2.2.b⟩, ?_, hl.reads, Nat.le_trans hn hc, zsOf_u8b _, flB _, flB _⟩
    rw [show v1 = [.float .f64 a.2.1.b] from k2, show v2 = [.float .f64 a.2.2.b] from k3]
    rfl)
  exact ⟨l, h1, h2, h3⟩
theorem ce_of {w : World} {B : Nat} {us : List Value} {x : CeT} (h : Lay.lies w B us x) : ∃ r : Ce, us = r.vs ∧ r.At B w := by
  obtain ⟨u1, u2, rfl, k1, ⟨v1, v2, rfl, k2, ⟨x1, x2, rfl, ⟨A, n, c, rfl, hn, hc, _, hl⟩, ⟨A', n', c', rfl, hn', hc', _, hl'⟩⟩⟩⟩ := h
  obtain ⟨li, h1, h2, h3⟩ := whs_of hl
  obtain ⟨lr, h4, h5, h6⟩ := res_of hl'
  obtain ⟨m, hm⟩ := Int.eq_ofNat_of_zero_le x.1.u64.1
  refine ⟨⟨m, x.2.1.z, A, n, c, li, A', n', c', lr⟩, ?_, (by show m < 18446744073709551616; have := x.1.u64.2; omega), x.2.1.i64, h2, h3, h1, Nat.le_trans hn hc, h5, h6, h4, Nat.le_trans hn' hc'⟩
  rw [show u1 = [.int .u64 x.1.z] from k1, show v1 = [.int .i64 x.2.1.z] from k2, hm]
  rfl
theorem ces_of {w : World} {B n c : Nat} {A : Option Addr} {xs : List CeT} (h : LiesSlice w B A n xs) (hm : n ≤ maxLen) : ∃ l : List Ce, (Ces.mk A n c l).At B w := by
  obtain ⟨l, h1, h2, h3⟩ := h.rows (X := Ce) (f := Ce.vs) (g := fun r => r.At B w) (fun _ => rfl) (fun us a hl => ce_of hl)
  exact ⟨l, h2, h3, h1, hm⟩
end Go.Proofs.Ytnndkepnabddgaa
namespace Go.Proofs.Ytnndkepnabddgaa
set_option maxRecDepth 100000
open Go.RowKit H
set_option linter.unusedVariables false
theorem cells_of {w : World} {B : Nat} {us : List Value} {x : List CeT} (h : Lay.lies w B us x) : ∃ s : Ces, us = s.vs ∧ s.At B w ∧ s.n ≤ s.c := by
  obtain ⟨A, n, c, rfl, hn, hc, _, hl⟩ := h
  obtain ⟨l, hL⟩ := ces_of (c := c) hl (Nat.le_trans hn hc)
  exact ⟨⟨A, n, c, l⟩, rfl, hL, hn⟩
theorem lists_of {w : World} {B n : Nat} {A : Option Addr} {xs : List (List CeT)} (h : LiesSlice w B A n xs) : ∃ ls : List Ces, ls.length = n ∧ Reads w B 1 A n (ls.flatMap Ces.vs) ∧ ∀ s ∈ ls, s.At B w ∧ s.n ≤ s.c := by
  obtain ⟨l, h1, h2, h3⟩ := h.rows (X := Ces) (f := Ces.vs) (g := fun s => s.At B w ∧ s.n ≤ s.c) (fun _ => rfl) (fun us a hl => cells_of hl)
  exact ⟨l, h1, h2, h3⟩
theorem Ce.Lt.q {x : Ce} (h : x.Lt) : x.LtQ 20 := ⟨h.i, h.r, h.li, h.lr⟩
theorem rlight16 (A : Option Addr) (n c : Nat) (ls : List Ces) {w : World} {N : Nat} (hr : Reads w N 1 A n (ls.flatMap Ces.vs)) (hs : ∀ s ∈ ls, s.At N w) (hl : ls.length = n) (hN : N ≤ w.heap.size) (hm : n ≤ maxLen) : Calls Try.prog 5 #[.slice A n c] w fun e w' => Ext w w' ∧ ∃ z : Bool, e = .returned (.bool z) ∧ (z = true → n ≤ 8 ∧ ∀ s ∈ ls, s.n ≤ 60 ∧ ∀ x ∈ s.l, x.Lt) := by
  unfold maxLen at hm
  refine enter Try.func5 rfl (by kernel_rfl) ?_
  refine J.seq ?_
  refine J.region ?_
  refine L.va rfl (X.assign (by conv => lhs; whnf)) ?_
  refine L.nil ?_
  refine J.seq ?_
  refine J.seq ?_
  refine J.region ?_
  refine L.va rfl (X.move (by conv => lhs; whnf)) ?_
  refine L.va rfl (X.len rfl Try.underlying22) ?_
  refine L.va rfl (X.gtr rfl rfl) ?_
  refine L.nil ?_
  refine J.dec rfl (fun h1 => ?_) (fun h1 => ?_)
  · refine J.seq ?_
    refine J.region ?_
    refine L.va rfl (X.assign (by conv => lhs; whnf)) ?_
    refine L.nil ?_
    refine J.ret ?_
    refine thn_ret <| ?_
    refine fin1 ?_
    exact ⟨Ext.refl _, _, rfl, fun h => by cases h⟩
  · refine J.skip ?_
    refine J.seq ?_
    refine J.seq ?_
    refine J.region ?_
    refine L.va rfl (X.assign (by conv => lhs; whnf)) ?_
    refine L.nil ?_
    refine J.block ?_
    refine J.loop (X := Nat) [2, 3, 7, 8, 9, 10, 11, 12, 13, 14, 15, 16, 17, 18] (fun i => [(3, .int .i64 (i : Int))]) (fun i w' => i ≤ n ∧ (∀ j, j < i → (ls.getD j ces0).n ≤ 60 ∧ ∀ x ∈ (ls.getD j ces0).l, x.Lt) ∧ Ext w w') (fun i => n - i) (0) (At1 (by first | rfl | exact at_int rfl (by omega) | exact at_slice rfl (by omega) | exact at_int rfl (by simp))) ?_ ?_
    · exact ⟨Nat.zero_le _, fun j hj => absurd hj (by omega), Ext.refl _⟩
    · rintro i g w2 ⟨hi, hP, he⟩
      have z := he.le
      have hr2 := hr.ext he
      refine J.seq ?_
      refine J.seq ?_
      refine J.region ?_
      refine L.va rfl (X.move (by conv => lhs; whnf)) ?_
      refine L.va rfl (X.move (by conv => lhs; whnf)) ?_
      refine L.va rfl (X.len rfl Try.underlying22) ?_
      refine L.va rfl (X.lss rfl rfl) ?_
      refine L.nil ?_
      refine J.dec rfl (fun hlt => ?_) (fun hlt => ?_)
      · have hil : i < ls.length := by omega
        have hA := hr2.some_ (by omega)
        have gs := gtS (l := ls) (i := i) hil
        have ms := (hs _ (memD (l := ls) (i := i) (d := ces0) hil)).ext he
        obtain ⟨s, es⟩ : ∃ s, s = ls.getD i ces0 := ⟨_, rfl⟩
        rw [← es] at gs ms
        have lx : Ld w2 (pA A i) (.slice s.A s.n s.c) := by have h := Ld.flat2 cs_len hr2 gs (r := 0) rfl; rwa [Nat.mul_one] at h
        refine J.skip ?_
        refine J.seq ?_
        refine J.block ?_
        refine J.seq ?_
        refine J.region ?_
        refine L.va rfl (X.move (by conv => lhs; whnf)) ?_
        refine L.va rfl (X.move (by conv => lhs; whnf)) ?_
        refine L.va rfl ((by first | exact X.index1n rfl rfl Try.underlying22 sz_25 (by first | exact Option.some_ne_none _ | exact hA | exact lx) (by omega) | exact X.index1 rfl rfl Try.underlying22 sz_25 (by first | exact Option.some_ne_none _ | exact hA | exact lx) (by omega))) ?_
        refine L.va rfl (X.load rfl sc_25 (by first | exact hA | exact lx)) ?_
        have K := rlight15 ms (by omega)
        refine L.call rfl en_11 rfl (K) ?_
        rintro e w3 ⟨he3, z, rfl, hz⟩
        refine ⟨_, rfl, ?_⟩
        have he03 := he.trans he3
        refine L.va rfl (X.not rfl) ?_
        refine L.nil ?_
        cases z
        · refine J.iteT rfl ?_
          refine J.seq ?_
          refine J.region ?_
          refine L.va rfl (X.assign (by conv => lhs; whnf)) ?_
          refine L.nil ?_
          refine J.ret ?_
          refine inB_ret <|  thn_ret <|  thn_ret <|  inB_ret <|  thn_ret <| ?_
          refine fin1 ?_
          exact ⟨he03, _, rfl, fun h => by cases h⟩
        · refine J.iteF rfl ?_
          refine J.skip ?_
          refine J.region ?_
          refine L.va rfl (X.move (by conv => lhs; whnf)) ?_
          refine L.va rfl (X.add rfl rfl (by omega)) ?_
          refine L.va rfl (X.assign (by conv => lhs; whnf)) ?_
          refine L.nil ?_
          refine ⟨i + 1, At1 (by first | rfl | exact at_int rfl (by omega) | exact at_slice rfl (by omega) | exact at_int rfl (by simp)), (by (iterate 13 refine Agr.lk rfl ?_); exact Agr.lk rfl (Agr.hav rfl Agr.rfl')), ?_⟩
          refine ⟨⟨by omega, fun j hj => ?_, he03⟩, by omega⟩
          rcases Nat.lt_or_ge j i with h | h
          · exact hP j h
          · obtain rfl : j = i := by omega
            rw [← es]
            exact hz rfl
      · refine J.exit ?_
        refine J.seq ?_
        refine J.region ?_
        refine L.va rfl (X.assign (by conv => lhs; whnf)) ?_
        refine L.nil ?_
        refine J.ret ?_
        refine fin1 ?_
        refine ⟨he, _, rfl, fun _ => ⟨by omega, fun s hs => ?_⟩⟩
        obtain ⟨j, hj, rfl⟩ := List.getElem_of_mem hs
        have := hP j (by omega)
        rwa [List.getD, List.getElem?_eq_getElem hj] at this
end Go.Proofs.Ytnndkepnabddgaa
namespace Go.Proofs.Ytnndkepnabddgaa
set_option linter.unusedVariables false
namespace Tmg
def cm (o : List Con) (r : List Con × Int) : List Con × Int := if r.2 = 0 then (o ++ r.1, 0) else r
theorem cm_nil {r : List Con × Int} : cm [] r = r := by
  unfold cm
  split
  · rename_i h; rw [List.nil_append, ← h]
  · rfl
theorem cm_cm (o : List Con) (x : Con) (r : List Con × Int) : cm o (cm [x] r) = cm (o ++ [x]) r := by
  unfold cm
  by_cases h : r.2 = 0
  · rw [if_pos h, if_pos rfl, if_pos h, List.append_assoc]
  · rw [if_neg h, if_neg h, if_neg h]
section
variable {E : Con → Con → Int} {V : Con → Con → Con} {x y : Con} {a b : List Con}
theorem m2_lt (h : x.k < y.k) : m2 E V (x :: a) (y :: b) = cm [x] (m2 E V a (y :: b)) := by
  rw [m2, if_pos h]
  rfl
theorem m2_gt (h : y.k < x.k) : m2 E V (x :: a) (y :: b) = cm [y] (m2 E V (x :: a) b) := by
  rw [m2, if_neg (by omega), if_pos h]
  rfl
theorem m2_eq (h : x.k = y.k) (he : E x y = 0) : m2 E V (x :: a) (y :: b) = cm [V x y] (m2 E V a b) := by
  rw [m2, if_neg (by omega), if_neg (by omega), if_neg (by simp [he])]
  rfl
theorem m2_er (h : x.k = y.k) (he : E x y ≠ 0) : m2 E V (x :: a) (y :: b) = ([], E x y) := by
  rw [m2, if_neg (by omega), if_neg (by omega), if_pos he]
theorem m2_end (h : a = [] ∨ b = []) : m2 E V a b = (a ++ b, 0) := by
  rcases h with rfl | rfl
  · rw [m2]; rfl
  · cases a with
    | nil => rw [m2]; rfl
    | cons x a => rw [m2, List.append_nil]; exact fun h => by cases h
end
end Tmg
end Go.Proofs.Ytnndkepnabddgaa
namespace Go.Proofs.Ytnndkepnabddgaa
set_option maxRecDepth 100000
open Go.RowKit H
open Dfp
set_option linter.unusedVariables false
namespace H
theorem X.slice3 {P : Program} {f : Fr} {w : World} {d : Option Tmp} {ty : TypeId} {pos : String} {aft : Array Edge} {g : Option (Nat × Bool)} {x y z : Operand} {t e : TypeId} {A : Option Addr} {q c sz n : Nat} (hx : ev f x = .slice A q c) (hy : ev f y = .int .i64 (n : Int)) (hz : ev f z = .int .i64 (n : Int)) (ht : P.underlying t = some (.slice e)) (hs : Siz P e sz) (hij : n ≤ c) :
    (execOp (ev f) ⟨d, .slice t x none (some y) (some z), ty, pos, aft, g⟩).run P w = .ok (.value (.slice A n n)) w := by
  simp only [execOp, Instr.sliceAt, Instr.slice, Instr.sliceBounds, Instr.sliceBound, Option.map_some, Option.map_none, hx, hy, hz, Sem.run_bind, run_underlying ht, Result.andThen_ok, asIntOf, Sem.run_pure, hs.run]
  have h1 : 0 ≤ (n : Int) ∧ (n : Int) ≤ (c : Int) := by omega
  simp [h1]
  cases A <;> simp [Addr.add_zero']
end H
theorem ces_ones (l : List Ce) : (l.flatMap Ce.vs).all (·.oneCell') = true := by
  rw [List.all_eq_true]
  intro v hv
  obtain ⟨x, _, hx⟩ := List.mem_flatMap.1 hv
  simp only [Ce.vs, List.mem_cons, List.not_mem_nil, or_false] at hx
  rcases hx with rfl | rfl | rfl | rfl <;> rfl
end Go.Proofs.Ytnndkepnabddgaa
namespace Go.Proofs.Ytnndkepnabddgaa.H
open Go.RowKit Go.Proofs.Ytnndkepnabddgaa
set_option linter.unusedSimpArgs false
set_option linter.unusedVariables false
section
variable {P : Program} {n : Nat} {ops rest : List Oper} {Q : Exit → Fr → World → Prop} {f : Fr} {w w' : World} {d : Option Tmp} {ty : TypeId} {pos : String} {aft : Array Edge} {g : Option (Nat × Bool)} {x y z : Operand} {v u p : Value} {t e tx tz : TypeId}
theorem L.append0 {m c B size bytes : Nat} {A A' : Option Addr} {news : List Value} {z : Value} (hg : wn ops f g = true) (hs : ev f x = .slice A' 0 0) (hx : ev f y = .slice A m c) (ht : P.underlying t = some (.slice e)) (he : Elm P e z size bytes)
    (hr : Reads w B size A m news) (h1 : (news.all (·.oneCell')) = true) (hm : 0 < m) (hlen : m ≤ maxLen ∧ m * bytes ≤ 140737488355328)
    (h : ∀ A2 c2 w', w'.ownsRow w.heap.size e size (.slice A2 m c2) m news → Ext w w' → L P n ops Q rest (putO f d (.slice A2 m c2)) w') :
    L P n ops Q (⟨d, .call { callee := .builtin .append, args := #[x, y], argTypes := #[t, t] }, ty, pos, aft, g⟩ :: rest) f w := by
  rcases A' with _ | b
  · refine L.append (base := w.heap.size) (n' := 0) (xs := []) hg hs hx ht he (own_nil _ _ _ _) hr h1 (by simpa using hlen) (Nat.le_refl _) fun A2 c2 w2 h2 h3 h4 h5 => ?_
    simp only [Nat.zero_add, List.nil_append] at h2 ⊢
    exact h A2 c2 w2 h2 h4
  · refine L.law hg fun a hr' K hK => ?_
    obtain ⟨i, hi0, hz, hs1, hb1⟩ := info_parts he.1
    obtain ⟨hlz, hat⟩ := hr
    obtain ⟨ad, rfl, _, hcells⟩ := hat hm
    obtain ⟨v', w2, hrun, h2, h3⟩ := run_append_arg_grows (P := P) w t ty e i z size bytes ht hi0 hz hs1 hb1 he.2.1 he.2.2 b 0 0 [] (by simp) (fun j u hu => by simp at hu) ad m c news hlz hcells (by omega) (by simpa using hlen.1) (by simpa using hlen.2)
    obtain ⟨A2, c2, rfl⟩ := ownsRow_slice h2
    simp only [Nat.zero_add, List.nil_append] at h2 hrun
    have hk := hK _ _ (h A2 c2 w2 h2 ⟨h3.os, h3.tape, h3.output, h3.size, fun k hk => h3.block k hk (by simp)⟩)
    unfold Oper.wp execOp
    simp only [resolve, Go.invoke, builtin, Sem.run_bind, Sem.run_pure, Result.andThen_ok, List.map_toArray, List.map_cons, List.map_nil, hr'.eval, hs, hx, hrun]
    exact hk
theorem X.appendZ {f : Fr} {A B : Option Addr} {q c c' sz : Nat} (hx : ev f x = .slice A q c) (hy : ev f y = .slice B 0 c') (ht : P.underlying t = some (.slice e)) (hs : Siz P e sz) (hij : q ≤ c) (hA : A = none → q = 0 ∧ c = 0) :
    (execOp (ev f) ⟨d, .call { callee := .builtin .append, args := #[x, y], argTypes := #[t, t] }, ty, pos, aft, g⟩).run P w = .ok (.value (.slice A q c)) w := by
  obtain ⟨i, hi, hz⟩ := hs
  have hrun : (Builtin.append_ #[t, t] ty #[.slice A q c, .slice B 0 c']).run P w = .ok (.slice A q c) w := by
    rcases A with _ | ad
    · obtain ⟨rfl, rfl⟩ := hA rfl
      cases B <;> simp [Builtin.append_, run_underlying ht, sizeOf, typeInfo, hi, Builtin.lenOf, Builtin.firstCells, loadCells, loadCellsFrom, storeCells]
    · cases B <;> simp [Builtin.append_, run_underlying ht, sizeOf, typeInfo, hi, Builtin.lenOf, Builtin.firstCells, hij, storeCells, loadCells, loadCellsFrom]
  unfold execOp
  simp only [resolve, Go.invoke, builtin, Sem.run_bind, Sem.run_pure, Result.andThen_ok, List.map_toArray, List.map_cons, List.map_nil, hx, hy, hrun]
end
end Go.Proofs.Ytnndkepnabddgaa.H
namespace Go.Proofs.Ytnndkepnabddgaa
set_option maxRecDepth 100000
open Go.RowKit H
open Dfp Tmg
set_option linter.unusedVariables false
def CmR (a b : Ces) (q : Nat) (w : World) (e : Ending) (w' : World) : Prop :=
  ∃ (t : Ces) (z : Int), e = .returned (.tuple #[t.val, .int .i64 z]) ∧ ((rise a.l && rise b.l) = false → z = 1) ∧ ((rise a.l && rise b.l) = true → (t.con, z) = m2 eJ vJ a.con b.con) ∧ t.At w'.heap.size w' ∧ t.n ≤ t.c ∧ t.n ≤ a.n + b.n ∧ (∀ x ∈ t.l, x.LtQ (q + 1)) ∧ Ext w w'
theorem con_cons {s : Ces} (hl : s.l.length = s.n) (hn : 0 < s.n) : s.con = (s.l.getD 0 ce0).con :: (tailC s).con := by
  show s.l.map Ce.con = (s.l.getD 0 ce0).con :: (s.l.drop 1).map Ce.con
  cases h : s.l with
  | nil => rw [h] at hl; simp at hl; omega
  | cons x t => rfl
structure RestC (N : Nat) (v : Value) (z : Ces) (w : World) : Prop where
  h : ∀ u ∈ z.l, u.At N w
  l : z.l.length = z.n
  r : Reads w N 4 z.A z.n (z.l.flatMap Ce.vs) ∨ ∃ b, w.ownsRow b 48 4 z.val z.n (z.l.flatMap Ce.vs) ∧ (z.val.ownBlock = none ∨ z.val.ownBlock ≠ v.ownBlock)
theorem RestC.ext {N : Nat} {v : Value} {z : Ces} {w w' : World} (h : RestC N v z w) (he : Ext w w') : RestC N v z w' := by
  refine ⟨fun u hu => (h.h u hu).ext he, h.l, ?_⟩
  rcases h.r with k | ⟨b, k, m⟩
  · exact .inl (k.ext he)
  · exact .inr ⟨b, k.ext he, m⟩
theorem RestC.put {N : Nat} {v v' : Value} {z : Ces} {w w' : World} (h : RestC N v z w) (hb : Below N w w') (hg : w.grownBy w' v.ownBlock) (ho : v'.ownBlock = v.ownBlock ∨ v'.ownBlock = some w.heap.size) : RestC N v' z w' := by
  refine ⟨fun u hu => (h.h u hu).low hb (Nat.le_refl _), h.l, ?_⟩
  rcases h.r with k | ⟨b, k, m⟩
  · exact .inl (k.low hb (Nat.le_refl _))
  · refine .inr ⟨b, k.kept hg m, ?_⟩
    cases hz : z.val.ownBlock with
    | none => exact .inl rfl
    | some g =>
      refine .inr fun e => ?_
      rcases m with m | m
      · rw [hz] at m; cases m
      · rcases ho with ho | ho
        · exact m (by rw [hz, e, ho])
        · have := (k.lt g hz).2
          rw [ho] at e
          injection e with e
          omega
theorem RestC.reads {N : Nat} {v : Value} {z : Ces} {w : World} (h : RestC N v z w) (hN : N ≤ w.heap.size) : Reads w w.heap.size 4 z.A z.n (z.l.flatMap Ce.vs) := by
  rcases h.r with k | ⟨b, k, m⟩
  · exact k.more hN
  · exact Reads.of_own k
theorem cmerge2 {a b : Ces} {q : Nat} (w : World) (ha : a.At w.heap.size w) (hb : b.At w.heap.size w) (hn : a.n ≤ 10000 ∧ b.n ≤ 10000) (hc : a.n ≤ a.c ∧ b.n ≤ b.c) (La : ∀ x ∈ a.l, x.LtQ q) (Lb : ∀ x ∈ b.l, x.LtQ q) (hq : q ≤ 3000) : Calls Try.prog 10 #[a.val, b.val] w (CmR a b q w) := by
  have la := ha.l
  have lb := hb.l
  refine enter Try.func10 rfl (by kernel_rfl) ?_
  refine J.seq ?_
  refine J.region ?_
  refine L.va rfl (X.assign (by conv => lhs; whnf)) ?_
  refine L.va rfl (X.assign (by conv => lhs; whnf)) ?_
  refine L.nil ?_
  refine J.seq ?_
  refine J.seq ?_
  refine J.region ?_
  refine L.va rfl (X.move (by conv => lhs; whnf)) ?_
  have c1 := crising a.A a.c a.l (by rw [la]; exact ha.r) (Nat.le_refl _) (by omega)
  rw [la] at c1
  refine L.call rfl en_23 rfl (c1) ?_
  rintro e w1 ⟨rfl, he1⟩
  refine ⟨_, rfl, ?_⟩
  have he1 : Ext w w1 := he1
  refine L.va rfl (X.not rfl) ?_
  refine L.va rfl (X.move (by conv => lhs; whnf)) ?_
  cases hra : rise a.l
  · refine L.caseBT (k := 14) rfl (by rfl) ?_
    refine L.no rfl ?_
    refine L.no rfl ?_
    refine L.no rfl ?_
    refine L.va rfl (X.pickT rfl (by conv => lhs; whnf)) ?_
    refine L.nil ?_
    refine J.iteT rfl ?_
    refine J.seq ?_
    refine J.region ?_
    refine L.va rfl (X.assign (by conv => lhs; whnf)) ?_
    refine L.va rfl (X.assign (by conv => lhs; whnf)) ?_
    refine L.nil ?_
    refine J.ret ?_
    refine thn_ret <| ?_
    refine fin2 ?_
    exact ⟨⟨none, 0, 0, []⟩, 1, rfl, fun _ => rfl, fun h => by (rw [hra] at h; cases h), ⟨Reads.of_own (own_nil _ 0 0 4), (fun x hx => by cases hx), rfl, Nat.zero_le _⟩, Nat.le_refl _, Nat.zero_le _, (fun x hx => by cases hx), he1⟩
  · refine L.caseBF (k := 14) rfl (by rfl) ?_
    refine L.va rfl (X.move (by conv => lhs; whnf)) ?_
    have c2 := crising b.A b.c b.l (by rw [lb]; exact hb.r.ext he1) he1.le (by omega)
    rw [lb] at c2
    refine L.call rfl en_23 rfl (c2) ?_
    rintro e w2 ⟨rfl, he2⟩
    refine ⟨_, rfl, ?_⟩
    have he2 : Ext w1 w2 := he2
    have he02 := he1.trans he2
    refine L.va rfl (X.not rfl) ?_
    refine L.va rfl (X.pickF rfl (by conv => lhs; whnf)) ?_
    refine L.nil ?_
    cases hrb : rise b.l
    · refine J.iteT rfl ?_
      refine J.seq ?_
      refine J.region ?_
      refine L.va rfl (X.assign (by conv => lhs; whnf)) ?_
      refine L.va rfl (X.assign (by conv => lhs; whnf)) ?_
      refine L.nil ?_
      refine J.ret ?_
      refine thn_ret <| ?_
      refine fin2 ?_
      exact ⟨⟨none, 0, 0, []⟩, 1, rfl, fun _ => rfl, fun h => by (rw [hra, hrb] at h; cases h), ⟨Reads.of_own (own_nil _ 0 0 4), (fun x hx => by cases hx), rfl, Nat.zero_le _⟩, Nat.le_refl _, Nat.zero_le _, (fun x hx => by cases hx), he02⟩
    · refine J.iteF rfl ?_
      refine J.skip ?_
      refine J.seq ?_
      refine J.region ?_
      refine L.va rfl (X.assign (by conv => lhs; whnf)) ?_
      refine L.nil ?_
      refine J.cut (X := Ces × Ces × Option Addr × Nat × List Ce) [0, 1, 4, 5, 6, 7, 8, 19, 20, 21, 22, 23, 24, 25, 26, 27, 28, 29, 30, 31, 32, 33, 34, 35, 36, 37, 38, 39, 40, 41, 42, 43, 44, 45, 46, 47, 48, 49, 50, 51, 52, 53, 54, 55, 56, 57, 58, 59, 60, 61, 62, 63, 64, 65, 66, 67, 68, 69, 70, 71, 72, 73, 74, 75, 76, 77, 78, 79, 80, 81, 82, 83, 84, 85] (fun (x, y, tA, tc, o) => [(0, x.val), (1, y.val), (6, .slice tA o.length tc)]) (fun (x, y, tA, tc, o) w' => (x.At w.heap.size w' ∧ y.At w.heap.size w' ∧ x.n ≤ x.c ∧ y.n ≤ y.c) ∧ (∀ u ∈ x.l, u.LtQ q) ∧ (∀ u ∈ y.l, u.LtQ q) ∧ (x.n = 0 ∨ y.n = 0) ∧ o.length + (x.n + y.n) ≤ a.n + b.n ∧ cm (o.map Ce.con) (m2 eJ vJ x.con y.con) = m2 eJ vJ a.con b.con ∧ (∀ u ∈ o, u.OwnQ (q + 1) w.heap.size w') ∧ w'.ownsRow w.heap.size 48 4 (.slice tA o.length tc) o.length (o.flatMap Ce.vs) ∧ Ext w w') ?_ ?_
      · refine J.block ?_
        refine J.loop (X := Nat × Ces × Ces × Option Addr × Nat × List Ce) [0, 1, 4, 5, 6, 7, 8, 19, 20, 21, 22, 23, 24, 25, 26, 27, 28, 29, 30, 31, 32, 33, 34, 35, 36, 37, 38, 39, 40, 41, 42, 43, 44, 45, 46, 47, 48, 49, 50, 51, 52, 53, 54, 55, 56, 57, 58, 59, 60, 61, 62, 63, 64, 65, 66, 67, 68, 69, 70, 71, 72, 73, 74, 75, 76, 77, 78, 79, 80, 81, 82, 83, 84, 85] (fun (f, x, y, tA, tc, o) => [(0, x.val), (1, y.val), (6, .slice tA o.length tc)]) (fun (f, x, y, tA, tc, o) w' => (x.At w.heap.size w' ∧ y.At w.heap.size w' ∧ x.n ≤ x.c ∧ y.n ≤ y.c) ∧ (∀ u ∈ x.l, u.LtQ q) ∧ (∀ u ∈ y.l, u.LtQ q) ∧ x.n + y.n = f ∧ o.length + (x.n + y.n) ≤ a.n + b.n ∧ cm (o.map Ce.con) (m2 eJ vJ x.con y.con) = m2 eJ vJ a.con b.con ∧ (∀ u ∈ o, u.OwnQ (q + 1) w.heap.size w') ∧ w'.ownsRow w.heap.size 48 4 (.slice tA o.length tc) o.length (o.flatMap Ce.vs) ∧ Ext w w') (fun (f, _) => f) ((a.n + b.n, a, b, none, 0, [])) (At3 (by first | rfl | exact at_int rfl (by omega) | exact at_slice rfl (by omega) | exact at_int rfl (by simp)) (by first | rfl | exact at_int rfl (by omega) | exact at_slice rfl (by omega) | exact at_int rfl (by simp)) (by first | rfl | exact at_int rfl (by omega) | exact at_slice rfl (by omega) | exact at_int rfl (by simp))) ?_ ?_
        · exact ⟨⟨ha.ext he02, hb.ext he02, hc.1, hc.2⟩, La, Lb, rfl, by show 0 + (a.n + b.n) ≤ _; omega, cm_nil, (fun u hu => by cases hu), own_nil _ _ _ _, he02⟩
        · rintro ⟨f, x, y, tA, tc, o⟩ g w3 ⟨⟨hx, hy, hxc, hyc⟩, Lx, Ly, hf, hol, hm, hO, ho, he3⟩
          refine J.seq ?_
          refine J.seq ?_
          refine J.region ?_
          refine L.va rfl (X.move (by conv => lhs; whnf)) ?_
          refine L.va rfl (X.len rfl Try.underlying25) ?_
          refine L.va rfl (X.gtr rfl rfl) ?_
          refine L.va rfl (X.move (by conv => lhs; whnf)) ?_
          refine L.caseDec (k := 22) rfl (fun h1 => ?_) (fun h1 => ?_)
          · have h1 : 0 < x.n := by omega
            refine L.va rfl (X.move (by conv => lhs; whnf)) ?_
            refine L.va rfl (X.len rfl Try.underlying25) ?_
            refine L.va rfl (X.gtr rfl rfl) ?_
            refine L.va rfl (X.pickT rfl (by conv => lhs; whnf)) ?_
            refine L.nil ?_
            refine J.dec rfl (fun h2 => ?_) (fun h2 => ?_)
            · have h2 : 0 < y.n := by omega
              have hxl := hx.l
              have hyl := hy.l
              obtain ⟨p, hp⟩ : ∃ p, p = x.l.getD 0 ce0 := ⟨_, rfl⟩
              obtain ⟨r, hr⟩ : ∃ r, r = y.l.getD 0 ce0 := ⟨_, rfl⟩
              have gp := gtX (l := x.l) (i := 0) (by omega)
              have gr := gtX (l := y.l) (i := 0) (by omega)
              have mp := memD (l := x.l) (i := 0) (d := ce0) (by omega)
              have mr := memD (l := y.l) (i := 0) (d := ce0) (by omega)
              have ex := con_cons hxl h1
              have ey := con_cons hyl h2
              rw [← hp] at gp mp ex
              rw [← hr] at gr mr ey
              have hxA := hx.r.some_ (by omega)
              have hyA := hy.r.some_ (by omega)
              refine J.skip ?_
              refine J.block ?_
              refine J.block ?_
              refine J.seq ?_
              refine J.quiet mixed (by kernel_rfl) ?_
              refine Qt.va rfl (fun w' hw => X.move (by conv => lhs; whnf)) ?_
              refine Qt.va rfl (fun w' hw => X.indexAddrn (j := 0) rfl rfl Try.underlying25 sz_48 (by first | exact Option.some_ne_none _ | exact hxA | exact hyA) (by omega)) ?_
              refine Qt.va rfl (fun w' hw => X.fieldP rfl Try.underlying48 rfl sz_44 (by decide) (by first | exact Option.some_ne_none _ | exact hxA | exact hyA)) ?_
              refine Qt.va rfl (fun w' hw => X.load rfl sc_44 (by first | exact hxA | exact hyA | exact Ld.flat2 ce_len (hx.r.ext hw) gp (r := 0) rfl | exact Ld.flat2 ce_len (hy.r.ext hw) gr (r := 0) rfl)) ?_
              refine Qt.va rfl (fun w' hw => X.move (by conv => lhs; whnf)) ?_
              refine Qt.va rfl (fun w' hw => X.indexAddrn (j := 0) rfl rfl Try.underlying25 sz_48 (by first | exact Option.some_ne_none _ | exact hxA | exact hyA) (by omega)) ?_
              refine Qt.va rfl (fun w' hw => X.fieldP rfl Try.underlying48 rfl sz_44 (by decide) (by first | exact Option.some_ne_none _ | exact hxA | exact hyA)) ?_
              refine Qt.va rfl (fun w' hw => X.load rfl sc_44 (by first | exact hxA | exact hyA | exact Ld.flat2 ce_len (hx.r.ext hw) gp (r := 0) rfl | exact Ld.flat2 ce_len (hy.r.ext hw) gr (r := 0) rfl)) ?_
              refine Qt.va rfl (fun w' hw => X.lss rfl rfl) ?_
              refine Qt.va rfl (fun w' hw => X.assign (by conv => lhs; whnf)) ?_
              refine Qt.nil (fun w4 hq' => ?_)
              refine J.dec rfl (fun hlt => ?_) (fun hlt => ?_)
              · have he4 := he3.trans hq'
                have z4 := he4.le
                have hpA : p.At w.heap.size w4 := (hx.h p mp).ext hq'
                refine J.seq ?_
                refine J.region ?_
                refine L.va rfl (X.move (by conv => lhs; whnf)) ?_
                refine L.va rfl (X.move (by conv => lhs; whnf)) ?_
                refine L.va rfl (X.indexAddrn (j := 0) rfl rfl Try.underlying25 sz_48 (by first | exact Option.some_ne_none _ | exact hxA | exact hyA) (by omega)) ?_
                refine L.va rfl (X.loadRow (cs := p.vs) rfl (hx.r.ext hq') (fun r u hu => flat_row ce_len gp r u hu) (Nat.zero_lt_succ _) Try.underlying48 rfl (by kernel_rfl)) ?_
                refine L.call rfl en_24 rfl (copiedQ p (q := q) (by omega) w4 he4.le hpA (Lx p mp)) ?_
                rintro e w5 ⟨c, rfl, hcc, hc5, he5⟩
                refine ⟨_, rfl, ?_⟩
                have he05 := he4.trans he5
                have ho5 := (ho.ext hq').ext he5
                refine L.bslice1 (l := [_, _, _, _]) rfl rfl rfl Try.underlying25 sz_48 zr_48 rfl ?_
                intro b6 w6 hb6 hs6 hk6 he6
                have ho6 := ho5.ext he6
                have he06 := he05.trans he6
                have z6 := he06.le
                refine L.appendV (q := o.length + 1) (ys := ((o ++ [c]).flatMap Ce.vs)) rfl rfl rfl Try.underlying25 el_48 (ho6) ((blk_readsN (sz := 4) (q := 1) (l := c.vs) hk6 hk6.lt rfl)) (by first | rfl | exact strs_ones _ | assumption) (by omega) (by simp) (by unfold maxLen; omega) (by omega) ?_
                intro A7 c7 w7 ho7 hg7 hb7 hor7
                have hC7 : TCh 48 w6 w7 := TCh.row ho6 hg7
                have hB7 : Below w.heap.size w6 w7 := hb7
                have he7 := he06.grw hg7 (fun g hg => (ho6.lt g hg).1)
                have ll : (o ++ [c]).length = o.length + 1 := by rw [List.length_append]; rfl
                have hx7 := (((hx.ext hq').ext he5).ext he6).low hB7 (Nat.le_refl _)
                have hy7 := (((hy.ext hq').ext he5).ext he6).low hB7 (Nat.le_refl _)
                refine L.va rfl (X.assign (by conv => lhs; whnf)) ?_
                refine L.nil ?_
                refine J.region ?_
                refine L.va rfl (X.move (by conv => lhs; whnf)) ?_
                refine L.va rfl (X.sliceFromn (i := 1) rfl rfl Try.underlying25 sz_48 (by omega)) ?_
                refine L.va rfl (X.assign (by conv => lhs; whnf)) ?_
                refine L.nil ?_
                refine ⟨(f - 1, tailC x, y, A7, c7, o ++ [c]), At3 (rfl) (rfl) (at_slice rfl ll.symm), (by (iterate 30 refine Agr.lk rfl ?_); exact Agr.lk rfl (Agr.hav rfl Agr.rfl')), ?_⟩
                refine ⟨⟨⟨tailC_at hx7 h1 hxc, hy7, by show x.n - 1 ≤ x.c - 1; omega, hyc⟩, fun u hu => Lx u (List.mem_of_mem_drop hu), Ly, by show x.n - 1 + y.n = f - 1; omega, by rw [ll]; show _ + (x.n - 1 + y.n) ≤ _; omega, ?_, fun u hu => ?_, by rw [ll]; exact ho7, he7⟩, by show f - 1 < f; omega⟩
                · rw [← hm, ex, ey, m2_lt (show p.con.k < r.con.k by show p.k < r.k; omega), cm_cm, List.map_append, ← ey, ← hcc]
                  rfl
                · have hu6 : u.OwnQ (q + 1) w.heap.size w6 := by
                    rcases List.mem_append.1 hu with hu | hu
                    · exact (((hO u hu).ext hq').ext he5).ext he6
                    · rw [List.mem_singleton] at hu
                      rw [hu]
                      exact (hc5.ext he6).wide (by omega)
                  exact hu6.put hB7 hC7 (by decide)
              · refine J.seq ?_
                refine J.quiet mixed (by kernel_rfl) ?_
                refine Qt.va rfl (fun w' hw => X.move (by conv => lhs; whnf)) ?_
                refine Qt.va rfl (fun w' hw => X.indexAddrn (j := 0) rfl rfl Try.underlying25 sz_48 (by first | exact Option.some_ne_none _ | exact hxA | exact hyA) (by omega)) ?_
                refine Qt.va rfl (fun w' hw => X.fieldP rfl Try.underlying48 rfl sz_44 (by decide) (by first | exact Option.some_ne_none _ | exact hxA | exact hyA)) ?_
                refine Qt.va rfl (fun w' hw => X.load rfl sc_44 (by first | exact hxA | exact hyA | exact Ld.flat2 ce_len ((hx.ext hq').r.ext hw) gp (r := 0) rfl | exact Ld.flat2 ce_len ((hy.ext hq').r.ext hw) gr (r := 0) rfl)) ?_
                refine Qt.va rfl (fun w' hw => X.move (by conv => lhs; whnf)) ?_
                refine Qt.va rfl (fun w' hw => X.indexAddrn (j := 0) rfl rfl Try.underlying25 sz_48 (by first | exact Option.some_ne_none _ | exact hxA | exact hyA) (by omega)) ?_
                refine Qt.va rfl (fun w' hw => X.fieldP rfl Try.underlying48 rfl sz_44 (by decide) (by first | exact Option.some_ne_none _ | exact hxA | exact hyA)) ?_
                refine Qt.va rfl (fun w' hw => X.load rfl sc_44 (by first | exact hxA | exact hyA | exact Ld.flat2 ce_len ((hx.ext hq').r.ext hw) gp (r := 0) rfl | exact Ld.flat2 ce_len ((hy.ext hq').r.ext hw) gr (r := 0) rfl)) ?_
                refine Qt.va rfl (fun w' hw => X.gtr rfl rfl) ?_
                refine Qt.va rfl (fun w' hw => X.assign (by conv => lhs; whnf)) ?_
                refine Qt.nil (fun w5 hq2 => ?_)
                have hq' := hq'.trans hq2
                refine J.dec rfl (fun hgt => ?_) (fun hgt => ?_)
                · have he4 := he3.trans hq'
                  have z4 := he4.le
                  have hpA : r.At w.heap.size w5 := (hy.h r mr).ext hq'
                  refine J.seq ?_
                  refine J.region ?_
                  refine L.va rfl (X.move (by conv => lhs; whnf)) ?_
                  refine L.va rfl (X.move (by conv => lhs; whnf)) ?_
                  refine L.va rfl (X.indexAddrn (j := 0) rfl rfl Try.underlying25 sz_48 (by first | exact Option.some_ne_none _ | exact hxA | exact hyA) (by omega)) ?_
                  refine L.va rfl (X.loadRow (cs := r.vs) rfl (hy.r.ext hq') (fun r u hu => flat_row ce_len gr r u hu) (Nat.zero_lt_succ _) Try.underlying48 rfl (by kernel_rfl)) ?_
                  refine L.call rfl en_24 rfl (copiedQ r (q := q) (by omega) w5 he4.le hpA (Ly r mr)) ?_
                  rintro e w6 ⟨c, rfl, hcc, hc5, he5⟩
                  refine ⟨_, rfl, ?_⟩
                  have he05 := he4.trans he5
                  have ho5 := (ho.ext hq').ext he5
                  refine L.bslice1 (l := [_, _, _, _]) rfl rfl rfl Try.underlying25 sz_48 zr_48 rfl ?_
                  intro b6 w7 hb6 hs6 hk6 he6
                  have ho6 := ho5.ext he6
                  have he06 := he05.trans he6
                  have z6 := he06.le
                  refine L.appendV (q := o.length + 1) (ys := ((o ++ [c]).flatMap Ce.vs)) rfl rfl rfl Try.underlying25 el_48 (ho6) ((blk_readsN (sz := 4) (q := 1) (l := c.vs) hk6 hk6.lt rfl)) (by first | rfl | exact strs_ones _ | assumption) (by omega) (by simp) (by unfold maxLen; omega) (by omega) ?_
                  intro A7 c7 w8 ho7 hg7 hb7 hor7
                  have hC7 : TCh 48 w7 w8 := TCh.row ho6 hg7
                  have hB7 : Below w.heap.size w7 w8 := hb7
                  have he7 := he06.grw hg7 (fun g hg => (ho6.lt g hg).1)
                  have ll : (o ++ [c]).length = o.length + 1 := by rw [List.length_append]; rfl
                  have hx7 := (((hx.ext hq').ext he5).ext he6).low hB7 (Nat.le_refl _)
                  have hy7 := (((hy.ext hq').ext he5).ext he6).low hB7 (Nat.le_refl _)
                  refine L.va rfl (X.assign (by conv => lhs; whnf)) ?_
                  refine L.nil ?_
                  refine J.region ?_
                  refine L.va rfl (X.move (by conv => lhs; whnf)) ?_
                  refine L.va rfl (X.sliceFromn (i := 1) rfl rfl Try.underlying25 sz_48 (by omega)) ?_
                  refine L.va rfl (X.assign (by conv => lhs; whnf)) ?_
                  refine L.nil ?_
                  refine ⟨(f - 1, x, tailC y, A7, c7, o ++ [c]), At3 (rfl) (rfl) (at_slice rfl ll.symm), (by (iterate 40 refine Agr.lk rfl ?_); exact Agr.lk rfl (Agr.hav rfl Agr.rfl')), ?_⟩
                  refine ⟨⟨⟨hx7, tailC_at hy7 h2 hyc, hxc, by show y.n - 1 ≤ y.c - 1; omega⟩, Lx, fun u hu => Ly u (List.mem_of_mem_drop hu), by show x.n + (y.n - 1) = f - 1; omega, by rw [ll]; show _ + (x.n + (y.n - 1)) ≤ _; omega, ?_, fun u hu => ?_, by rw [ll]; exact ho7, he7⟩, by show f - 1 < f; omega⟩
                  · rw [← hm, ex, ey, m2_gt (show r.con.k < p.con.k by show r.k < p.k; omega), cm_cm, List.map_append, ← ex, ← hcc]
                    rfl
                  · have hu6 : u.OwnQ (q + 1) w.heap.size w7 := by
                      rcases List.mem_append.1 hu with hu | hu
                      · exact (((hO u hu).ext hq').ext he5).ext he6
                      · rw [List.mem_singleton] at hu
                        rw [hu]
                        exact (hc5.ext he6).wide (by omega)
                    exact hu6.put hB7 hC7 (by decide)
                · have he5 := he3.trans hq'
                  have z5 := he5.le
                  have hpA : p.At w.heap.size w5 := (hx.h p mp).ext hq'
                  have hrA : r.At w.heap.size w5 := (hy.h r mr).ext hq'
                  have hkk : p.con.k = r.con.k := by show p.k = r.k; omega
                  refine J.cut (X := Ce × Nat) [7, 8, 27, 28, 29, 30, 31, 32, 33, 34, 35, 36] (fun (c, b10) => [(7, .pointer (some ⟨b10, 0, none⟩)), (8, .int .i64 (eJ p.con r.con))]) (fun (c, b10) w' => Blk w' b10 48 c.vs.toArray ∧ c.con = vJ p.con r.con ∧ c.OwnQ (q + 1) w.heap.size w' ∧ w5.heap.size ≤ b10 ∧ Ext w5 w') ?_ ?_
                  ·
                    refine J.draw (ℓ := 1000000) (S := Ext w5) mixed (fun w10 hS hS_h => ?_)
                    refine D.va 0 rfl (by kernel_rfl) (fun _ _ _ h => h) rfl (fun w' hw => X.move (by conv => lhs; whnf)) hS ?_
                    refine D.va 1 rfl (by kernel_rfl) (fun _ _ _ h => h) rfl (fun w' hw => X.indexAddrn (j := 0) rfl rfl Try.underlying25 sz_48 (by first | exact Option.some_ne_none _ | exact hxA | exact hyA) (by omega)) hS ?_
                    refine D.va 2 rfl (by kernel_rfl) (fun _ _ _ h => h) rfl (fun w' hw => X.loadRow (cs := p.vs) rfl ((hx.r.ext hq').ext hw) (fun r u hu => flat_row ce_len gp r u hu) (Nat.zero_lt_succ _) Try.underlying48 rfl (by kernel_rfl)) hS ?_
                    refine D.va 3 rfl (by kernel_rfl) (fun _ _ _ h => h) rfl (fun w' hw => X.move (by conv => lhs; whnf)) hS ?_
                    refine D.va 4 rfl (by kernel_rfl) (fun _ _ _ h => h) rfl (fun w' hw => X.indexAddrn (j := 0) rfl rfl Try.underlying25 sz_48 (by first | exact Option.some_ne_none _ | exact hxA | exact hyA) (by omega)) hS ?_
                    refine D.va 5 rfl (by kernel_rfl) (fun _ _ _ h => h) rfl (fun w' hw => X.loadRow (cs := r.vs) rfl ((hy.r.ext hq').ext hw) (fun r u hu => flat_row ce_len gr r u hu) (Nat.zero_lt_succ _) Try.underlying48 rfl (by kernel_rfl)) hS ?_
                    refine D.two 6 10 (by kernel_rfl) rfl rfl ?_ ?_
                    · have zS := hS.le
                      have c10 := ajoin (w := w10) (N := w.heap.size) (q := q) (by omega) (hpA.ext hS) (hrA.ext hS) (Lx p mp) (Ly r mr) (by omega)
                      refine L.call rfl en_19 rfl (c10) ?_
                      rintro e w11 ⟨c, rfl, hcc, hc5, hcL, he11⟩
                      refine ⟨_, rfl, ?_⟩
                      have hS1 := hS.trans he11
                      refine L.nil ?_
                      refine ⟨fun _ => hS1, ?_⟩
                      have z11 := hS1.le
                      refine D.va 7 rfl (by kernel_rfl) (fun _ _ _ h => h) rfl (fun w' hw => X.move (by conv => lhs; whnf)) hS1 ?_
                      refine D.va 8 rfl (by kernel_rfl) (fun _ _ _ h => h) rfl (fun w' hw => X.extract rfl rfl) hS1 ?_
                      refine D.va 9 rfl (by kernel_rfl) (fun _ _ _ h => h) rfl (fun w' hw => X.extract rfl rfl) hS1 ?_
                      refine D.one 10 (by kernel_rfl) rfl ?_
                      refine L.alloc rfl zr_48 ?_
                      intro b12 w12 hb12 hs12 hk12 he12
                      have hS2 := hS1.trans he12
                      refine L.nil ?_
                      refine ⟨fun _ => hS2, ?_⟩
                      refine D.one 11 (by kernel_rfl) rfl ?_
                      refine L.storeAgg (vs := [_, _, _, _]) rfl rfl rfl rfl sz_48 (hk12) rfl ?_
                      intro w13 hk13 hg13 hs13
                      have hS3 := hS2.grw hg13 (by intro g hg; injection hg with hg; omega)
                      refine L.nil ?_
                      refine ⟨fun _ => hS3, ?_⟩
                      refine D.va 12 rfl (by kernel_rfl) (fun _ _ _ h => h) rfl (fun w' hw => X.assign (by conv => lhs; whnf)) hS3 ?_
                      refine D.done (by kernel_rfl) ?_
                      refine ⟨(c, b12), At2 (by first | rfl | exact at_int rfl (by omega) | exact at_slice rfl (by omega) | exact at_int rfl (by simp)) (by first | rfl | exact at_int rfl (by omega) | exact at_slice rfl (by omega) | exact at_int rfl (by simp)), (by (iterate 12 refine Agr.lk rfl ?_); exact Agr.rfl'), ?_⟩
                      exact ⟨hk13, hcc, ((hc5.low (by omega)).ownQ hcL).ext (he12.grw hg13 (by intro g hg; injection hg with hg; omega)), by omega, hS3⟩
                    · refine L.alloc rfl zr_48 ?_
                      intro b12 w12 hb12 hs12 hk12 he12
                      have hS1 := hS.trans he12
                      refine L.nil ?_
                      refine ⟨fun _ => hS1, ?_⟩
                      have zS := hS.le
                      have z12 := hS1.le
                      have c10 := ajoin (w := w12) (N := w.heap.size) (q := q) (by omega) (hpA.ext hS1) (hrA.ext hS1) (Lx p mp) (Ly r mr) (by omega)
                      refine D.one 6 (by kernel_rfl) rfl ?_
                      refine L.call rfl en_19 rfl (c10) ?_
                      rintro e w11 ⟨c, rfl, hcc, hc5, hcL, he11⟩
                      refine ⟨_, rfl, ?_⟩
                      have hS2 := hS1.trans he11
                      refine L.nil ?_
                      refine ⟨fun _ => hS2, ?_⟩
                      have hk12 := hk12.ext he11
                      have z11 := hS2.le
                      refine D.va 7 rfl (by kernel_rfl) (fun _ _ _ h => h) rfl (fun w' hw => X.move (by conv => lhs; whnf)) hS2 ?_
                      refine D.va 8 rfl (by kernel_rfl) (fun _ _ _ h => h) rfl (fun w' hw => X.extract rfl rfl) hS2 ?_
                      refine D.va 9 rfl (by kernel_rfl) (fun _ _ _ h => h) rfl (fun w' hw => X.extract rfl rfl) hS2 ?_
                      refine D.one 11 (by kernel_rfl) rfl ?_
                      refine L.storeAgg (vs := [_, _, _, _]) rfl rfl rfl rfl sz_48 (hk12) rfl ?_
                      intro w13 hk13 hg13 hs13
                      have hS3 := hS2.grw hg13 (by intro g hg; injection hg with hg; omega)
                      refine L.nil ?_
                      refine ⟨fun _ => hS3, ?_⟩
                      have hB13 : Below w.heap.size w11 w13 := Chg.below (.of_grown hg13 (S := fun g => g = b12) (fun g hg => by injection hg with hg; exact hg.symm)) (by omega) (fun g hg => by omega)
                      refine D.va 12 rfl (by kernel_rfl) (fun _ _ _ h => h) rfl (fun w' hw => X.assign (by conv => lhs; whnf)) hS3 ?_
                      refine D.done (by kernel_rfl) ?_
                      refine ⟨(c, b12), At2 (by first | rfl | exact at_int rfl (by omega) | exact at_slice rfl (by omega) | exact at_int rfl (by simp)) (by first | rfl | exact at_int rfl (by omega) | exact at_slice rfl (by omega) | exact at_int rfl (by simp)), (by (iterate 12 refine Agr.lk rfl ?_); exact Agr.rfl'), ?_⟩
                      exact ⟨hk13, hcc, ((hc5.low (by omega)).ownQ hcL).put hB13 (TCh.put hk12 hg13) (by decide), by omega, hS3⟩
                  · rintro ⟨c, b10⟩ g w6 ⟨hk6, hcc, hc6, hb10, he6⟩
                    have he06 := he5.trans he6
                    have hxy6 := hq'.trans he6
                    refine J.seq ?_
                    refine J.seq ?_
                    refine J.region ?_
                    refine L.va rfl (X.move (by conv => lhs; whnf)) ?_
                    refine L.va rfl (X.neq rfl rfl) ?_
                    refine L.nil ?_
                    refine J.ndec rfl (fun herr => ?_) (fun herr => ?_)
                    · refine J.seq ?_
                      refine J.region ?_
                      refine L.va rfl (X.move (by conv => lhs; whnf)) ?_
                      refine L.va rfl (X.assign (by conv => lhs; whnf)) ?_
                      refine L.va rfl (X.assign (by conv => lhs; whnf)) ?_
                      refine L.nil ?_
                      refine J.ret ?_
                      refine thn_ret <|  inB_ret <|  inB_ret <|  thn_ret <|  inB_ret <|  thn_ret <| ?_
                      refine fin2 ?_
                      refine ⟨⟨none, 0, 0, []⟩, eJ p.con r.con, rfl, fun h => by (rw [hra, hrb] at h; cases h), fun _ => ?_, ⟨Reads.of_own (own_nil _ 0 0 4), (fun x hx => by cases hx), rfl, Nat.zero_le _⟩, Nat.le_refl _, Nat.zero_le _, (fun x hx => by cases hx), he06⟩
                      rw [← hm, ex, ey, m2_er hkk herr]
                      unfold cm
                      rw [if_neg herr]
                      rfl
                    · have herr : eJ p.con r.con = 0 := by omega
                      refine J.skip ?_
                      refine J.seq ?_
                      refine J.region ?_
                      refine L.va rfl (X.move (by conv => lhs; whnf)) ?_
                      refine L.va rfl (X.loadAgg rfl (range_l hk6) Try.underlying48 rfl (by kernel_rfl)) ?_
                      refine L.bslice1 (l := [_, _, _, _]) rfl rfl rfl Try.underlying25 sz_48 zr_48 rfl ?_
                      intro b7 w7 hb7 hs7 hk7 he7
                      have ho7 := (ho.ext hxy6).ext he7
                      have he07 := he06.trans he7
                      have z7 := he07.le
                      refine L.appendV (q := o.length + 1) (ys := ((o ++ [c]).flatMap Ce.vs)) rfl rfl rfl Try.underlying25 el_48 (ho7) ((blk_readsN (sz := 4) (q := 1) (l := c.vs) hk7 hk7.lt rfl)) (by first | rfl | exact strs_ones _ | assumption) (by omega) (by simp) (by unfold maxLen; omega) (by omega) ?_
                      intro A8 c8 w8 ho8 hg8 hb8 hor8
                      have hC8 : TCh 48 w7 w8 := TCh.row ho7 hg8
                      have hB8 : Below w.heap.size w7 w8 := hb8
                      have he8 := he07.grw hg8 (fun g hg => (ho7.lt g hg).1)
                      have ll : (o ++ [c]).length = o.length + 1 := by rw [List.length_append]; rfl
                      have hx8 := ((hx.ext hxy6).ext he7).low hB8 (Nat.le_refl _)
                      have hy8 := ((hy.ext hxy6).ext he7).low hB8 (Nat.le_refl _)
                      refine L.va rfl (X.assign (by conv => lhs; whnf)) ?_
                      refine L.nil ?_
                      refine J.quiet mixed (by kernel_rfl) ?_
                      refine Qt.va rfl (fun w' hw => X.move (by conv => lhs; whnf)) ?_
                      refine Qt.va rfl (fun w' hw => X.sliceFromn (i := 1) rfl rfl Try.underlying25 sz_48 (by omega)) ?_
                      refine Qt.va rfl (fun w' hw => X.move (by conv => lhs; whnf)) ?_
                      refine Qt.va rfl (fun w' hw => X.sliceFromn (i := 1) rfl rfl Try.underlying25 sz_48 (by omega)) ?_
                      refine Qt.va rfl (fun w' hw => X.assign (by conv => lhs; whnf)) ?_
                      refine Qt.va rfl (fun w' hw => X.assign (by conv => lhs; whnf)) ?_
                      refine Qt.nil (fun w9 hq9 => ?_)
                      have ho9 := ho8.ext hq9
                      refine ⟨(f - 2, tailC x, tailC y, A8, c8, o ++ [c]), At3 (rfl) (rfl) (at_slice rfl ll.symm), (by (iterate 13 refine Agr.lk rfl ?_); refine Agr.lk rfl ?_; refine Agr.hav rfl ?_; (iterate 29 refine Agr.lk rfl ?_); exact Agr.lk rfl (Agr.hav rfl Agr.rfl')), ?_⟩
                      refine ⟨⟨⟨(tailC_at hx8 h1 hxc).ext hq9, (tailC_at hy8 h2 hyc).ext hq9, by show x.n - 1 ≤ x.c - 1; omega, by show y.n - 1 ≤ y.c - 1; omega⟩, fun u hu => Lx u (List.mem_of_mem_drop hu), fun u hu => Ly u (List.mem_of_mem_drop hu), by show x.n - 1 + (y.n - 1) = f - 2; omega, by rw [ll]; show _ + (x.n - 1 + (y.n - 1)) ≤ _; omega, ?_, fun u hu => ?_, by rw [ll]; exact ho9, he8.trans hq9⟩, by show f - 2 < f; omega⟩
                      · rw [← hm, ex, ey, m2_eq hkk herr, cm_cm, List.map_append, ← hcc]
                        rfl
                      · have hu7 : u.OwnQ (q + 1) w.heap.size w7 := by
                          rcases List.mem_append.1 hu with hu | hu
                          · exact ((hO u hu).ext hxy6).ext he7
                          · rw [List.mem_singleton] at hu
                            rw [hu]
                            exact hc6.ext he7
                        exact (hu7.put hB8 hC8 (by decide)).ext hq9
            · have h2 : y.n = 0 := by omega
              refine J.exit ?_
              refine ⟨(x, y, tA, tc, o), At3 (by first | rfl | exact at_int rfl (by omega) | exact at_slice rfl (by omega) | exact at_int rfl (by simp)) (by first | rfl | exact at_int rfl (by omega) | exact at_slice rfl (by omega) | exact at_int rfl (by simp)) (by first | rfl | exact at_int rfl (by omega) | exact at_slice rfl (by omega) | exact at_int rfl (by simp)), (by (iterate 9 refine Agr.lk rfl ?_); refine Agr.lk rfl ?_; refine Agr.hav rfl ?_; exact Agr.rfl'), ?_⟩
              exact ⟨⟨hx, hy, hxc, hyc⟩, Lx, Ly, .inr h2, hol, hm, hO, ho, he3⟩
          · have h1 : x.n = 0 := by omega
            refine L.no rfl ?_
            refine L.no rfl ?_
            refine L.no rfl ?_
            refine L.va rfl (X.pickF rfl (by conv => lhs; whnf)) ?_
            refine L.nil ?_
            refine J.iteF rfl ?_
            refine J.exit ?_
            refine ⟨(x, y, tA, tc, o), At3 (by first | rfl | exact at_int rfl (by omega) | exact at_slice rfl (by omega) | exact at_int rfl (by simp)) (by first | rfl | exact at_int rfl (by omega) | exact at_slice rfl (by omega) | exact at_int rfl (by simp)) (by first | rfl | exact at_int rfl (by omega) | exact at_slice rfl (by omega) | exact at_int rfl (by simp)), (by (iterate 9 refine Agr.lk rfl ?_); refine Agr.lk rfl ?_; refine Agr.hav rfl ?_; exact Agr.rfl'), ?_⟩
            exact ⟨⟨hx, hy, hxc, hyc⟩, Lx, Ly, .inl h1, hol, hm, hO, ho, he3⟩
      · rintro ⟨x, y, tA, tc, o⟩ g w3 ⟨⟨hx, hy, hxc, hyc⟩, Lx, Ly, hxy, hol, hm, hO, ho, he3⟩
        have z3 := he3.le
        obtain ⟨xA, xn, xc, xl⟩ := x
        obtain ⟨yA, yn, yc, yl⟩ := y
        have hxc : xn ≤ xc := hxc
        have hyc : yn ≤ yc := hyc
        have hlx : xl.length = xn := hx.l
        have hly : yl.length = yn := hy.l
        have hxy : xn = 0 ∨ yn = 0 := hxy
        have hol : o.length + (xn + yn) ≤ a.n + b.n := hol
        have hm3 := m2_end (E := eJ) (V := vJ) (a := xl.map Ce.con) (b := yl.map Ce.con) (by
          rcases hxy with h | h
          · exact .inl (by rw [List.length_eq_zero_iff.1 (hlx.trans h)]; rfl)
          · exact .inr (by rw [List.length_eq_zero_iff.1 (hly.trans h)]; rfl))
        have hm : cm (o.map Ce.con) (m2 eJ vJ (xl.map Ce.con) (yl.map Ce.con)) = m2 eJ vJ a.con b.con := hm
        rw [hm3] at hm
        have hA : xA = none → xn = 0 ∧ xn = 0 := fun e => by
          apply Decidable.byContradiction
          intro h
          exact hx.r.some_ (by show 0 < xn; omega) e
        refine J.seq ?_
        refine J.cut (X := Ces) [86, 87, 88, 89, 90, 91, 92, 93, 94, 95] (fun z => [(93, z.val), (94, .int .i64 (z.n : Int)), (95, .int .i64 0), (6, .slice tA o.length tc)]) (fun z w' => RestC w.heap.size (.slice tA o.length tc) z w' ∧ z.n = xn + yn ∧ z.con = xl.map Ce.con ++ yl.map Ce.con ∧ (∀ u ∈ z.l, u.LtQ q) ∧ Ext w3 w') ?_ ?_
        ·
          refine J.region ?_
          refine L.va rfl (X.move (by conv => lhs; whnf)) ?_
          refine L.va rfl (X.move (by conv => lhs; whnf)) ?_
          refine L.va rfl (X.len rfl Try.underlying25) ?_
          refine L.va rfl (X.move (by conv => lhs; whnf)) ?_
          refine L.va rfl (X.len rfl Try.underlying25) ?_
          refine L.va rfl (X.slice3 rfl rfl rfl Try.underlying25 sz_48 hxc) ?_
          refine L.va rfl (X.move (by conv => lhs; whnf)) ?_
          by_cases hy0 : yn = 0
          · subst hy0
            obtain rfl : yl = [] := List.length_eq_zero_iff.1 hly
            refine L.va rfl (X.appendZ rfl rfl Try.underlying25 sz_48 (Nat.le_refl _) hA) ?_
            refine L.va rfl (X.len rfl Try.underlying25) ?_
            refine L.va rfl (X.move (by conv => lhs; whnf)) ?_
            refine L.nil ?_
            refine ⟨(⟨xA, xn, xn, xl⟩ : Ces), At4 (by first | rfl | exact at_int rfl (by omega) | exact at_slice rfl (by omega) | exact at_int rfl (by simp)) (by first | rfl | exact at_int rfl (by omega) | exact at_slice rfl (by omega) | exact at_int rfl (by simp)) (by first | rfl | exact at_int rfl (by omega) | exact at_slice rfl (by omega) | exact at_int rfl (by simp)) (by first | rfl | exact at_int rfl (by omega) | exact at_slice rfl (by omega) | exact at_int rfl (by simp)), (by (iterate 10 refine Agr.lk rfl ?_); exact Agr.rfl'), ?_⟩
            exact ⟨⟨hx.h, hlx, .inl hx.r⟩, rfl, (List.append_nil _).symm, Lx, Ext.refl _⟩
          · obtain rfl : xn = 0 := by omega
            obtain rfl : xl = [] := List.length_eq_zero_iff.1 hlx
            have h20 : yn ≤ 20000 := by omega
            have hry : Reads w3 w3.heap.size 4 yA yn (yl.flatMap Ce.vs) := hy.r.more z3
            refine L.append0 rfl rfl rfl Try.underlying25 el_48 hry (ces_ones yl) (Nat.pos_of_ne_zero hy0) ⟨Nat.le_trans h20 (by decide), Nat.le_trans (Nat.mul_le_mul_right _ h20) (by decide)⟩ ?_
            intro A4 c4 w4 ho4 he4
            refine L.va rfl (X.len rfl Try.underlying25) ?_
            refine L.va rfl (X.move (by conv => lhs; whnf)) ?_
            refine L.nil ?_
            refine ⟨(⟨A4, yn, c4, yl⟩ : Ces), At4 (by first | rfl | exact at_int rfl (by omega) | exact at_slice rfl (by omega) | exact at_int rfl (by simp)) (by first | rfl | exact at_int rfl (by omega) | exact at_slice rfl (by omega) | exact at_int rfl (by simp)) (by first | rfl | exact at_int rfl (by omega) | exact at_slice rfl (by omega) | exact at_int rfl (by simp)) (by first | rfl | exact at_int rfl (by omega) | exact at_slice rfl (by omega) | exact at_int rfl (by simp)), (by (iterate 10 refine Agr.lk rfl ?_); exact Agr.rfl'), ?_⟩
            exact ⟨⟨fun u hu => (hy.h u hu).ext he4, hly, .inr ⟨_, ho4, own_later ho ho4⟩⟩, (Nat.zero_add _).symm, rfl, Ly, he4⟩
        · rintro z g w4 ⟨hz, hzn, hzc, Lz, he4⟩
          have he04 := he3.trans he4
          have hzl := hz.l
          refine J.block ?_
          refine J.loop (X := Nat × Option Addr × Nat × List Ce) [6, 10, 95, 96, 97, 98, 99, 100, 101, 102, 103, 104] (fun (i, B, d, p) => [(95, .int .i64 (i : Int)), (6, .slice B p.length d)]) (fun (i, B, d, p) w' => i ≤ z.n ∧ p.length = o.length + i ∧ p.map Ce.con = o.map Ce.con ++ (z.l.take i).map Ce.con ∧ (∀ u ∈ p, u.OwnQ (q + 1) w.heap.size w') ∧ w'.ownsRow w.heap.size 48 4 (.slice B p.length d) p.length (p.flatMap Ce.vs) ∧ RestC w.heap.size (.slice B p.length d) z w' ∧ Ext w w') (fun (i, _) => z.n - i) ((0, tA, tc, o)) (At2 (by first | rfl | exact at_int rfl (by omega) | exact at_slice rfl (by omega) | exact at_int rfl (by simp)) (by first | rfl | exact at_int rfl (by omega) | exact at_slice rfl (by omega) | exact at_int rfl (by simp))) ?_ ?_
          · exact ⟨Nat.zero_le _, rfl, (List.append_nil _).symm, fun u hu => (hO u hu).ext he4, ho.ext he4, hz, he04⟩
          · rintro ⟨i, B, d, p⟩ g w5 ⟨hi, hp, hpc, hO5, ho5, hz5, he5⟩
            have z5 := he5.le
            refine J.seq ?_
            refine J.region ?_
            refine L.va rfl (X.lss rfl rfl) ?_
            refine L.nil ?_
            refine J.seq ?_
            refine J.dec rfl (fun hlt => ?_) (fun hlt => ?_)
            · have hin : i < z.l.length := by omega
              obtain ⟨x, hx5⟩ : ∃ x, x = z.l.getD i ce0 := ⟨_, rfl⟩
              have gx := gtX (l := z.l) (i := i) hin
              have mx := memD (l := z.l) (i := i) (d := ce0) hin
              rw [← hx5] at gx mx
              have hr5 := hz5.reads z5
              have hAs := hr5.some_ (by omega)
              refine J.skip ?_
              refine J.seq ?_
              refine J.block ?_
              refine J.seq ?_
              refine J.region ?_
              refine L.va rfl ((by first | exact X.indexAddrn rfl rfl Try.underlying25 sz_48 (by first | exact Option.some_ne_none _ | exact hAs) (by omega) | exact X.indexAddr rfl rfl Try.underlying25 sz_48 (by first | exact Option.some_ne_none _ | exact hAs) (by omega))) ?_
              refine L.va rfl (X.loadRow (cs := x.vs) rfl hr5 (fun r u hu => flat_row ce_len gx r u hu) (Nat.zero_lt_succ _) Try.underlying48 rfl (by kernel_rfl)) ?_
              refine L.alloc rfl zr_48 ?_
              intro b6 w6 hb6 hs6 hk6 he6
              refine L.storeAgg (vs := [_, _, _, _]) rfl rfl rfl rfl sz_48 (hk6) rfl ?_
              intro w7 hk7 hg7 hs7
              have hk7 : Blk w7 b6 48 x.vs.toArray := hk7
              have he57 : Ext w5 w7 := he6.grw hg7 (by intro g hg; injection hg with hg; omega)
              have he07 := he5.trans he57
              refine L.nil ?_
              refine J.region ?_
              refine L.va rfl (X.move (by conv => lhs; whnf)) ?_
              refine L.va rfl ((by first | exact X.loadAgg rfl (range_l hk7) Try.underlying48 rfl (by kernel_rfl) | exact X.loadAgg rfl (range_blk hk7) Try.underlying48 rfl (by kernel_rfl))) ?_
              have c8 := copiedQ x (q := q) (by omega) w7 he07.le ((hz5.h x mx).ext he57) (Lz x mx)
              refine L.call rfl en_24 rfl (c8) ?_
              rintro e w8 ⟨c, rfl, hcc, hc8, he8⟩
              refine ⟨_, rfl, ?_⟩
              refine L.bslice1 (l := [_, _, _, _]) rfl rfl rfl Try.underlying25 sz_48 zr_48 rfl ?_
              intro b9 w9 hb9 hs9 hk9 he9
              have he59 := (he57.trans he8).trans he9
              have ho9 := ho5.ext he59
              have hz9 := hz5.ext he59
              have he09 := he5.trans he59
              have z9 := he09.le
              refine L.appendV (q := p.length + 1) (ys := ((p ++ [c]).flatMap Ce.vs)) rfl rfl rfl Try.underlying25 el_48 (ho9) ((blk_readsN (sz := 4) (q := 1) (l := c.vs) hk9 hk9.lt rfl)) (by first | rfl | exact strs_ones _ | assumption) (by omega) (by simp) (by unfold maxLen; omega) (by omega) ?_
              intro A10 c10 w10 ho10 hg10 hb10 hor10
              have hC10 : TCh 48 w9 w10 := TCh.row ho9 hg10
              have hB10 : Below w.heap.size w9 w10 := hb10
              have he10 := he09.grw hg10 (fun g hg => (ho9.lt g hg).1)
              have ll : (p ++ [c]).length = p.length + 1 := by rw [List.length_append]; rfl
              have hz10 := hz9.put hB10 hg10 hor10
              refine L.va rfl (X.assign (by conv => lhs; whnf)) ?_
              refine L.nil ?_
              refine J.region ?_
              refine L.va rfl (X.add rfl rfl (by omega)) ?_
              refine L.va rfl (X.move (by conv => lhs; whnf)) ?_
              refine L.nil ?_
              refine ⟨(i + 1, A10, c10, p ++ [c]), At2 (rfl) (at_slice rfl ll.symm), (by (iterate 12 refine Agr.lk rfl ?_); exact Agr.lk rfl (Agr.hav rfl Agr.rfl')), ?_⟩
              refine ⟨⟨by omega, by rw [ll, hp]; omega, ?_, fun u hu => ?_, by rw [ll]; exact ho10, by rw [ll]; exact hz10, he10⟩, by show z.n - (i + 1) < z.n - i; omega⟩
              · rw [List.map_append, hpc, take_one hin, List.map_append, ← hx5, List.append_assoc]
                show _ ++ (_ ++ [c.con]) = _ ++ (_ ++ [x.con])
                rw [hcc]
              · have hu9 : u.OwnQ (q + 1) w.heap.size w9 := by
                  rcases List.mem_append.1 hu with hu | hu
                  · exact (hO5 u hu).ext he59
                  · rw [List.mem_singleton] at hu
                    rw [hu]
                    exact (hc8.ext he9).wide (by omega)
                exact hu9.put hB10 hC10 (by decide)
            · have hi5 : i = z.n := by omega
              have ht : z.l.take i = z.l := by rw [hi5, ← hzl, List.take_length]
              rw [ht] at hpc
              refine J.exit ?_
              refine J.seq ?_
              refine J.region ?_
              refine L.va rfl (X.move (by conv => lhs; whnf)) ?_
              refine L.va rfl (X.assign (by conv => lhs; whnf)) ?_
              refine L.va rfl (X.assign (by conv => lhs; whnf)) ?_
              refine L.nil ?_
              refine J.ret ?_
              refine fin2 ?_
              refine ⟨⟨B, p.length, d, p⟩, 0, rfl, fun h => by (rw [hra, hrb] at h; cases h), fun _ => ?_, ⟨Reads.of_own ho5, fun u hu => (hO5 u hu).at z5, rfl, by show p.length ≤ maxLen; unfold maxLen; omega⟩, own_le' ho5, by show p.length ≤ _; omega, fun u hu => (hO5 u hu).L, he5⟩
              rw [← hm]
              show (p.map Ce.con, (0 : Int)) = _
              rw [hpc, ← hzc]
              unfold cm
              rw [if_pos rfl]
end Go.Proofs.Ytnndkepnabddgaa
namespace Go.Proofs.Ytnndkepnabddgaa
set_option maxRecDepth 100000
open Go.RowKit H
set_option linter.unusedVariables false
theorem con_atC {l : List Ce} (i : Nat) : (l.map Ce.con).getD i con0 = (l.getD i ce0).con := by
  rw [List.getD, List.getD, List.getElem?_map]
  cases l[i]? <;> rfl
theorem rsame15 {a b : Ces} {w : World} {N : Nat} (ha : a.At N w) (hb : b.At N w) (hN : N ≤ w.heap.size) (hm : a.n ≤ 1000000) (hs : ∀ x ∈ a.l, x.ni ≤ 1000000 ∧ x.nr ≤ 1000000) : Calls Try.prog 9 #[a.val, b.val] w fun e w' => e = .returned (.bool (sameL a.con b.con)) ∧ Ext w w' := by
  have la := ha.l
  have lb := hb.l
  refine enter Try.func9 rfl (by kernel_rfl) ?_
  refine J.seq ?_
  refine J.region ?_
  refine L.va rfl (X.assign (by conv => lhs; whnf)) ?_
  refine L.nil ?_
  refine J.seq ?_
  refine J.seq ?_
  refine J.region ?_
  refine L.va rfl (X.move (by conv => lhs; whnf)) ?_
  refine L.va rfl (X.len rfl Try.underlying25) ?_
  refine L.va rfl (X.move (by conv => lhs; whnf)) ?_
  refine L.va rfl (X.len rfl Try.underlying25) ?_
  refine L.va rfl (X.neq rfl rfl) ?_
  refine L.nil ?_
  refine J.ndec rfl (fun h1 => ?_) (fun h1 => ?_)
  · have e : sameL a.con b.con = false := eqL_len (by show (a.l.map Ce.con).length ≠ (b.l.map Ce.con).length; rw [List.length_map, List.length_map]; omega)
    rw [e]
    refine J.seq ?_
    refine J.region ?_
    refine L.va rfl (X.assign (by conv => lhs; whnf)) ?_
    refine L.nil ?_
    refine J.ret ?_
    refine thn_ret <| ?_
    refine fin1 ?_
    exact ⟨rfl, Ext.refl _⟩
  · have hn : a.n = b.n := by omega
    refine J.skip ?_
    refine J.seq ?_
    refine J.seq ?_
    refine J.region ?_
    refine L.va rfl (X.assign (by conv => lhs; whnf)) ?_
    refine L.nil ?_
    refine J.block ?_
    refine J.loop (X := Nat) [4, 5, 11, 12, 13, 14, 15, 16, 17, 18, 19, 20, 21, 22, 23, 24, 25, 26] (fun i => [(5, .int .i64 (i : Int))]) (fun i w' => i ≤ a.n ∧ (∀ j, j < i → sameC (a.l.getD j ce0).con (b.l.getD j ce0).con = true) ∧ Ext w w') (fun i => a.n - i) (0) (At1 (by first | rfl | exact at_int rfl (by omega) | exact at_slice rfl (by omega) | exact at_int rfl (by simp))) ?_ ?_
    · exact ⟨Nat.zero_le _, fun j hj => absurd hj (by omega), Ext.refl _⟩
    · rintro i g w2 ⟨hi, hP, he⟩
      have z := he.le
      have hra := ha.r.ext he
      have hrb := hb.r.ext he
      refine J.seq ?_
      refine J.seq ?_
      refine J.region ?_
      refine L.va rfl (X.move (by conv => lhs; whnf)) ?_
      refine L.va rfl (X.move (by conv => lhs; whnf)) ?_
      refine L.va rfl (X.len rfl Try.underlying25) ?_
      refine L.va rfl (X.lss rfl rfl) ?_
      refine L.nil ?_
      refine J.dec rfl (fun hlt => ?_) (fun hlt => ?_)
      · have hin : i < a.n := by omega
        have hA := hra.some_ (by omega)
        have hB := hrb.some_ (by omega)
        have gx := gtX (l := a.l) (i := i) (by omega)
        have gy := gtX (l := b.l) (i := i) (by omega)
        have hX := (ha.one (i := i) hin).ext he
        have hY := (hb.one (i := i) (by omega)).ext he
        have hmx := hs _ (memD (d := ce0) (show i < a.l.length by omega))
        generalize ex : a.l.getD i ce0 = p at gx hX hmx
        generalize ey : b.l.getD i ce0 = q at gy hY
        have cS : ∀ w', Ext w2 w' → Calls Try.prog 22 #[p.val, q.val] w' fun e w'' => e = .returned (.bool (sameC p.con q.con)) ∧ Ext w' w'' := fun w' hw => rsame14 (hX.ext hw) (hY.ext hw) (by have := hw.le; omega) hmx
        refine J.skip ?_
        refine J.seq ?_
        refine J.block ?_
        refine J.seq ?_
        refine J.quiet mixed (by kernel_rfl) ?_
        refine Qt.va rfl (fun w' hw => X.move (by conv => lhs; whnf)) ?_
        refine Qt.va rfl (fun w' hw => X.move (by conv => lhs; whnf)) ?_
        refine Qt.va rfl (fun w' hw => (by first | exact X.indexAddrn rfl rfl Try.underlying25 sz_48 (by first | exact Option.some_ne_none _ | exact hA | exact hB) (by omega) | exact X.indexAddr rfl rfl Try.underlying25 sz_48 (by first | exact Option.some_ne_none _ | exact hA | exact hB) (by omega))) ?_
        refine Qt.va rfl (fun w' hw => X.loadRow (cs := p.vs) rfl (hra.ext hw) (fun r u hu => flat_row ce_len gx r u hu) (Nat.zero_lt_succ _) Try.underlying48 rfl (by kernel_rfl)) ?_
        refine Qt.va rfl (fun w' hw => X.move (by conv => lhs; whnf)) ?_
        refine Qt.va rfl (fun w' hw => X.move (by conv => lhs; whnf)) ?_
        refine Qt.va rfl (fun w' hw => (by first | exact X.indexAddrn rfl rfl Try.underlying25 sz_48 (by first | exact Option.some_ne_none _ | exact hA | exact hB) (by omega) | exact X.indexAddr rfl rfl Try.underlying25 sz_48 (by first | exact Option.some_ne_none _ | exact hA | exact hB) (by omega))) ?_
        refine Qt.va rfl (fun w' hw => X.loadRow (cs := q.vs) rfl (hrb.ext hw) (fun r u hu => flat_row ce_len gy r u hu) (Nat.zero_lt_succ _) Try.underlying48 rfl (by kernel_rfl)) ?_
        refine Qt.call rfl en_22 rfl (fun w' hw => calls_ext hw (cS w' hw)) ?_
        refine Qt.va rfl (fun w' hw => X.not rfl) ?_
        refine Qt.nil (fun w3 hq => ?_)
        have he3 := he.trans hq
        cases hk : sameC p.con q.con
        · refine J.iteT rfl ?_
          have e : sameL a.con b.con = false := eqL_no (i := i) (by show i < (a.l.map Ce.con).length; rw [List.length_map]; omega) (by
            show sameC ((a.l.map Ce.con).getD i con0) ((b.l.map Ce.con).getD i con0) = false
            rw [con_atC, con_atC, ex, ey]
            exact hk)
          rw [e]
          refine J.seq ?_
          refine J.region ?_
          refine L.va rfl (X.assign (by conv => lhs; whnf)) ?_
          refine L.nil ?_
          refine J.ret ?_
          refine inB_ret <|  thn_ret <|  thn_ret <|  inB_ret <|  thn_ret <| ?_
          refine fin1 ?_
          exact ⟨rfl, he3⟩
        · refine J.iteF rfl ?_
          refine J.skip ?_
          refine J.region ?_
          refine L.va rfl (X.move (by conv => lhs; whnf)) ?_
          refine L.va rfl (X.add rfl rfl (by omega)) ?_
          refine L.va rfl (X.assign (by conv => lhs; whnf)) ?_
          refine L.nil ?_
          refine ⟨i + 1, At1 (by first | rfl | exact at_int rfl (by omega) | exact at_slice rfl (by omega) | exact at_int rfl (by simp)), (by (iterate 17 refine Agr.lk rfl ?_); exact Agr.lk rfl (Agr.hav rfl Agr.rfl')), ?_⟩
          refine ⟨⟨by omega, fun j hj => ?_, he3⟩, by omega⟩
          rcases Nat.lt_or_ge j i with h | h
          · exact hP j h
          · obtain rfl : j = i := by omega
            rw [ex, ey]
            exact hk
      · obtain rfl : i = a.n := by omega
        have e : sameL a.con b.con = true := eqL_yes (by show (a.l.map Ce.con).length = (b.l.map Ce.con).length; rw [List.length_map, List.length_map]; omega) (fun j hj => by
          show sameC ((a.l.map Ce.con).getD j con0) ((b.l.map Ce.con).getD j con0) = true
          rw [con_atC, con_atC]
          exact hP j (by have : j < (a.l.map Ce.con).length := hj; rw [List.length_map] at this; omega))
        rw [e]
        refine J.exit ?_
        refine J.seq ?_
        refine J.region ?_
        refine L.va rfl (X.assign (by conv => lhs; whnf)) ?_
        refine L.nil ?_
        refine J.ret ?_
        refine fin1 ?_
        exact ⟨rfl, he⟩
end Go.Proofs.Ytnndkepnabddgaa
namespace Go.Proofs.Ytnndkepnabddgaa
set_option maxRecDepth 100000
open Go.RowKit H
open Odr Tou HeapK
set_option linter.unusedVariables false
theorem tleast (s : Bys) (k : Int) (w : World) (hs : s.At w.heap.size w) (hn : s.n ≤ 900000) : Calls Try.prog 13 #[s.val, .int .i64 k] w fun e w' => ∃ A m c o, e = .returned (.slice A m c) ∧ w'.ownsRow w.heap.size 3 1 (.slice A m c) m (nums .i64 o) ∧ Firsts (ahL s.ks) s.n m o ∧ m = min s.n k.toNat ∧ Ext w w' := by
  have hR := ahL_ord s.ks
  refine enter Try.func13 rfl (by kernel_rfl) ?_
  refine J.seq ?_
  refine J.region ?_
  refine L.va rfl (X.assign (by conv => lhs; whnf)) ?_
  refine L.nil ?_
  refine J.seq ?_
  refine J.seq ?_
  refine J.region ?_
  refine L.va rfl (X.move (by conv => lhs; whnf)) ?_
  refine L.va rfl (X.lss rfl rfl) ?_
  refine L.nil ?_
  refine J.dec rfl (fun hk => ?_) (fun hk => ?_)
  · refine J.seq ?_
    refine J.region ?_
    refine L.va rfl (X.assign (by conv => lhs; whnf)) ?_
    refine L.nil ?_
    refine J.ret ?_
    refine thn_ret <| ?_
    refine fin1 ?_
    exact ⟨none, 0, 0, [], rfl, own_nil _ _ _ _, ⟨rfl, fun j hj => absurd hj (by omega)⟩, by omega, Ext.refl _⟩
  · obtain ⟨q, rfl⟩ := Int.eq_ofNat_of_zero_le (show 0 ≤ k by omega)
    refine J.skip ?_
    refine J.seq ?_
    refine J.region ?_
    refine L.va rfl (X.move (by conv => lhs; whnf)) ?_
    refine L.va rfl (X.build (l := [_, _]) (Evs.cons (by conv => lhs; whnf) Evs.nil) (bld_run Try.underlying59 (bp_59 Try.underlying59) zr_59 rfl)) ?_
    refine L.boxA (l := [_, _]) rfl rfl ?_
    intro d w1 hd1 hs1 hk1 he1
    have B1 : Bq s w.heap.size d (none, 0) w1 [] := ⟨hk1, own_nil _ _ _ _, hs.ext he1, by omega, (fun x hx => by cases hx), hn, Nat.zero_le _⟩
    have hx := B1.tch_ge
    refine L.va rfl (X.assign (by conv => lhs; whnf)) ?_
    refine L.nil ?_
    refine J.seq ?_
    refine J.seq ?_
    refine J.region ?_
    refine L.va rfl (X.move (by conv => lhs; whnf)) ?_
    refine L.va rfl (X.len rfl Try.underlying38) ?_
    refine L.va rfl (X.move (by conv => lhs; whnf)) ?_
    refine L.nil ?_
    refine J.block ?_
    refine J.loop (X := Nat × List Int × (Option Addr × Nat)) [6, 16, 17, 18, 19, 20, 21, 22, 23, 24, 25, 26, 27, 28, 29, 30, 31, 32, 33, 34, 35, 36, 37, 38, 39, 40, 41, 42, 43, 44, 45, 46] (fun (i, l, a) => [(16, .int .i64 (i : Int))]) (fun (i, l, a) w' => i ≤ s.n ∧ In1 (ahL s.ks) s.n i q l ∧ Bq s w.heap.size d a w' l ∧ Below w.heap.size w w') (fun (i, _) => s.n - i) ((0, [], (none, 0))) (At1 (by first | rfl | exact at_int rfl (by omega) | exact at_slice rfl (by omega) | exact at_int rfl (by simp))) ?_ ?_
    · exact ⟨Nat.zero_le _, In1.nil _ _, B1, he1⟩
    · rintro ⟨i, l, a⟩ g w2 ⟨hi, hI, H, hB⟩
      refine J.seq ?_
      refine J.region ?_
      refine L.va rfl (X.lss rfl rfl) ?_
      refine L.nil ?_
      refine J.seq ?_
      refine J.dec rfl (fun hlt => ?_) (fun hlt => ?_)
      · have hin : i < s.n := by omega
        have hln := hI.ln
        have c1 := H.len_
        refine J.skip ?_
        refine J.seq ?_
        refine J.block ?_
        refine J.seq ?_
        refine J.region ?_
        refine L.va rfl (X.move (by conv => lhs; whnf)) ?_
        refine L.va rfl (X.assign (by conv => lhs; whnf)) ?_
        refine L.nil ?_
        refine J.seq ?_
        refine J.region ?_
        refine L.va rfl (X.move (by conv => lhs; whnf)) ?_
        refine L.call rfl en_26 rfl (c1) ?_
        rintro e _ ⟨rfl, rfl⟩
        refine ⟨_, rfl, ?_⟩
        refine L.va rfl (X.move (by conv => lhs; whnf)) ?_
        refine L.va rfl (X.lss rfl rfl) ?_
        refine L.nil ?_
        refine J.dec rfl (fun hq => ?_) (fun hq => ?_)
        · refine J.region ?_
          refine L.va rfl (X.move (by conv => lhs; whnf)) ?_
          refine L.va rfl (X.mkI rfl Try.underlying57 rfl) ?_
          refine L.va rfl (X.move (by conv => lhs; whnf)) ?_
          refine L.va rfl (X.mkI rfl Try.underlying3 rfl) ?_
          refine L.call rfl en_27 rfl (H.hpush (by omega) (x := (i : Int)) (by omega)) ?_
          rintro e w3 ⟨rfl, a', H3, hC, _⟩
          refine ⟨_, rfl, ?_⟩
          refine L.nil ?_
          refine J.region ?_
          refine L.va rfl (X.add rfl rfl (by omega)) ?_
          refine L.va rfl (X.move (by conv => lhs; whnf)) ?_
          refine L.nil ?_
          refine ⟨(i + 1, siftUk (kap (ahL s.ks) s.n) (l.length + 1) (l ++ [(i : Int)]) l.length, a'), At1 (by first | rfl | exact at_int rfl (by omega) | exact at_slice rfl (by omega) | exact at_int rfl (by simp)), (by (iterate 14 refine Agr.lk rfl ?_); exact Agr.lk rfl (Agr.hav rfl Agr.rfl')), ?_⟩
          exact ⟨⟨by omega, hI.add (by omega), H3, hB.trans (hC.below H.lo H.tch_ge)⟩, by show s.n - (i + 1) < s.n - i; omega⟩
        · have hlq : l.length = q := by have := hI.ln; omega
          have h0 := H.at_ (i := 0) (by omega)
          have hr := Reads.of_own H.hf
          have hb := H.hb
          have hA := hr.some_ (by omega)
          refine J.seq ?_
          refine J.region ?_
          refine L.va rfl (X.move (by conv => lhs; whnf)) ?_
          refine L.va rfl (X.move (by conv => lhs; whnf)) ?_
          refine L.va rfl (X.move (by conv => lhs; whnf)) ?_
          refine L.va rfl (X.nilCheck rfl) ?_
          refine L.va rfl (X.fieldAddr rfl Try.underlying59 rfl sz_35 (by decide)) ?_
          refine L.va rfl (X.load rfl sc_35 (by first | exact Ld.blk hb rfl | exact Ld.num hr (by omega) | exact hA)) ?_
          refine L.va rfl (X.index1n (j := 0) rfl rfl Try.underlying35 sz_3 (by first | exact Option.some_ne_none _ | exact hr.some_ (by omega) | exact hA) (by omega)) ?_
          refine L.va rfl (X.load rfl sc_3 (by first | exact Ld.blk hb rfl | exact Ld.num hr (by omega) | exact hA)) ?_
          refine L.call rfl en_28 rfl (taheadI s (i : Int) (l.getD 0 0) w2 (H.hs.more H.lo) (by omega) h0) ?_
          rintro e w3 ⟨rfl, he3⟩
          refine ⟨_, rfl, ?_⟩
          have H3 := H.ext he3
          refine L.nil ?_
          cases ha : ahL s.ks (i : Int).toNat (l.getD 0 0).toNat
          · refine J.iteF rfl ?_
            refine J.skip ?_
            refine J.region ?_
            refine L.va rfl (X.add rfl rfl (by omega)) ?_
            refine L.va rfl (X.move (by conv => lhs; whnf)) ?_
            refine L.nil ?_
            refine ⟨(i + 1, l, a), At1 (by first | rfl | exact at_int rfl (by omega) | exact at_slice rfl (by omega) | exact at_int rfl (by simp)), (by (iterate 18 refine Agr.lk rfl ?_); exact Agr.lk rfl (Agr.hav rfl Agr.rfl')), ?_⟩
            exact ⟨⟨by omega, hI.skip hR hin hlq (by omega) (by simpa using ha), H3, hB.trans (he3.mono H.lo)⟩, by show s.n - (i + 1) < s.n - i; omega⟩
          · have hb3 := H3.hb
            refine J.iteT rfl ?_
            refine J.seq ?_
            refine J.region ?_
            refine L.va rfl (X.move (by conv => lhs; whnf)) ?_
            refine L.va rfl (X.nilCheck rfl) ?_
            refine L.va rfl (X.fieldAddr rfl Try.underlying59 rfl sz_35 (by decide)) ?_
            refine L.va rfl (X.load rfl sc_35 (by first | exact Ld.blk hb3 rfl | exact hA)) ?_
            refine L.va rfl (X.move (by conv => lhs; whnf)) ?_
            refine L.va rfl (X.index1n (j := 0) rfl rfl Try.underlying35 sz_3 (by first | exact Option.some_ne_none _ | exact hA) (by omega)) ?_
            refine L.storeON rfl rfl (by conv => lhs; whnf) sz_3 (H3.hf) (by omega) ?_
            intro w4 ho4 hg4 hb4 hs4
            have hls : (l.set 0 (i : Int)).length = l.length := List.length_set ..
            have hg4' : Chg (Tch d a) w3 w4 := .of_grown hg4 (fun g hg => tch_own hg)
            have hB4 := hB.trans ((he3.mono H.lo).trans (hg4'.below H3.lo H3.tch_ge))
            have H4 : Bq s w.heap.size d a w4 (l.set 0 (i : Int)) := ⟨by rw [hls]; exact hb3.grown hg4 (fun e => own_blk_ne H3.hf hb3 (by decide) e.symm), by rw [hls]; exact ho4, H3.hs.below (hg4'.below H3.lo H3.tch_ge), H.hd, (fun x hx => by
              rcases List.mem_or_eq_of_mem_set hx with hx | rfl
              · exact H.el x hx
              · omega), hn, by rw [hls]; exact H.bl⟩
            have c5 := (Bq.kit s w.heap.size d a).fix_ H4 (by omega)
            rw [hls] at c5
            refine L.nil ?_
            refine J.region ?_
            refine L.va rfl (X.move (by conv => lhs; whnf)) ?_
            refine L.va rfl (X.mkI rfl Try.underlying57 rfl) ?_
            refine L.call rfl en_29 rfl (c5) ?_
            rintro e w5 ⟨rfl, H5, hC5⟩
            refine ⟨_, rfl, ?_⟩
            refine L.nil ?_
            refine J.region ?_
            refine L.va rfl (X.add rfl rfl (by omega)) ?_
            refine L.va rfl (X.move (by conv => lhs; whnf)) ?_
            refine L.nil ?_
            refine ⟨(i + 1, siftDk (kap (ahL s.ks) s.n) l.length (l.set 0 (i : Int)) 0 l.length, a), At1 (by first | rfl | exact at_int rfl (by omega) | exact at_slice rfl (by omega) | exact at_int rfl (by simp)), (by (iterate 27 refine Agr.lk rfl ?_); exact Agr.lk rfl (Agr.hav rfl Agr.rfl')), ?_⟩
            exact ⟨⟨by omega, hI.put hR hin hlq (by omega) (by simpa using ha), H5, hB4.trans (hC5.below H4.lo H4.tch_ge)⟩, by show s.n - (i + 1) < s.n - i; omega⟩
      · obtain rfl : i = s.n := by omega
        have hln := hI.ln
        have I2 := hI.last hR
        have c1 := H.len_
        refine J.exit ?_
        refine J.seq ?_
        refine J.region ?_
        refine L.va rfl (X.move (by conv => lhs; whnf)) ?_
        refine L.call rfl en_26 rfl (c1) ?_
        rintro e _ ⟨rfl, rfl⟩
        refine ⟨_, rfl, ?_⟩
        refine L.make (q := l.length) (c := l.length) rfl rfl rfl Try.underlying35 el_3 (by omega) ?_
        intro b3 w3 hb3 hs3 hk3 he3
        rw [made_nums] at hk3
        have hlo := H.lo
        have hbl := H.bl
        have hbs : w2.heap.size = b3 := by omega
        have hlm : l.length ≤ maxLen := by unfold maxLen; omega
        have ho3 : w3.ownsRow w.heap.size 3 1 (.slice (some ⟨b3, 0, none⟩) l.length l.length) l.length (nums .i64 (List.replicate l.length 0)) := blk_own1 (q := l.length) hk3 (by omega) hlm (by simp [nums])
        have hne : ¬ Tch d a b3 := by
          rintro (e | e)
          · have := H.hb.lt; omega
          · have := (H.hf.lt b3 ((own_n _ _ _ _).trans e)).2; omega
        have H3 := H.ext he3
        have hB3 := hB.trans (he3.mono hlo)
        obtain ⟨m, hm⟩ : ∃ m, m = l.length := ⟨_, rfl⟩
        rw [← hm] at ho3 hlm hln I2
        refine L.va rfl (X.assign (by conv => lhs; whnf)) ?_
        refine L.nil ?_
        refine J.seq ?_
        refine J.seq ?_
        refine J.region ?_
        refine L.va rfl (X.move (by conv => lhs; whnf)) ?_
        refine L.va rfl (X.len rfl Try.underlying35) ?_
        refine L.va rfl (X.sub rfl rfl (by omega)) ?_
        refine L.va rfl (X.assign (by conv => lhs; whnf)) ?_
        refine L.nil ?_
        refine J.block ?_
        refine J.loop (X := Nat × List Int × List Int) [8, 53, 54, 55, 56, 57, 58, 59, 60, 61, 62, 63] (fun (p, l, o) => [(8, .int .i64 ((p : Int) - 1))]) (fun (p, l, o) w' => p ≤ m ∧ In2 (ahL s.ks) s.n p l ∧ Bq s w.heap.size d a w' l ∧ Below w.heap.size w w' ∧ o.length = m ∧ (∀ j, p ≤ j → j < m → 0 ≤ o.getD j 0 ∧ o.getD j 0 < (s.n : Int) ∧ pos (ahL s.ks) s.n (o.getD j 0).toNat = j) ∧ w'.ownsRow w.heap.size 3 1 (.slice (some ⟨b3, 0, none⟩) m m) m (nums .i64 o)) (fun (p, _) => p) ((m, l, List.replicate m 0)) (At1 (by first | rfl | exact at_int rfl (by omega) | exact at_slice rfl (by omega) | exact at_int rfl (by simp))) ?_ ?_
        · exact ⟨Nat.le_refl _, I2, H3, hB3, List.length_replicate .., fun j h1 h2 => by omega, ho3⟩
        · rintro ⟨p, l2, o⟩ g w4 ⟨hp, I4, H4, hB4, hol, hof, ho4⟩
          refine J.seq ?_
          refine J.seq ?_
          refine J.region ?_
          refine L.va rfl (X.move (by conv => lhs; whnf)) ?_
          refine L.va rfl (X.geq rfl rfl) ?_
          refine L.nil ?_
          refine J.dec rfl (fun hge => ?_) (fun hge => ?_)
          · obtain ⟨p', rfl⟩ : ∃ p', p = p' + 1 := ⟨p - 1, by omega⟩
            obtain ⟨⟨r0, r1, r2⟩, I5⟩ := I4.pop hR
            have hl2 := I4.ln
            refine J.skip ?_
            refine J.seq ?_
            refine J.block ?_
            refine J.region ?_
            refine L.va rfl (X.move (by conv => lhs; whnf)) ?_
            refine L.va rfl (X.move (by conv => lhs; whnf)) ?_
            refine L.va rfl (X.move (by conv => lhs; whnf)) ?_
            refine L.va rfl (X.mkI rfl Try.underlying57 rfl) ?_
            refine L.call rfl en_30 rfl ((Bq.kit s w.heap.size d a).pop_ H4 (by omega)) ?_
            rintro e w5 ⟨rfl, H5, hC5⟩
            refine ⟨_, rfl, ?_⟩
            have ho5 := hC5.own ho4 (fun g hg => by injection hg with hg; subst hg; exact hne)
            have hB5 := hB4.trans (hC5.below H4.lo H4.tch_ge)
            refine L.va rfl (X.assert rfl Try.underlying3 rfl) ?_
            refine L.va rfl (X.index1n (j := p') rfl (show Value.int .i64 (((p' + 1 : Nat) : Int) - 1) = _ from by rw [show (((p' + 1 : Nat) : Int) - 1) = (p' : Int) by omega]) Try.underlying35 sz_3 (fun h => by cases h) (by omega)) ?_
            refine L.storeON rfl rfl (by conv => lhs; whnf) sz_3 (ho5) (by omega) ?_
            intro w6 ho6 hg6 hb6 hs6
            have hC6 : Chg (fun g => g = b3) w5 w6 := .of_grown hg6 (fun g hg => by injection hg with hg; exact hg.symm)
            have hwb : w.heap.size ≤ b3 := by omega
            have H6 := H5.chg hC6 (fun g h1 h2 => hne (h2 ▸ h1)) (fun g hg => by omega)
            have hB6 := hB5.trans (hC6.below H5.lo (fun g hg => by omega))
            refine L.nil ?_
            refine J.region ?_
            refine L.va rfl (X.move (by conv => lhs; whnf)) ?_
            refine L.va rfl (X.sub rfl rfl (by omega)) ?_
            refine L.va rfl (X.assign (by conv => lhs; whnf)) ?_
            refine L.nil ?_
            refine ⟨(p', (siftDk (kap (ahL s.ks) s.n) l2.length (swp l2 0 (l2.length - 1)) 0 (l2.length - 1)).take (l2.length - 1), o.set p' (l2.getD 0 0)), At1 (by first | rfl | exact at_int rfl (by omega) | exact at_slice rfl (by omega) | exact at_int rfl (by simp)), (by (iterate 12 refine Agr.lk rfl ?_); exact Agr.lk rfl (Agr.hav rfl Agr.rfl')), ?_⟩
            refine ⟨⟨by omega, I5, H6, hB6, by rw [List.length_set]; exact hol, fun j h1 h2 => ?_, ho6⟩, by show p' < p' + 1; omega⟩
            rw [getD_set _ _ _ _ (by omega)]
            by_cases e : p' = j
            · subst e
              rw [if_pos rfl]
              exact ⟨r0, r1, r2⟩
            · rw [if_neg e]
              exact hof j (by omega) h2
          · obtain rfl : p = 0 := by omega
            refine J.exit ?_
            refine J.seq ?_
            refine J.region ?_
            refine L.va rfl (X.move (by conv => lhs; whnf)) ?_
            refine L.va rfl (X.assign (by conv => lhs; whnf)) ?_
            refine L.nil ?_
            refine J.ret ?_
            refine fin1 ?_
            subst hm
            exact ⟨_, _, _, o, rfl, ho4, ⟨hol, fun j hj => hof j (Nat.zero_le _) hj⟩, by omega, hB4⟩
end Go.Proofs.Ytnndkepnabddgaa
namespace Go.Proofs.Ytnndkepnabddgaa
set_option maxRecDepth 100000
open Go.RowKit H
set_option linter.unusedVariables false
theorem run_mark {P : Program} {w : World} {t e : TypeId} {g n c : Nat} {cs : Array Value} (hb : Blk w g e cs) (ht : P.underlying t = some (.slice e)) (he : P.underlying e = some (.int .u8)) :
    (convert t t (.slice (some ⟨g, 0, none⟩) n c)).run P w = .ok (.slice (some ⟨g, 0, none⟩) n c) (w.freeze ⟨g, cs.size, none⟩ 1) := by
  have hsh : w.shape? g = some (e, cs.size) := by
    unfold World.shape?
    rw [show w.heap[g]? = _ from hb]
  simp [convert, run_underlying ht, run_underlying he, markStringish, hsh]
theorem freeze_at {w : World} {g e : Nat} {cs : Array Value} (hb : Blk w g e cs) : (w.freeze ⟨g, cs.size, none⟩ 1).heap[g]? = some (.cells cs e (cs.size, cs.size + 1)) := by
  have hlt := hb.lt
  unfold World.freeze
  rw [if_neg (by decide)]
  show (w.heap.modify g _)[g]? = _
  rw [Array.getElem?_eq_getElem (by rw [Array.size_modify]; exact hlt), Array.getElem_modify_self]
  have hk : w.heap[g] = .cells cs e (0, 0) := by
    have := hb
    unfold Blk at this
    rw [Array.getElem?_eq_getElem hlt] at this
    exact Option.some.inj this
  rw [hk]
  rfl
theorem freeze_grown (w : World) (g k : Nat) : w.grownBy (w.freeze ⟨g, k, none⟩ 1) (some g) := by
  unfold World.freeze
  rw [if_neg (by decide)]
  refine ⟨rfl, rfl, rfl, by show w.heap.size ≤ (w.heap.modify g _).size; rw [Array.size_modify]; exact Nat.le_refl _, fun j hj hne => ?_⟩
  show (w.heap.modify g _)[j]? = _
  rw [Array.getElem?_modify, if_neg (fun e => hne (by rw [e]))]
theorem L.mark {P : Program} {n : Nat} {ops rest : List Oper} {Q : Exit → Fr → World → Prop} {f : Fr} {w : World} {d : Option Tmp} {ty : TypeId} {pos : String} {aft : Array Edge} {gd : Option (Nat × Bool)} {x : Operand} {t e : TypeId} {g m c q : Nat} {cs : Array Value} (hg : wn ops f gd = true) (hx : ev f x = .slice (some ⟨g, 0, none⟩) m c) (hb : Blk w g e cs) (hq : cs.size = q)
    (ht : P.underlying t = some (.slice e)) (he : P.underlying e = some (.int .u8))
    (h : ∀ w', Reads w' (g + 1) 1 (some ⟨g, 0, none⟩) q cs.toList → w.grownBy w' (some g) → L P n ops Q rest (putO f d (.slice (some ⟨g, 0, none⟩) m c)) w') : L P n ops Q (⟨d, .convert t t x, ty, pos, aft, gd⟩ :: rest) f w := by
  refine L.val hg (w' := w.freeze ⟨g, cs.size, none⟩ 1) (v := .slice (some ⟨g, 0, none⟩) m c) ?_ (h _ ?_ (freeze_grown w g _))
  · have := run_mark (n := m) (c := c) hb ht he
    simp only [execOp, hx]
    simp [this]
  · subst hq
    refine ⟨by simp, fun _ => ⟨⟨g, 0, none⟩, rfl, Nat.lt_succ_self _, fun j u hu => ?_⟩⟩
    have := cell_of_row _ g j cs e _ (freeze_at hb)
    rw [Addr.add_mid, Nat.zero_add, this]
    simpa using hu
end Go.Proofs.Ytnndkepnabddgaa
namespace Go.Proofs.Ytnndkepnabddgaa
set_option maxRecDepth 100000
open Go.RowKit H
open Odr Tou HeapK
set_option linter.unusedVariables false
theorem le_maxL {n : Nat} (h : n ≤ 100) : n ≤ maxLen := by unfold maxLen; omega
def ks16 : List (List Int) := [[98], [97], [98], [97, 97]]
theorem first16 : Firsts (ahL ks16) 4 2 [1, 3] := by
  refine ⟨rfl, ?_⟩
  decide
theorem awake16 (w : World) : Calls Try.prog 6 #[] w fun e w' => e = .returned (.bool true) ∧ Ext w w' := by
  refine enter Try.func6 rfl (by kernel_rfl) ?_
  refine J.seq ?_
  refine J.region ?_
  refine L.va rfl (X.assign (by conv => lhs; whnf)) ?_
  refine L.nil ?_
  refine J.seq ?_
  refine J.region ?_
  refine L.bslice (vs := [_]) rfl (Evs.cons (by conv => lhs; whnf) Evs.nil) rfl rfl rfl rfl Try.underlying37 sz_5 zr_5 (by decide) ?_
  intro b1 w1 hb1 hs1 hk1 he1
  refine L.mark rfl rfl (hk1) rfl Try.underlying37 Try.underlying5 ?_
  intro v1 hr1 hg1
  have hx1 : Ext w v1 := he1.grw hg1 (by intro g hg; injection hg with hg; omega)
  have hz1 : b1 + 1 ≤ v1.heap.size := by have := hg1.size; omega
  refine L.bslice (vs := [_]) rfl (Evs.cons (by conv => lhs; whnf) Evs.nil) rfl rfl rfl rfl Try.underlying37 sz_5 zr_5 (by decide) ?_
  intro b2 w2 hb2 hs2 hk2 he2
  refine L.mark rfl rfl (hk2) rfl Try.underlying37 Try.underlying5 ?_
  intro v2 hr2 hg2
  have hx2 : Ext v1 v2 := he2.grw hg2 (by intro g hg; injection hg with hg; omega)
  have hz2 : b2 + 1 ≤ v2.heap.size := by have := hg2.size; omega
  refine L.bslice (vs := [_]) rfl (Evs.cons (by conv => lhs; whnf) Evs.nil) rfl rfl rfl rfl Try.underlying37 sz_5 zr_5 (by decide) ?_
  intro b3 w3 hb3 hs3 hk3 he3
  refine L.mark rfl rfl (hk3) rfl Try.underlying37 Try.underlying5 ?_
  intro v3 hr3 hg3
  have hx3 : Ext v2 v3 := he3.grw hg3 (by intro g hg; injection hg with hg; omega)
  have hz3 : b3 + 1 ≤ v3.heap.size := by have := hg3.size; omega
  refine L.bslice (vs := [_, _]) rfl (Evs.cons (by conv => lhs; whnf) (Evs.cons (by conv => lhs; whnf) Evs.nil)) rfl rfl rfl rfl Try.underlying37 sz_5 zr_5 (by decide) ?_
  intro b4 w4 hb4 hs4 hk4 he4
  refine L.mark rfl rfl (hk4) rfl Try.underlying37 Try.underlying5 ?_
  intro v4 hr4 hg4
  have hx4 : Ext v3 v4 := he4.grw hg4 (by intro g hg; injection hg with hg; omega)
  have hz4 : b4 + 1 ≤ v4.heap.size := by have := hg4.size; omega
  refine L.bslice (vs := [_, _, _, _]) rfl (Evs.cons (by conv => lhs; whnf) (Evs.cons (by conv => lhs; whnf) (Evs.cons (by conv => lhs; whnf) (Evs.cons (by conv => lhs; whnf) Evs.nil)))) rfl rfl rfl rfl Try.underlying38 sz_37 zr_37 (by decide) ?_
  intro b5 w5 hb5 hs5 hk5 he5
  have hx3' := hx4.trans he5
  have hx2' := hx3.trans hx3'
  have hx1' := hx2.trans hx2'
  have hr1' := (hr1.ext hx1').more (Nat.le_trans hz1 hx1'.le)
  have hr2' := (hr2.ext hx2').more (Nat.le_trans hz2 hx2'.le)
  have hr3' := (hr3.ext hx3').more (Nat.le_trans hz3 hx3'.le)
  have hr4' := (hr4.ext he5).more (Nat.le_trans hz4 he5.le)
  have he05 := hx1.trans hx1'
  obtain ⟨s, hs⟩ : ∃ s : Bys, s = ⟨some ⟨b5, 0, none⟩, 4, 4, [⟨some ⟨b1, 0, none⟩, 1, 1, [98]⟩, ⟨some ⟨b2, 0, none⟩, 1, 1, [97]⟩, ⟨some ⟨b3, 0, none⟩, 1, 1, [98]⟩, ⟨some ⟨b4, 0, none⟩, 2, 2, [97, 97]⟩]⟩ := ⟨_, rfl⟩
  have hA : s.At w5.heap.size w5 := by
    rw [hs]
    refine ⟨?_, ?_, rfl, le_maxL (n := 4) (by decide)⟩
    · exact blk_readsN (sz := 1) (q := 4) hk5 hk5.lt rfl
    · intro x hx
      simp only [List.mem_cons, List.not_mem_nil, or_false] at hx
      rcases hx with rfl | rfl | rfl | rfl
      · exact ⟨hr1', le_maxL (n := 1) (by decide)⟩
      · exact ⟨hr2', le_maxL (n := 1) (by decide)⟩
      · exact ⟨hr3', le_maxL (n := 1) (by decide)⟩
      · exact ⟨hr4', le_maxL (n := 2) (by decide)⟩
  have c1 := tleast s 2 w5 hA (by rw [hs]; show 4 ≤ 900000; decide)
  rw [show s.ks = ks16 by rw [hs]; rfl, show s.n = 4 by rw [hs]] at c1
  rw [show s.val = .slice (some ⟨b5, 0, none⟩) 4 4 by rw [hs]] at c1
  refine L.call rfl en_13 rfl (c1) ?_
  rintro e w6 ⟨A6, m6, c6, o6, rfl, ho6, hf6, hm6, he6⟩
  refine ⟨_, rfl, ?_⟩
  obtain rfl : m6 = 2 := hm6
  obtain rfl : o6 = [1, 3] := hf6.unique (ahL_ord _) first16
  refine L.bslice (vs := [_, _]) rfl (Evs.cons (by conv => lhs; whnf) (Evs.cons (by conv => lhs; whnf) Evs.nil)) rfl rfl rfl rfl Try.underlying35 sz_3 zr_3 (by decide) ?_
  intro b7 w7 hb7 hs7 hk7 he7
  have ho7 := ho6.ext he7
  refine L.call rfl en_12 rfl (ints16 _ _ _ _ _ _ _ [1, 3] w7 (Reads.of_own ho7) (blk_readsN (sz := 1) (q := 2) (l := nums .i64 [1, 3]) hk7 hk7.lt rfl) (by unfold maxLen; omega) (by unfold maxLen; omega)) ?_
  rintro e w8 ⟨rfl, he8⟩
  refine ⟨_, rfl, ?_⟩
  rw [eqI_self]
  refine L.va rfl (X.assign (by conv => lhs; whnf)) ?_
  refine L.nil ?_
  refine J.ret ?_
  refine fin1 ?_
  exact ⟨rfl, ((he05.trans he6).trans he7).trans he8⟩
end Go.Proofs.Ytnndkepnabddgaa
namespace Go.Proofs.Ytnndkepnabddgaa
set_option maxRecDepth 100000
open Go.RowKit H
open Dfp Tmg
set_option linter.unusedVariables false
theorem risT {l : List Ce} (h : rise l = true) : Tmg.Ris (l.map Ce.con) := by
  have h := ris_of h
  unfold Tmg.Ris
  rw [List.pairwise_map]
  exact h.imp fun {x y} h => by
    have : (x.k : Int) < (y.k : Int) := h
    show x.k < y.k
    omega
theorem hV2 (x y : Con) (_ : x.k = y.k) (h : eJ x y = 0) : (vJ x y).k = x.k := by
  unfold vJ
  rw [if_pos h]
theorem take_oneS {l : List Ces} {i : Nat} (h : i < l.length) : l.take (i + 1) = l.take i ++ [l.getD i ces0] := by
  rw [List.take_succ_eq_append_getElem h, List.getD, List.getElem?_eq_getElem h]
  rfl
structure Merged (ls : List Ces) (l : List Con) : Prop where
  ris : Tmg.Ris l
  at_ : ∀ k, at_ l k = (ls.map (fun s => at_ s.con k)).foldl (oj vJ) none
theorem Merged.nil : Merged [] [] := ⟨List.Pairwise.nil, fun k => rfl⟩
theorem Merged.next {ls : List Ces} {l t : List Con} {s : Ces} (h : Merged ls l) (hs : rise s.l = true) (hm : m2 eJ vJ l s.con = (t, 0)) : Merged (ls ++ [s]) t := by
  obtain ⟨h1, h2⟩ := m2_law hV2 _ l s.con t (Nat.le_refl _) h.ris (risT hs) hm
  refine ⟨h1, fun k => ?_⟩
  rw [h2, h.at_, List.map_append, List.foldl_append]
  rfl
theorem Merged.same {ls : List Ces} {l t : List Con} (h : Merged ls l) (ha : riseAll ls = true) (hm : mP eJ vJ (tot (ls.map Ces.con)) (ls.map Ces.con) [] = (t, 0)) : t = l := by
  obtain ⟨h1, h2⟩ := mP_law hV2 _ _ [] t (Nat.le_refl _) (fun r hr => by
    obtain ⟨s, hs, rfl⟩ := List.mem_map.1 hr
    exact risT (List.all_eq_true.1 ha s hs)) List.Pairwise.nil (fun r hr c hc o ho => by cases ho) hm
  refine ris_ext h1 h.ris fun k => ?_
  rw [h2, h.at_, List.map_map]
  rfl
theorem law_TourneyAgrees (w : World) (A0 : Option Addr) (n0 c0 : Nat) (xs0 : List (List CeT)) (hn0 : n0 ≤ c0) (hc0 : c0 ≤ maxLen) (hA0 : A0 = none → c0 = 0) (hl0 : LiesSlice w w.heap.size A0 n0 xs0) :
    Calls Try.prog 4 #[.slice A0 n0 c0] w fun e w' => e = .returned (.bool true) ∧ Below w.heap.size w w' := by
  obtain ⟨ls, hll, hr, hs⟩ := lists_of hl0
  have hmx := Nat.le_trans hn0 hc0
  refine enter Try.func4 rfl (by kernel_rfl) ?_
  refine J.seq ?_
  refine J.region ?_
  refine L.va rfl (X.assign (by conv => lhs; whnf)) ?_
  refine L.nil ?_
  refine J.seq ?_
  refine J.seq ?_
  refine J.region ?_
  refine L.va rfl (X.move (by conv => lhs; whnf)) ?_
  have K1 := rlight16 A0 n0 c0 ls hr (fun s h => (hs s h).1) hll (Nat.le_refl _) hmx
  refine L.call rfl en_5 rfl (K1) ?_
  rintro e w1 ⟨he1, z1, rfl, hz1⟩
  refine ⟨_, rfl, ?_⟩
  have he1 : Ext w w1 := he1
  refine L.va rfl (X.not rfl) ?_
  refine L.nil ?_
  by_cases k1 : z1 = true
  · subst k1
    obtain ⟨hn8, hL⟩ := hz1 rfl
    have q1 := he1.le
    refine J.iteF rfl ?_
    refine J.skip ?_
    refine J.seq ?_
    refine J.region ?_
    refine L.va rfl (X.move (by conv => lhs; whnf)) ?_
    have K2 := tmerge A0 n0 c0 ls w1 ((hr.ext he1).more q1) (fun s h => ⟨((hs s h).1.ext he1).more q1, (hs s h).2, by have := (hL s h).1; omega, fun x hx => ((hL s h).2 x hx).q⟩) hll hn8
    refine L.call rfl en_7 rfl (K2) ?_
    rintro e w2 ⟨t, zt, rfl, ht0, ht1, htA, htn, he2⟩
    refine ⟨_, rfl, ?_⟩
    have he2 : Ext w1 w2 := he2
    have he02 := he1.trans he2
    refine L.va rfl (X.move (by conv => lhs; whnf)) ?_
    refine L.va rfl (X.extract rfl rfl) ?_
    refine L.va rfl (X.extract rfl rfl) ?_
    refine L.va rfl (X.assign (by conv => lhs; whnf)) ?_
    refine L.va rfl (X.assign (by conv => lhs; whnf)) ?_
    refine L.nil ?_
    refine J.seq ?_
    refine J.region ?_
    refine L.va rfl (X.assign (by conv => lhs; whnf)) ?_
    refine L.nil ?_
    refine J.seq ?_
    refine J.region ?_
    refine L.va rfl (X.assign (by conv => lhs; whnf)) ?_
    refine L.nil ?_
    refine J.seq ?_
    refine J.seq ?_
    refine J.region ?_
    refine L.va rfl (X.assign (by conv => lhs; whnf)) ?_
    refine L.nil ?_
    refine J.block ?_
    refine J.loop (X := Nat × Ces × Int) [5, 6, 7, 17, 18, 19, 20, 21, 22, 23, 24, 25, 26, 27, 28, 29, 30, 31, 32, 33, 34, 35] (fun (i, a, f) => [(5, a.val), (6, .int .i64 f), (7, .int .i64 (i : Int))]) (fun (i, a, f) w' => i ≤ n0 ∧ a.At w'.heap.size w' ∧ a.n ≤ a.c ∧ a.n ≤ 60 * i ∧ (∀ x ∈ a.l, x.LtQ (20 + i)) ∧ (f = 0 → Merged (ls.take i) a.con) ∧ Ext w2 w') (fun (i, _) => n0 - i) ((0, ⟨none, 0, 0, []⟩, 0)) (At3 (by first | rfl | exact at_int rfl (by omega) | exact at_slice rfl (by omega) | exact at_int rfl (by simp)) (by first | rfl | exact at_int rfl (by omega) | exact at_slice rfl (by omega) | exact at_int rfl (by simp)) (by first | rfl | exact at_int rfl (by omega) | exact at_slice rfl (by omega) | exact at_int rfl (by simp))) ?_ ?_
    · exact ⟨Nat.zero_le _, ⟨Reads.of_own (own_nil _ 0 0 4), (fun x hx => by cases hx), rfl, Nat.zero_le _⟩, Nat.le_refl _, Nat.zero_le _, (fun x hx => by cases hx), fun _ => Merged.nil, Ext.refl _⟩
    · rintro ⟨i, a, f⟩ g w3 ⟨hi, ha, hac, han, haL, hm, he3⟩
      have he03 := he02.trans he3
      have q3 := he03.le
      refine J.seq ?_
      refine J.seq ?_
      refine J.region ?_
      refine L.va rfl (X.move (by conv => lhs; whnf)) ?_
      refine L.va rfl (X.move (by conv => lhs; whnf)) ?_
      refine L.va rfl (X.len rfl Try.underlying22) ?_
      refine L.va rfl (X.lss rfl rfl) ?_
      refine L.va rfl (X.move (by conv => lhs; whnf)) ?_
      refine L.caseDec (k := 21) rfl (fun hlt => ?_) (fun hlt => ?_)
      · have hil : i < ls.length := by omega
        refine L.va rfl (X.move (by conv => lhs; whnf)) ?_
        refine L.va rfl (X.eql rfl rfl) ?_
        refine L.va rfl (X.pickT rfl (by conv => lhs; whnf)) ?_
        refine L.nil ?_
        refine J.dec rfl (fun hf => ?_) (fun hf => ?_)
        · have hr3 := hr.ext he03
          have hA := hr3.some_ (by omega)
          have gs := gtS (l := ls) (i := i) hil
          have ms := hs _ (memD (l := ls) (i := i) (d := ces0) hil)
          have mL := hL _ (memD (l := ls) (i := i) (d := ces0) hil)
          obtain ⟨s, es⟩ : ∃ s, s = ls.getD i ces0 := ⟨_, rfl⟩
          rw [← es] at gs ms mL
          have lx : Ld w3 (pA A0 i) (.slice s.A s.n s.c) := by have h := Ld.flat2 cs_len hr3 gs (r := 0) rfl; rwa [Nat.mul_one] at h
          refine J.skip ?_
          refine J.seq ?_
          refine J.block ?_
          refine J.region ?_
          refine L.va rfl (X.move (by conv => lhs; whnf)) ?_
          refine L.va rfl (X.move (by conv => lhs; whnf)) ?_
          refine L.va rfl (X.move (by conv => lhs; whnf)) ?_
          refine L.va rfl ((by first | exact X.index1n rfl rfl Try.underlying22 sz_25 (by first | exact Option.some_ne_none _ | exact hA | exact lx) (by omega) | exact X.index1 rfl rfl Try.underlying22 sz_25 (by first | exact Option.some_ne_none _ | exact hA | exact lx) (by omega))) ?_
          refine L.va rfl (X.load rfl sc_25 (by first | exact hA | exact lx)) ?_
          have K := cmerge2 (a := a) (b := s) (q := 20 + i) w3 ha ((ms.1.ext he03).more q3) ⟨by omega, by omega⟩ ⟨hac, ms.2⟩ haL (fun x hx => (mL.2 x hx).q.more (by omega)) (by omega)
          refine L.call rfl en_10 rfl (K) ?_
          rintro e w4 ⟨b, zb, rfl, hb0, hb1, hbA, hbc, hbn, hbL, he4⟩
          refine ⟨_, rfl, ?_⟩
          have he4 : Ext w3 w4 := he4
          refine L.va rfl (X.move (by conv => lhs; whnf)) ?_
          refine L.va rfl (X.extract rfl rfl) ?_
          refine L.va rfl (X.extract rfl rfl) ?_
          refine L.va rfl (X.assign (by conv => lhs; whnf)) ?_
          refine L.va rfl (X.assign (by conv => lhs; whnf)) ?_
          refine L.nil ?_
          refine J.region ?_
          refine L.va rfl (X.move (by conv => lhs; whnf)) ?_
          refine L.va rfl (X.add rfl rfl (by omega)) ?_
          refine L.va rfl (X.assign (by conv => lhs; whnf)) ?_
          refine L.nil ?_
          refine ⟨(i + 1, b, zb), At3 (by first | rfl | exact at_int rfl (by omega) | exact at_slice rfl (by omega) | exact at_int rfl (by simp)) (by first | rfl | exact at_int rfl (by omega) | exact at_slice rfl (by omega) | exact at_int rfl (by simp)) (by first | rfl | exact at_int rfl (by omega) | exact at_slice rfl (by omega) | exact at_int rfl (by simp)), (by (iterate 23 refine Agr.lk rfl ?_); exact Agr.lk rfl (Agr.hav rfl Agr.rfl')), ?_⟩
          refine ⟨⟨by omega, hbA, hbc, by omega, hbL, fun h0 => ?_, he3.trans he4⟩, by show n0 - (i + 1) < n0 - i; omega⟩
          have hf0 : f = 0 := by omega
          cases hrr : (rise a.l && rise s.l) with
          | false => have := hb0 hrr; omega
          | true =>
            have h2 := hb1 hrr
            rw [h0] at h2
            rw [take_oneS hil, ← es]
            have hrr2 : rise a.l = true ∧ rise s.l = true := by simpa using hrr
            exact (hm hf0).next hrr2.2 h2.symm
        · refine J.exit ?_
          refine J.seq ?_
          refine J.region ?_
          refine L.va rfl (X.move (by conv => lhs; whnf)) ?_
          refine L.va rfl (X.neq rfl rfl) ?_
          refine L.va rfl (X.move (by conv => lhs; whnf)) ?_
          refine L.caseNdec (k := 38) rfl (fun hz => ?_) (fun hz => ?_)
          · refine L.no rfl ?_
            refine L.no rfl ?_
            refine L.va rfl (X.pickT rfl (by conv => lhs; whnf)) ?_
            refine L.va rfl (X.move (by conv => lhs; whnf)) ?_
            refine L.no rfl ?_
            refine L.no rfl ?_
            refine L.no rfl ?_
            refine L.va rfl (X.pickT rfl (by conv => lhs; whnf)) ?_
            refine L.va rfl (X.move (by conv => lhs; whnf)) ?_
            refine L.call rfl en_6 rfl (awake16 w3) ?_
            rintro e w4 ⟨rfl, he4⟩
            refine ⟨_, rfl, ?_⟩
            refine L.va rfl (X.pickT rfl (by conv => lhs; whnf)) ?_
            refine L.va rfl (X.assign (by conv => lhs; whnf)) ?_
            refine L.nil ?_
            refine J.ret ?_
            refine fin1 ?_
            exact ⟨rfl, he03.trans he4⟩
          · refine L.va rfl (X.move (by conv => lhs; whnf)) ?_
            refine L.va rfl (X.neq rfl rfl) ?_
            refine L.va rfl (X.pickF rfl (by conv => lhs; whnf)) ?_
            refine L.va rfl (X.move (by conv => lhs; whnf)) ?_
            refine L.caseNdecT (k := 42) rfl (by omega) ?_
            refine L.no rfl ?_
            refine L.no rfl ?_
            refine L.no rfl ?_
            refine L.va rfl (X.pickT rfl (by conv => lhs; whnf)) ?_
            refine L.va rfl (X.move (by conv => lhs; whnf)) ?_
            refine L.call rfl en_6 rfl (awake16 w3) ?_
            rintro e w4 ⟨rfl, he4⟩
            refine ⟨_, rfl, ?_⟩
            refine L.va rfl (X.pickT rfl (by conv => lhs; whnf)) ?_
            refine L.va rfl (X.assign (by conv => lhs; whnf)) ?_
            refine L.nil ?_
            refine J.ret ?_
            refine fin1 ?_
            exact ⟨rfl, he03.trans he4⟩
      · refine L.no rfl ?_
        refine L.no rfl ?_
        refine L.va rfl (X.pickF rfl (by conv => lhs; whnf)) ?_
        refine L.nil ?_
        refine J.iteF rfl ?_
        refine J.exit ?_
        refine J.seq ?_
        refine J.region ?_
        refine L.va rfl (X.move (by conv => lhs; whnf)) ?_
        refine L.va rfl (X.neq rfl rfl) ?_
        refine L.va rfl (X.move (by conv => lhs; whnf)) ?_
        refine L.caseNdec (k := 38) rfl (fun hz => ?_) (fun hz => ?_)
        · refine L.no rfl ?_
          refine L.no rfl ?_
          refine L.va rfl (X.pickT rfl (by conv => lhs; whnf)) ?_
          refine L.va rfl (X.move (by conv => lhs; whnf)) ?_
          refine L.no rfl ?_
          refine L.no rfl ?_
          refine L.no rfl ?_
          refine L.va rfl (X.pickT rfl (by conv => lhs; whnf)) ?_
          refine L.va rfl (X.move (by conv => lhs; whnf)) ?_
          refine L.call rfl en_6 rfl (awake16 w3) ?_
          rintro e w4 ⟨rfl, he4⟩
          refine ⟨_, rfl, ?_⟩
          refine L.va rfl (X.pickT rfl (by conv => lhs; whnf)) ?_
          refine L.va rfl (X.assign (by conv => lhs; whnf)) ?_
          refine L.nil ?_
          refine J.ret ?_
          refine fin1 ?_
          exact ⟨rfl, he03.trans he4⟩
        · have hz : zt = 0 := by omega
          have hin : i = n0 := by omega
          refine L.va rfl (X.move (by conv => lhs; whnf)) ?_
          refine L.va rfl (X.neq rfl rfl) ?_
          refine L.va rfl (X.pickF rfl (by conv => lhs; whnf)) ?_
          refine L.va rfl (X.move (by conv => lhs; whnf)) ?_
          refine L.caseNdec (k := 42) rfl (fun hf => ?_) (fun hf => ?_)
          · refine L.no rfl ?_
            refine L.no rfl ?_
            refine L.no rfl ?_
            refine L.va rfl (X.pickT rfl (by conv => lhs; whnf)) ?_
            refine L.va rfl (X.move (by conv => lhs; whnf)) ?_
            refine L.call rfl en_6 rfl (awake16 w3) ?_
            rintro e w4 ⟨rfl, he4⟩
            refine ⟨_, rfl, ?_⟩
            refine L.va rfl (X.pickT rfl (by conv => lhs; whnf)) ?_
            refine L.va rfl (X.assign (by conv => lhs; whnf)) ?_
            refine L.nil ?_
            refine J.ret ?_
            refine fin1 ?_
            exact ⟨rfl, he03.trans he4⟩
          · have hf : f = 0 := by omega
            have hra : riseAll ls = true := by
              cases h : riseAll ls with
              | false => have := (ht0 h).1; omega
              | true => rfl
            have h2 := ht1 hra
            rw [hz] at h2
            have hM := hm hf
            rw [hin, ← hll, List.take_length] at hM
            have hcon : t.con = a.con := hM.same hra h2.symm
            refine L.va rfl (X.move (by conv => lhs; whnf)) ?_
            refine L.va rfl (X.move (by conv => lhs; whnf)) ?_
            have ht3 := (htA.ext he3).more he3.le
            have K := rsame15 (a := t) (b := a) (w := w3) ht3 ha (Nat.le_refl _) (by omega) (fun x hx => by
              have hxc : x.con ∈ a.con := by rw [← hcon]; exact List.mem_map_of_mem hx
              obtain ⟨y, hy, e⟩ := List.mem_map.1 hxc
              have e1 : y.is.length = x.is.length := by
                have h := congrArg (fun c : Con => c.is.length) e
                simpa using h
              have e2 : y.rs.length = x.rs.length := by
                have h := congrArg (fun c : Con => c.rs.length) e
                simpa using h
              have b1 := (haL y hy).i
              have b2 := (haL y hy).r
              have b3 := (ha.h y hy).li
              have b4 := (ha.h y hy).lr
              have b5 := (ht3.h x hx).li
              have b6 := (ht3.h x hx).lr
              omega)
            rw [hcon, sameL_refl] at K
            refine L.call rfl en_9 rfl (K) ?_
            rintro e w4 ⟨rfl, he4⟩
            refine ⟨_, rfl, ?_⟩
            have he4 : Ext w3 w4 := he4
            refine L.va rfl (X.pickF rfl (by conv => lhs; whnf)) ?_
            refine L.va rfl (X.move (by conv => lhs; whnf)) ?_
            refine L.caseBT (k := 47) rfl (by rfl) ?_
            refine L.call rfl en_6 rfl (awake16 w4) ?_
            rintro e w5 ⟨rfl, he5⟩
            refine ⟨_, rfl, ?_⟩
            refine L.va rfl (X.pickT rfl (by conv => lhs; whnf)) ?_
            refine L.va rfl (X.assign (by conv => lhs; whnf)) ?_
            refine L.nil ?_
            refine J.ret ?_
            refine fin1 ?_
            exact ⟨rfl, (he03.trans he4).trans he5⟩
  · have k1 : z1 = false := by simpa using k1
    subst k1
    refine J.iteT rfl ?_
    refine J.seq ?_
    refine J.region ?_
    refine L.call rfl en_6 rfl (awake16 w1) ?_
    rintro e w2 ⟨rfl, he2⟩
    refine ⟨_, rfl, ?_⟩
    refine L.va rfl (X.assign (by conv => lhs; whnf)) ?_
    refine L.nil ?_
    refine J.ret ?_
    refine thn_ret <| ?_
    refine fin1 ?_
    exact ⟨rfl, he1.trans he2⟩
end Go.Proofs.Ytnndkepnabddgaa
