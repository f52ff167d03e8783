/-
  Keys of bytes in order, ties by the place; a list made by putting in: plain mathematics.
-/
import Derived.Test.YtmnlaekcojblkaaTouPlain
namespace Go.Proofs.Ytmnlaekcojblkaa
set_option linter.unusedVariables false
open Odr
namespace Tou
theorem lessB_irr : ∀ u : List Int, lessB u u = false
  | [] => rfl
  | a :: u => by
    show (if a ≠ a then _ else lessB u u) = false
    rw [if_neg (fun h => h rfl)]
    exact lessB_irr u
theorem lessB_tr : ∀ {u v x : List Int}, lessB u v = true → lessB v x = true → lessB u x = true
  | _, _, [], _, h => by rw [lessB_nil] at h; cases h
  | _, [], _ :: _, h, _ => by rw [lessB_nil] at h; cases h
  | [], _ :: _, _ :: _, _, _ => rfl
  | a :: u, b :: v, c :: x, h1, h2 => by
    have e1 : (if a ≠ b then decide (a < b) else lessB u v) = true := h1
    have e2 : (if b ≠ c then decide (b < c) else lessB v x) = true := h2
    show (if a ≠ c then decide (a < c) else lessB u x) = true
    by_cases k1 : a = b
    · subst k1
      rw [if_neg (fun h => h rfl)] at e1
      by_cases k2 : a = c
      · subst k2
        rw [if_neg (fun h => h rfl)] at e2 ⊢
        exact lessB_tr e1 e2
      · rw [if_pos k2] at e2 ⊢
        exact e2
    · rw [if_pos k1] at e1
      have e1 := of_decide_eq_true e1
      by_cases k2 : b = c
      · subst k2
        rw [if_pos k1]
        exact decide_eq_true e1
      · rw [if_pos k2] at e2
        have e2 := of_decide_eq_true e2
        rw [if_pos (by omega)]
        exact decide_eq_true (by omega)
theorem lessB_tot : ∀ {u v : List Int}, lessB u v = false → lessB v u = false → u = v
  | [], [], _, _ => rfl
  | [], _ :: _, h, _ => by cases h
  | _ :: _, [], _, h => by cases h
  | a :: u, b :: v, h1, h2 => by
    have e1 : (if a ≠ b then decide (a < b) else lessB u v) = false := h1
    have e2 : (if b ≠ a then decide (b < a) else lessB v u) = false := h2
    by_cases k : a = b
    · subst k
      rw [if_neg (fun h => h rfl)] at e1 e2
      rw [lessB_tot e1 e2]
    · rw [if_pos k] at e1
      rw [if_pos (fun h => k h.symm)] at e2
      have e1 := of_decide_eq_false e1
      have e2 := of_decide_eq_false e2
      omega
theorem lessB_asym {u v : List Int} (h : lessB u v = true) : lessB v u = false := by
  cases k : lessB v u with
  | false => rfl
  | true =>
    have := lessB_tr h k
    rw [lessB_irr] at this
    cases this
/-- who of two places is ahead, by keys -/
def ahL (l : List (List Int)) (a b : Nat) : Bool := lessB (l.getD a []) (l.getD b []) || (!lessB (l.getD b []) (l.getD a []) && decide (a < b))
theorem ahL_iff (l : List (List Int)) (a b : Nat) : ahL l a b = true ↔ lessB (l.getD a []) (l.getD b []) = true ∨ (l.getD a [] = l.getD b [] ∧ a < b) := by
  unfold ahL
  cases k1 : lessB (l.getD a []) (l.getD b []) with
  | true => simp
  | false =>
    cases k2 : lessB (l.getD b []) (l.getD a []) with
    | true =>
      simp only [Bool.false_or, Bool.not_true, Bool.false_and, Bool.false_eq_true, false_or, false_iff]
      rintro ⟨e, _⟩
      rw [e, lessB_irr] at k2
      cases k2
    | false =>
      have e := lessB_tot k1 k2
      simp only [Bool.false_or, Bool.not_false, Bool.true_and, decide_eq_true_eq, Bool.false_eq_true, false_or]
      exact ⟨fun h => ⟨e, h⟩, fun h => h.2⟩
theorem ahL_ord (l : List (List Int)) : Ord (ahL l) := by
  refine ⟨fun a => ?_, fun {a b c} h1 h2 => ?_, fun {a b} hne h => ?_⟩
  · cases k : ahL l a a with
    | false => rfl
    | true =>
      rcases (ahL_iff l a a).1 k with h | ⟨_, h⟩
      · rw [lessB_irr] at h; cases h
      · omega
  · rw [ahL_iff] at h1 h2 ⊢
    rcases h1 with h1 | ⟨h1, k1⟩
    · rcases h2 with h2 | ⟨h2, k2⟩
      · exact .inl (lessB_tr h1 h2)
      · rw [← h2]; exact .inl h1
    · rcases h2 with h2 | ⟨h2, k2⟩
      · rw [h1]; exact .inl h2
      · exact .inr ⟨h1.trans h2, by omega⟩
  · rw [ahL_iff]
    have h1 : ¬ (lessB (l.getD a []) (l.getD b []) = true ∨ (l.getD a [] = l.getD b [] ∧ a < b)) := fun k => by
      rw [(ahL_iff l a b).2 k] at h; cases h
    rw [not_or] at h1
    cases k : lessB (l.getD b []) (l.getD a []) with
    | true => exact .inl rfl
    | false =>
      have e := lessB_tot (by simpa using h1.1) k
      refine .inr ⟨e.symm, ?_⟩
      have : ¬ a < b := fun hh => h1.2 ⟨e, hh⟩
      omega
theorem ahL_old {l : List (List Int)} {x i : Nat} (h : x < i) : ahL l i x = lessB (l.getD i []) (l.getD x []) := by
  unfold ahL
  rw [decide_eq_false (show ¬ i < x by omega), Bool.and_false, Bool.or_false]
/-- places put in, each behind those that it is not ahead of -/
structure Srt (R : Nat → Nat → Bool) (i : Nat) (Q : List Nat) : Prop where
  pm : Q.Perm (List.range i)
  pw : Q.Pairwise fun a b => R a b = true
variable {R : Nat → Nat → Bool}
theorem Srt.nil : Srt R 0 [] := ⟨List.Perm.refl _, List.Pairwise.nil⟩
theorem Srt.len {i : Nat} {Q : List Nat} (h : Srt R i Q) : Q.length = i := by rw [h.pm.length_eq, List.length_range]
theorem Srt.el {i : Nat} {Q : List Nat} (h : Srt R i Q) : ∀ x ∈ Q, x < i := fun x hx => List.mem_range.1 (h.pm.mem_iff.1 hx)
theorem Srt.put {i a : Nat} {Q : List Nat} (hR : Ord R) (h : Srt R i Q) (ha : a ≤ Q.length) (h1 : ∀ j, j < a → R i (Q.getD j 0) = false) (h2 : a < Q.length → R i (Q.getD a 0) = true) : Srt R (i + 1) (Q.take a ++ i :: Q.drop a) := by
  have hpw := h.pw
  rw [← List.take_append_drop a Q, List.pairwise_append] at hpw
  have t1 : ∀ x ∈ Q.take a, R x i = true := fun x hx => by
    obtain ⟨j, hj, rfl⟩ := List.getElem_of_mem hx
    rw [List.length_take] at hj
    have k := h1 j (by omega)
    have hm := h.el _ (List.mem_of_mem_take hx)
    rw [List.getElem_take] at hm ⊢
    have hj2 : j < Q.length := by omega
    rw [List.getD, List.getElem?_eq_getElem hj2] at k
    exact hR.tot (by omega) k
  have t2 : ∀ y ∈ Q.drop a, R i y = true := fun y hy => by
    by_cases hlt : a < Q.length
    · have k := h2 hlt
      rw [List.getD, List.getElem?_eq_getElem hlt] at k
      have e := List.drop_eq_getElem_cons hlt
      rw [e] at hy
      have hp := hpw.2.1
      rw [e, List.pairwise_cons] at hp
      rcases List.mem_cons.1 hy with rfl | hy
      · exact k
      · exact hR.tr k (hp.1 _ hy)
    · rw [List.drop_eq_nil_of_le (by omega)] at hy
      cases hy
  refine ⟨?_, ?_⟩
  · refine List.perm_middle.trans ?_
    rw [List.take_append_drop, List.range_succ]
    exact (h.pm.cons i).trans (List.perm_append_singleton _ _).symm
  · rw [List.pairwise_append, List.pairwise_cons]
    refine ⟨hpw.1, ⟨t2, hpw.2.1⟩, fun x hx y hy => ?_⟩
    rcases List.mem_cons.1 hy with rfl | hy
    · exact t1 x hx
    · exact hpw.2.2 x hx y hy
theorem Srt.pos {n : Nat} {Q : List Nat} (hR : Ord R) (h : Srt R n Q) {j : Nat} (hj : j < Q.length) : pos R n Q[j] = j := by
  unfold Tou.pos
  rw [← h.pm.countP_eq]
  have e : Q = Q.take j ++ Q[j] :: Q.drop (j + 1) := by
    conv => lhs; rw [← List.take_append_drop j Q]
    rw [List.drop_eq_getElem_cons hj]
  have hpw := h.pw
  generalize hx : Q[j] = x at *
  rw [e, List.pairwise_append, List.pairwise_cons] at hpw
  rw [e, List.countP_append, List.countP_cons, List.countP_eq_length.2 (fun y hy => hpw.2.2 y hy x (List.mem_cons_self ..)), List.countP_eq_zero.2 (fun y hy => by rw [hR.asym (hpw.2.1.1 y hy)]; decide)]
  rw [hR.irr, List.length_take]
  simp only [Bool.false_eq_true, if_false]
  omega
theorem Srt.firsts {n m : Nat} {Q : List Nat} (hR : Ord R) (h : Srt R n Q) (hm : m ≤ n) : Firsts R n m ((Q.take m).map fun x : Nat => (x : Int)) := by
  have hl := h.len
  have hl2 : (Q.take m).length = m := by rw [List.length_take]; omega
  refine ⟨by rw [List.length_map]; exact hl2, fun j hj => ?_⟩
  have e : ((Q.take m).map fun x : Nat => (x : Int)).getD j 0 = (Q[j] : Int) := by
    rw [getD_el (by rw [List.length_map]; omega), List.getElem_map, List.getElem_take]
  have := h.el Q[j] (List.getElem_mem _)
  rw [e, Int.toNat_natCast]
  exact ⟨by omega, by omega, h.pos hR (by omega)⟩
end Tou
end Go.Proofs.Ytmnlaekcojblkaa
