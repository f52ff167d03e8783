/-
  Plain: which views serve, and the least of them.
-/
import Derived.Test.YtlohbkcedpkjaaaNeedPlain
import Derived.Test.YtlohbkcedpkjaaaWQryB
namespace Go.Proofs.Ytlohbkcedpkjaaa
open Go.RowKit
open Mk
/-- the i-th set -/
def vN (V : List Int) (i : Nat) : Nat := (V.getD i 0).toNat
/-- the places of those that hold a set -/
def srv (V : List Int) (N : Nat) : Nat → List Int
  | 0 => []
  | k + 1 => if sb N (vN V k) = true then srv V N k ++ [(k : Int)] else srv V N k
def szA (z : List Int) (i : Int) : Int := z.getD i.toNat 0
def cvA (V : List Int) (N : Nat) (z : List Int) : Nat → Int
  | 0 => -1
  | k + 1 => if sb N (vN V k) = true ∧ (cvA V N z k < 0 ∨ szA z k < szA z (cvA V N z k)) then (k : Int) else cvA V N z k
/-- the least of some, the first of them -/
def pkA (z : List Int) : List Int → Int → Int
  | [], a => a
  | x :: t, a => pkA z t (if szA z x < szA z a then x else a)
theorem pkA_snoc (z : List Int) (x : Int) : ∀ (l : List Int) (a : Int), pkA z (l ++ [x]) a = if szA z x < szA z (pkA z l a) then x else pkA z l a
  | [], a => rfl
  | y :: t, a => by simp only [List.cons_append, pkA]; exact pkA_snoc z x t _
theorem srv_len (V : List Int) (N : Nat) : ∀ k, (srv V N k).length ≤ k
  | 0 => by simp [srv]
  | k + 1 => by
    have := srv_len V N k
    rw [srv]
    split <;> simp <;> omega
theorem srv_bd (V : List Int) (N : Nat) : ∀ k, ∀ x ∈ srv V N k, 0 ≤ x ∧ x < (k : Int)
  | 0, x, hx => by simp [srv] at hx
  | k + 1, x, hx => by
    have ih := srv_bd V N k
    rw [srv] at hx
    split at hx
    · rcases List.mem_append.1 hx with h | h
      · have := ih x h; omega
      · simp only [List.mem_singleton] at h; subst h; omega
    · have := ih x hx; omega
theorem cvA_bd (V : List Int) (N : Nat) (z : List Int) : ∀ k, -1 ≤ cvA V N z k ∧ cvA V N z k < (k : Int)
  | 0 => by simp [cvA]
  | k + 1 => by
    have ih := cvA_bd V N z k
    rw [cvA]
    split <;> omega
/-- the two ways to the least one agree -/
theorem cv_pk (V : List Int) (N : Nat) (z : List Int) : ∀ k, (srv V N k = [] ∧ cvA V N z k = -1) ∨ ∃ a t, srv V N k = a :: t ∧ cvA V N z k = pkA z t a
  | 0 => .inl ⟨rfl, rfl⟩
  | k + 1 => by
    have hb := cvA_bd V N z k
    rcases cv_pk V N z k with ⟨h1, h2⟩ | ⟨a, t, h1, h2⟩
    · by_cases hs : sb N (vN V k) = true
      · refine .inr ⟨(k : Int), [], ?_, ?_⟩
        · rw [srv, if_pos hs, h1]; rfl
        · rw [cvA, if_pos ⟨hs, .inl (by omega)⟩]; rfl
      · refine .inl ⟨by rw [srv, if_neg hs, h1], by rw [cvA, if_neg (fun h => hs h.1), h2]⟩
    · have hn : 0 ≤ cvA V N z k := by
        have hall := srv_bd V N k
        rw [h1] at hall
        have key : ∀ (l : List Int) (a : Int), 0 ≤ a → (∀ x ∈ l, 0 ≤ x) → 0 ≤ pkA z l a := by
          intro l
          induction l with
          | nil => intro a h _; exact h
          | cons y l ih => intro a h hl; rw [pkA]; refine ih _ ?_ (fun x hx => hl x (by simp [hx])); split; exact hl y (by simp); exact h
        rw [h2]
        exact key t a (hall a (by simp)).1 (fun x hx => (hall x (by simp [hx])).1)
      by_cases hs : sb N (vN V k) = true
      · refine .inr ⟨a, t ++ [(k : Int)], by rw [srv, if_pos hs, h1]; rfl, ?_⟩
        rw [pkA_snoc, ← h2, cvA]
        by_cases hz : szA z k < szA z (cvA V N z k)
        · rw [if_pos ⟨hs, .inr hz⟩, if_pos hz]
        · rw [if_neg (fun h => h.2.elim (fun h => by omega) hz), if_neg hz]
      · exact .inr ⟨a, t, by rw [srv, if_neg hs, h1], by rw [cvA, if_neg (fun h => hs h.1), h2]⟩
/-- the picked one is among those that serve, and none of them is less -/
theorem cv_min (V : List Int) (N : Nat) (z : List Int) : ∀ k, srv V N k ≠ [] → cvA V N z k ∈ srv V N k ∧ ∀ x ∈ srv V N k, szA z (cvA V N z k) ≤ szA z x
  | 0, h => absurd rfl h
  | k + 1, h => by
    have hb := cvA_bd V N z k
    by_cases hs : sb N (vN V k) = true
    · rw [srv, if_pos hs]
      rw [cvA]
      by_cases he : srv V N k = []
      · have h2 : cvA V N z k = -1 := by
          rcases cv_pk V N z k with ⟨_, h2⟩ | ⟨a, t, h1, _⟩
          · exact h2
          · rw [he] at h1; cases h1
        rw [if_pos ⟨hs, .inl (by omega)⟩, he]
        exact ⟨by simp, fun x hx => by simp at hx; subst hx; exact Int.le_refl _⟩
      · obtain ⟨m1, m2⟩ := cv_min V N z k he
        have hn := (srv_bd V N k _ m1).1
        by_cases hz : szA z k < szA z (cvA V N z k)
        · rw [if_pos ⟨hs, .inr hz⟩]
          refine ⟨by simp, fun x hx => ?_⟩
          rcases List.mem_append.1 hx with hx | hx
          · have := m2 x hx; omega
          · simp at hx; subst hx; exact Int.le_refl _
        · rw [if_neg (fun h => h.2.elim (fun h => by omega) hz)]
          refine ⟨List.mem_append_left _ m1, fun x hx => ?_⟩
          rcases List.mem_append.1 hx with hx | hx
          · exact m2 x hx
          · simp at hx; subst hx; omega
    · rw [srv, if_neg hs] at h ⊢
      rw [cvA, if_neg (fun h => hs h.1)]
      exact cv_min V N z k h
/-- where the first one serves, it stands first -/
theorem srv_first {V : List Int} {N : Nat} (h : sb N (vN V 0) = true) : ∀ k, ∃ t, srv V N (k + 1) = 0 :: t
  | 0 => ⟨[], by rw [srv, if_pos h]; rfl⟩
  | k + 1 => by
    obtain ⟨t, ht⟩ := srv_first h k
    rw [srv]
    split
    · exact ⟨t ++ [((k + 1 : Nat) : Int)], by rw [ht]; rfl⟩
    · exact ⟨t, ht⟩
/-- what a query asks -/
def qneed (q : Qu) : Nat := q.g ||| fneed q.f.l
theorem fneed_dims {n : Nat} (hn : n ≤ 32) : ∀ {l : List Fi}, (∀ f ∈ l, f.d < (n : Int)) → fneed l < 2 ^ n
  | [], _ => Nat.two_pow_pos n
  | f :: t, h => by
    refine Nat.or_lt_two_pow ?_ (fneed_dims hn (l := t) fun g hg => h g (by simp [hg]))
    unfold fbit
    split
    · rename_i hd
      have := h f (by simp)
      exact Nat.pow_lt_pow_right (by decide) (by omega)
    · exact Nat.two_pow_pos n
end Go.Proofs.Ytlohbkcedpkjaaa
