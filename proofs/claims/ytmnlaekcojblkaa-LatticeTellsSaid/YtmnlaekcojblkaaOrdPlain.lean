/-
  Plain: codes that keep the order.
-/
import Derived.Test.YtmnlaekcojblkaaTextP
namespace Go.Proofs.Ytmnlaekcojblkaa
set_option linter.unusedVariables false
open Byts Cod
namespace Odr
/-- one list of bytes ahead of another -/
def lessB : List Int → List Int → Bool
  | _, [] => false
  | [], _ :: _ => true
  | a :: u, b :: v => if a ≠ b then decide (a < b) else lessB u v
theorem lessB_nil (u : List Int) : lessB u [] = false := by cases u <;> rfl
/-- they part at a place within both -/
def Dif (u v : List Int) : Prop := ∃ p a b u' v', u = p ++ a :: u' ∧ v = p ++ b :: v' ∧ a < b
theorem lessB_same : ∀ (p r s : List Int), lessB (p ++ r) (p ++ s) = lessB r s
  | [], r, s => rfl
  | a :: p, r, s => by
    show (if a ≠ a then _ else lessB (p ++ r) (p ++ s)) = _
    rw [if_neg (fun h => h rfl)]
    exact lessB_same p r s
theorem Dif.app {u v : List Int} (h : Dif u v) (r s : List Int) : Dif (u ++ r) (v ++ s) := by
  obtain ⟨p, a, b, u', v', rfl, rfl, hab⟩ := h
  exact ⟨p, a, b, u' ++ r, v' ++ s, by simp, by simp, hab⟩
theorem Dif.pre {u v : List Int} (h : Dif u v) (p : List Int) : Dif (p ++ u) (p ++ v) := by
  obtain ⟨q, a, b, u', v', rfl, rfl, hab⟩ := h
  exact ⟨p ++ q, a, b, u', v', by simp, by simp, hab⟩
theorem Dif.cons {u v : List Int} (h : Dif u v) (x : Int) : Dif (x :: u) (x :: v) := h.pre [x]
theorem Dif.head {a b : Int} (h : a < b) (u v : List Int) : Dif (a :: u) (b :: v) := ⟨[], a, b, u, v, rfl, rfl, h⟩
theorem Dif.less {u v : List Int} (h : Dif u v) : lessB u v = true := by
  obtain ⟨p, a, b, u', v', rfl, rfl, hab⟩ := h
  rw [lessB_same]
  show (if a ≠ b then decide (a < b) else _) = true
  rw [if_pos (by omega)]
  exact decide_eq_true hab
theorem Dif.more {u v : List Int} (h : Dif u v) : lessB v u = false := by
  obtain ⟨p, a, b, u', v', rfl, rfl, hab⟩ := h
  rw [lessB_same]
  show (if b ≠ a then decide (b < a) else _) = false
  rw [if_pos (by omega)]
  exact decide_eq_false (by omega)
def inv (u : List Int) : List Int := u.map fun x => 255 - x
theorem inv_length (u : List Int) : (inv u).length = u.length := List.length_map _
theorem Dif.inv {u v : List Int} (h : Dif u v) : Dif (inv v) (inv u) := by
  obtain ⟨p, a, b, u', v', rfl, rfl, hab⟩ := h
  refine ⟨Odr.inv p, 255 - b, 255 - a, Odr.inv v', Odr.inv u', by simp [Odr.inv], by simp [Odr.inv], by omega⟩
theorem inv_inv (u : List Int) : inv (inv u) = u := by
  unfold inv
  rw [List.map_map]
  conv => rhs; rw [← List.map_id u]
  refine List.map_congr_left fun x _ => ?_
  show 255 - (255 - x) = x
  omega
theorem be_dif : ∀ (n : Nat) (x y : Int), 0 ≤ x → x < y → y < 256 ^ n → Dif (be n x) (be n y)
  | 0, x, y, h0, h1, h2 => by simp at h2; omega
  | n + 1, x, y, h0, h1, h2 => by
    rw [be_succ, be_succ]
    by_cases h : x / 256 < y / 256
    · refine (be_dif n (x / 256) (y / 256) (by omega) h ?_).app _ _
      rw [Int.pow_succ] at h2
      omega
    · have e : x / 256 = y / 256 := by omega
      rw [e]
      exact (Dif.head (by omega) [] []).pre _
theorem wd_mono {x y : Int} (h0 : 0 ≤ x) (h : x ≤ y) : wd x ≤ wd y :=
  wd_lt _ x h0 (Int.lt_of_le_of_lt h (lt_wd _ y (by omega) rfl))
/-- a whole number's code -/
def cI (z : Int) : List Int := if 0 ≤ z then (9 + (wd z : Int)) :: bz z else (8 - (wd (-(z + 1)) : Int)) :: inv (bz (-(z + 1)))
theorem cI_ne (z : Int) : cI z ≠ [] := by unfold cI; split <;> exact List.cons_ne_nil _ _
theorem cI_dif {x y : Int} (h : x < y) : Dif (cI x) (cI y) := by
  unfold cI
  by_cases hx : 0 ≤ x
  · rw [if_pos hx, if_pos (by omega)]
    have hm := wd_mono hx (Int.le_of_lt h)
    by_cases hw : wd x < wd y
    · exact Dif.head (by omega) _ _
    · have e : wd x = wd y := by omega
      rw [e]
      refine Dif.cons ?_ _
      unfold bz
      rw [e]
      exact be_dif _ x y hx h (lt_wd _ y (by omega) rfl)
  · by_cases hy : 0 ≤ y
    · rw [if_neg hx, if_pos hy]
      exact Dif.head (by omega) _ _
    · rw [if_neg hx, if_neg hy]
      have hm := wd_mono (x := -(y + 1)) (y := -(x + 1)) (by omega) (by omega)
      by_cases hw : wd (-(y + 1)) < wd (-(x + 1))
      · exact Dif.head (by omega) _ _
      · have e : wd (-(y + 1)) = wd (-(x + 1)) := by omega
        rw [e]
        refine Dif.cons (Dif.inv ?_) _
        unfold bz
        rw [e]
        exact be_dif _ _ _ (by omega) (by omega) (lt_wd _ _ (by omega) rfl)
/-- numbers compared one by one -/
def lessL : List Int → List Int → Bool
  | _, [] => false
  | [], _ :: _ => true
  | a :: u, b :: v => if a ≠ b then decide (a < b) else lessL u v
theorem less_codes : ∀ (u v : List Int), lessB (u.flatMap cI) (v.flatMap cI) = lessL u v
  | [], [] => rfl
  | a :: u, [] => by rw [List.flatMap_nil, lessB_nil]; rfl
  | [], b :: v => by
    rw [List.flatMap_cons]
    cases h : cI b with
    | nil => exact absurd h (cI_ne b)
    | cons x t => rfl
  | a :: u, b :: v => by
    rw [List.flatMap_cons, List.flatMap_cons]
    show _ = if a ≠ b then decide (a < b) else lessL u v
    by_cases hab : a = b
    · subst hab
      rw [lessB_same, if_neg (fun h => h rfl)]
      exact less_codes u v
    · rw [if_pos hab]
      rcases Int.lt_or_gt_of_ne hab with h | h
      · rw [decide_eq_true h]
        exact ((cI_dif h).app _ _).less
      · rw [decide_eq_false (by omega)]
        exact ((cI_dif h).app _ _).more
/-- the complement of a number's bytes -/
theorem be_inv : ∀ (n : Nat) (x M : Int), (∃ q : Int, M + 1 = q * 256 ^ n) → be n (M - x) = inv (be n x)
  | 0, x, M, _ => rfl
  | n + 1, x, M, ⟨q, hq⟩ => by
    rw [be_succ, be_succ]
    rw [Int.pow_succ] at hq
    have e1 : M = 256 * (q * 256 ^ n) - 1 := by
      have : q * (256 ^ n * 256) = 256 * (q * 256 ^ n) := by rw [Int.mul_comm (256 ^ n) 256, ← Int.mul_assoc, Int.mul_comm q 256, Int.mul_assoc]
      omega
    obtain ⟨k, hk⟩ : ∃ k : Int, k = q * 256 ^ n := ⟨_, rfl⟩
    rw [← hk] at e1
    have e2 : (M - x) / 256 = (k - 1) - x / 256 := by omega
    have e3 : (M - x) % 256 = 255 - x % 256 := by omega
    rw [e2, e3, be_inv n (x / 256) (k - 1) ⟨q, by omega⟩]
    unfold inv
    rw [List.map_append]
    rfl
end Odr
end Go.Proofs.Ytmnlaekcojblkaa
