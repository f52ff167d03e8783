/-
  Plain mathematics: the words of real numbers: what they stand for, and their order.
-/
import Ieee.Arith
namespace Go.Proofs.Ytmnlaekcojblkaa
namespace Flo
open Ieee
/-- a word's magnitude, counted up from naught -/
def rg (x : Nat) : Nat := x % 9223372036854775808
def sg (x : Nat) : Bool := x / 9223372036854775808 % 2 == 1
def inf : Nat := 9218868437227405312
def mg (r : Nat) : Nat := if r < 4503599627370496 then r else 4503599627370496 + r % 4503599627370496
def ex (r : Nat) : Nat := if r < 4503599627370496 then 0 else r / 4503599627370496 - 1
/-- what a magnitude stands for, in the least units -/
def V (r : Nat) : Nat := mg r * 2 ^ ex r
theorem signW : double.signWeight = 9223372036854775808 := by decide
theorem binW : double.binade = 4503599627370496 := by decide
theorem infW : double.infRung = inf := by decide
theorem leastW : double.leastPlace = -1074 := by decide
theorem read_fin {x : Nat} (h : rg x < inf) : double.read x = .number (sg x) (mg (rg x)) (-1074 + (ex (rg x) : Int)) := by
  unfold Format.read
  rw [signW, binW, infW, leastW]
  show (if rg x < 4503599627370496 then Datum.number (sg x) (rg x) (-1074) else if rg x < inf then Datum.number (sg x) (4503599627370496 + rg x % 4503599627370496) (-1074 + (rg x / 4503599627370496 - 1 : Nat)) else _) = _
  unfold mg ex
  by_cases h1 : rg x < 4503599627370496
  · rw [if_pos h1, if_pos h1, if_pos h1]; rfl
  · rw [if_neg h1, if_pos h, if_neg h1, if_neg h1]
theorem read_inf {x : Nat} (h : rg x = inf) : double.read x = .infinity (sg x) := by
  unfold Format.read
  rw [signW, binW, infW, leastW]
  show (if rg x < 4503599627370496 then Datum.number (sg x) (rg x) (-1074) else if rg x < inf then Datum.number (sg x) (4503599627370496 + rg x % 4503599627370496) (-1074 + (rg x / 4503599627370496 - 1 : Nat)) else if rg x = inf then Datum.infinity (sg x) else _) = _
  rw [h, if_neg (by decide), if_neg (by decide), if_pos rfl]
theorem read_nan {x : Nat} (h : inf < rg x) : double.read x = .nan (sg x) (rg x - inf) := by
  unfold Format.read
  rw [signW, binW, infW, leastW]
  show (if rg x < 4503599627370496 then Datum.number (sg x) (rg x) (-1074) else if rg x < inf then Datum.number (sg x) (4503599627370496 + rg x % 4503599627370496) (-1074 + (rg x / 4503599627370496 - 1 : Nat)) else if rg x = inf then Datum.infinity (sg x) else Datum.nan (sg x) (rg x - inf)) = _
  rw [if_neg (by unfold inf at h; omega), if_neg (by omega), if_neg (by omega)]
theorem V_succ (r : Nat) : V r < V (r + 1) := by
  unfold V mg ex
  by_cases h0 : r + 1 < 4503599627370496
  · rw [if_pos (by omega), if_pos (by omega), if_pos h0, if_pos h0]; omega
  by_cases h1 : r < 4503599627370496
  · have e : r = 4503599627370495 := by omega
    subst e
    decide
  rw [if_neg h1, if_neg h1, if_neg h0, if_neg h0]
  by_cases h2 : r % 4503599627370496 = 4503599627370495
  · have e1 : (r + 1) % 4503599627370496 = 0 := by omega
    have e2 : (r + 1) / 4503599627370496 - 1 = (r / 4503599627370496 - 1) + 1 := by omega
    rw [e1, e2, h2, Nat.pow_succ]
    have hp : 0 < 2 ^ (r / 4503599627370496 - 1) := Nat.two_pow_pos _
    generalize 2 ^ (r / 4503599627370496 - 1) = p at *
    omega
  · have e1 : (r + 1) % 4503599627370496 = r % 4503599627370496 + 1 := by omega
    have e2 : (r + 1) / 4503599627370496 = r / 4503599627370496 := by omega
    rw [e1, e2]
    exact Nat.mul_lt_mul_of_pos_right (by omega) (Nat.two_pow_pos _)
theorem V_lt {r s : Nat} (h : r < s) : V r < V s := by
  obtain ⟨k, rfl⟩ : ∃ k, s = r + 1 + k := ⟨s - r - 1, by omega⟩
  clear h
  induction k with
  | zero => exact V_succ r
  | succ k ih => exact Nat.lt_trans ih (V_succ _)
theorem V_inj {r s : Nat} (h : V r = V s) : r = s := by
  rcases Nat.lt_trichotomy r s with h1 | h1 | h1
  · have := V_lt h1; omega
  · exact h1
  · have := V_lt h1; omega
theorem V_lt_iff {r s : Nat} : V r < V s ↔ r < s := by
  constructor
  · intro h
    rcases Nat.lt_trichotomy r s with h1 | h1 | h1
    · exact h1
    · subst h1; omega
    · have := V_lt h1; omega
  · exact V_lt
theorem V_zero : V 0 = 0 := by decide
theorem V_pos {r : Nat} (h : 0 < r) : 0 < V r := by have := V_lt h; rw [V_zero] at this; exact this
/-- a word's place in the order, the two naughts alike -/
def od (x : Nat) : Int := if sg x then -(rg x : Int) else rg x
def odV (x : Nat) : Int := if sg x then -(V (rg x) : Int) else V (rg x)
theorem signed_scale (s : Bool) (m : Nat) (i b : Int) (e : Nat) (k : Nat) (hi : i = -1074 + (e : Int)) (hb : b = -1074 + (k : Int)) (hle : k ≤ e) : signed s m (i - b).toNat * 2 ^ k = if s then -((m * 2 ^ e : Nat) : Int) else ((m * 2 ^ e : Nat) : Int) := by
  have e1 : (i - b).toNat = e - k := by omega
  have e2 : m * 2 ^ e = m <<< (e - k) * 2 ^ k := by
    rw [Nat.shiftLeft_eq, Nat.mul_assoc, ← Nat.pow_add]
    congr 2
    omega
  rw [e1, e2]
  unfold signed
  cases s
  · simp
  · simp [Int.neg_mul]
theorem compare_scale {a b p : Int} (hp : 0 < p) : compare (a * p) (b * p) = compare a b := by
  simp only [compare, compareOfLessAndEq]
  have h1 : a * p < b * p ↔ a < b := ⟨fun h => by
    rcases Int.lt_or_le a b with h2 | h2
    · exact h2
    · have := Int.mul_le_mul_of_nonneg_right h2 (Int.le_of_lt hp); omega, fun h => Int.mul_lt_mul_of_pos_right h hp⟩
  have h2 : a * p = b * p ↔ a = b := ⟨fun h => Int.eq_of_mul_eq_mul_right (by omega) h, fun h => by rw [h]⟩
  simp only [h1, h2]
theorem order_fin {x y : Nat} (hx : rg x < inf) (hy : rg y < inf) : double.order x y = some (compare (odV x) (odV y)) := by
  unfold Format.order
  rw [read_fin hx, read_fin hy]
  simp only [Datum.order]
  congr 1
  generalize hb : min (-1074 + (ex (rg x) : Int)) (-1074 + (ex (rg y) : Int)) = b
  obtain ⟨k, hk⟩ : ∃ k : Nat, b = -1074 + (k : Int) := ⟨(b + 1074).toNat, by omega⟩
  have s1 := signed_scale (sg x) (mg (rg x)) _ b (ex (rg x)) k rfl hk (by omega)
  have s2 := signed_scale (sg y) (mg (rg y)) _ b (ex (rg y)) k rfl hk (by omega)
  have hp : (0 : Int) < 2 ^ k := Int.pow_pos (by decide)
  rw [← compare_scale hp, s1, s2]
  rfl
theorem cmp_lt {a b : Int} (h : a < b) : compare a b = .lt := by simp only [compare, compareOfLessAndEq]; rw [if_pos h]
theorem cmp_eq (a : Int) : compare a a = .eq := by simp [compare, compareOfLessAndEq]
theorem cmp_gt {a b : Int} (h : b < a) : compare a b = .gt := by simp only [compare, compareOfLessAndEq]; rw [if_neg (by omega), if_neg (by omega)]
theorem cmp_eq_iff {a b : Int} : compare a b = .eq ↔ a = b := by
  rcases Int.lt_trichotomy a b with h | h | h
  · rw [cmp_lt h]; simp; omega
  · rw [h, cmp_eq]; simp
  · rw [cmp_gt h]; simp; omega
theorem cmp_lt_iff {a b : Int} : compare a b = .lt ↔ a < b := by
  rcases Int.lt_trichotomy a b with h | h | h
  · rw [cmp_lt h]; simp; omega
  · rw [h, cmp_eq]; simp
  · rw [cmp_gt h]; simp; omega
theorem odV_cmp (x y : Nat) : compare (odV x) (odV y) = compare (od x) (od y) := by
  have key : ∀ a b : Nat, (V a < V b ↔ a < b) ∧ (V a = V b ↔ a = b) := fun a b => ⟨V_lt_iff, ⟨V_inj, fun h => by rw [h]⟩⟩
  have h1 : odV x < odV y ↔ od x < od y := by
    unfold odV od
    have k1 := key (rg x) (rg y)
    have k2 := key (rg y) (rg x)
    have k3 := key 0 (rg x)
    have k4 := key 0 (rg y)
    rw [V_zero] at k3 k4
    cases sg x <;> cases sg y <;> simp only [if_true, if_false, Bool.false_eq_true] <;> omega
  have h2 : odV x = odV y ↔ od x = od y := by
    unfold odV od
    have k1 := key (rg x) (rg y)
    have k3 := key 0 (rg x)
    have k4 := key 0 (rg y)
    rw [V_zero] at k3 k4
    cases sg x <;> cases sg y <;> simp only [if_true, if_false, Bool.false_eq_true] <;> omega
  simp only [compare, compareOfLessAndEq, h1, h2]
theorem order_is {x y : Nat} (hx : rg x ≤ inf) (hy : rg y ≤ inf) : double.order x y = some (compare (od x) (od y)) := by
  rcases Nat.lt_or_eq_of_le hx with h1 | h1 <;> rcases Nat.lt_or_eq_of_le hy with h2 | h2
  · rw [order_fin h1 h2, odV_cmp]
  · unfold Format.order
    rw [read_fin h1, read_inf h2]
    simp only [Datum.order]
    congr 1
    have hi : 0 < inf := by decide
    unfold od
    rw [h2]
    cases sg y
    · rw [cmp_lt]; · rfl
      cases sg x <;> simp <;> omega
    · rw [cmp_gt]; · rfl
      cases sg x <;> simp <;> omega
  · unfold Format.order
    rw [read_fin h2, read_inf h1]
    simp only [Datum.order]
    congr 1
    have hi : 0 < inf := by decide
    unfold od
    rw [h1]
    cases sg x
    · rw [cmp_gt]; · rfl
      cases sg y <;> simp <;> omega
    · rw [cmp_lt]; · rfl
      cases sg y <;> simp <;> omega
  · unfold Format.order
    rw [read_inf h1, read_inf h2]
    simp only [Datum.order]
    congr 1
    have hi : 0 < inf := by decide
    unfold od
    rw [h1, h2]
    cases sg x <;> cases sg y <;> decide
theorem order_nan {x y : Nat} (h : inf < rg x ∨ inf < rg y) : double.order x y = none := by
  unfold Format.order
  rcases h with h | h
  · rw [read_nan h]; cases double.read y <;> rfl
  · rw [read_nan h]; cases double.read x <;> rfl
theorem rg_lt (x : Nat) : rg x < 9223372036854775808 := Nat.mod_lt _ (by decide)
end Flo
end Go.Proofs.Ytmnlaekcojblkaa
