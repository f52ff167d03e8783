/-
  Plain: the dimensions that filters ask, as a set.
-/
import Derived.Test.YtmnlaekcojblkaaWFilA
namespace Go.Proofs.Ytmnlaekcojblkaa
open Go.RowKit
def fbit (f : Fi) : Nat := if 0 ≤ f.d ∧ f.d < 32 then 2 ^ f.d.toNat else 0
def fneed : List Fi → Nat
  | [] => 0
  | f :: t => fbit f ||| fneed t
theorem fneed_snoc (l : List Fi) (f : Fi) : fneed (l ++ [f]) = fneed l ||| fbit f := by
  induction l with
  | nil => simp [fneed]
  | cons x t ih => simp only [List.cons_append, fneed, ih, Nat.or_assoc]
theorem fneed_take {l : List Fi} {i : Nat} (h : i < l.length) : fneed (l.take (i + 1)) = fneed (l.take i) ||| fbit (l.getD i fi0) := by
  rw [List.take_succ_eq_append_getElem h, fneed_snoc, List.getD, List.getElem?_eq_getElem h]; rfl
theorem fbit_lt (f : Fi) : fbit f < 4294967296 := by
  unfold fbit
  split
  · rename_i h
    have : f.d.toNat < 32 := by omega
    exact Nat.lt_of_lt_of_le (Nat.pow_lt_pow_right (by decide) this) (by decide)
  · decide
theorem fneed_lt : ∀ l, fneed l < 4294967296
  | [] => by decide
  | f :: t => by
    have h1 := fbit_lt f
    have h2 := fneed_lt t
    exact Nat.or_lt_two_pow (n := 32) h1 h2
theorem fbit_test (f : Fi) (i : Nat) (hi : i < 32) : (fbit f).testBit i = decide (f.d = (i : Int)) := by
  unfold fbit
  split
  · rename_i h
    rw [Nat.testBit_two_pow]
    exact decide_eq_decide.2 (by omega)
  · rename_i h
    rw [Nat.zero_testBit, decide_eq_false (by omega)]
theorem fneed_test (i : Nat) (hi : i < 32) : ∀ l : List Fi, (fneed l).testBit i = l.any fun f => decide (f.d = (i : Int))
  | [] => by simp [fneed]
  | f :: t => by rw [fneed, Nat.testBit_or, fbit_test f i hi, fneed_test i hi t, List.any_cons]
/-- one more place -/
theorem mod_next (x d : Nat) : x % 2 ^ (d + 1) = x % 2 ^ d + (if x.testBit d then 2 ^ d else 0) := by
  have h1 : x % 2 ^ (d + 1) = x % 2 ^ d + 2 ^ d * (x / 2 ^ d % 2) := by rw [Nat.pow_succ, Nat.mod_mul]
  rw [h1, Nat.testBit_eq_decide_div_mod_eq]
  have h2 : x / 2 ^ d % 2 < 2 := Nat.mod_lt _ (by decide)
  by_cases h : x / 2 ^ d % 2 = 1
  · rw [h]; simp
  · have : x / 2 ^ d % 2 = 0 := by omega
    rw [this]; simp
theorem mod_lt32 {x d : Nat} (hx : x < 4294967296) : x % 2 ^ d < 4294967296 := Nat.lt_of_le_of_lt (Nat.mod_le _ _) hx
theorem mod_all {x : Nat} (hx : x < 4294967296) : x % 2 ^ 32 = x := Nat.mod_eq_of_lt hx
theorem test_mod {x d i : Nat} (hi : i < d) : (x % 2 ^ d).testBit i = x.testBit i := by rw [Nat.testBit_mod_two_pow]; simp [hi]
theorem test_mod_no {x d i : Nat} (hi : d ≤ i) : (x % 2 ^ d).testBit i = false := by rw [Nat.testBit_mod_two_pow]; simp; omega
theorem two_pow_lt {d : Nat} (h : d < 32) : 2 ^ d < 4294967296 := Nat.lt_of_lt_of_le (Nat.pow_lt_pow_right (by decide) h) (by decide)
/-- two sets as one, place by place: those of the second that the first has not are added -/
theorem or_next {a b d : Nat} : ∀ {x : Nat}, x = a ||| (b % 2 ^ d) → (if b.testBit d = true ∧ x.testBit d = false then x + 2 ^ d else x) = a ||| (b % 2 ^ (d + 1)) := by
  intro x hx
  have ht : x.testBit d = a.testBit d := by rw [hx, Nat.testBit_or, test_mod_no (Nat.le_refl d), Bool.or_false]
  have key : ∀ y : Nat, y.testBit d = false → y + 2 ^ d = y ||| 2 ^ d := by
    intro y hy
    have h1 : y = 2 ^ (d + 1) * (y / 2 ^ (d + 1)) + y % 2 ^ (d + 1) := (Nat.div_add_mod _ _).symm
    apply Nat.eq_of_testBit_eq
    intro i
    rw [Nat.testBit_or, Nat.testBit_two_pow]
    rcases Nat.lt_trichotomy i d with h | h | h
    · rw [Nat.add_comm, Nat.testBit_two_pow_add_gt h]; simp; omega
    · subst h
      rw [Nat.add_comm, Nat.testBit_two_pow_add_eq, hy]; simp
    · rw [decide_eq_false (by omega), Bool.or_false]
      have e : (y + 2 ^ d) / 2 ^ (d + 1) = y / 2 ^ (d + 1) := by
        have h3 := mod_next y d
        rw [hy] at h3
        have h4 : y % 2 ^ d < 2 ^ d := Nat.mod_lt _ (Nat.two_pow_pos d)
        have hp : (2 : Nat) ^ (d + 1) = 2 ^ d + 2 ^ d := by rw [Nat.pow_succ]; omega
        have h5 : (y + 2 ^ d) = 2 ^ (d + 1) * (y / 2 ^ (d + 1)) + (y % 2 ^ (d + 1) + 2 ^ d) := by omega
        rw [h5, Nat.mul_add_div (Nat.two_pow_pos _), Nat.div_eq_of_lt (a := y % 2 ^ (d + 1) + 2 ^ d) (by simp at h3; omega), Nat.add_zero]
      have f : ∀ z : Nat, z.testBit i = (z / 2 ^ (d + 1)).testBit (i - (d + 1)) := fun z => by rw [Nat.testBit_div_two_pow]; congr 1; omega
      rw [f, f y, e]
  have hb : b % 2 ^ (d + 1) = b % 2 ^ d ||| (if b.testBit d then 2 ^ d else 0) := by
    rw [mod_next]
    split
    · exact key _ (test_mod_no (Nat.le_refl d))
    · simp
  rw [hb, ← Nat.or_assoc, ← hx]
  by_cases h1 : b.testBit d = true
  · rw [if_pos h1]
    by_cases h2 : x.testBit d = false
    · rw [if_pos ⟨h1, h2⟩, key x h2]
    · rw [if_neg (fun h => h2 h.2)]
      apply Nat.eq_of_testBit_eq
      intro i
      rw [Nat.testBit_or, Nat.testBit_two_pow]
      by_cases hi : d = i
      · subst hi
        have : x.testBit d = true := by simpa using h2
        rw [this]; simp
      · rw [decide_eq_false hi, Bool.or_false]
  · rw [if_neg h1, if_neg (fun h => h1 h.1), Nat.or_zero]
end Go.Proofs.Ytmnlaekcojblkaa
