/-
  Plain mathematics: sets of dimensions as numbers.
-/
import Derived.Test.YtdmfikedojgjbaaKit
namespace Go.Proofs.Ytdmfikedojgjbaa
namespace Mk
/-- one set of dimensions within another -/
def sb (a b : Nat) : Bool := a &&& b == a
theorem sb_iff {a b : Nat} : sb a b = true ↔ ∀ i, a.testBit i = true → b.testBit i = true := by
  unfold sb
  rw [beq_iff_eq]
  constructor
  · intro h i hi
    rw [← h, Nat.testBit_and, Bool.and_eq_true] at hi
    exact hi.2
  · intro h
    apply Nat.eq_of_testBit_eq
    intro i
    rw [Nat.testBit_and]
    cases ha : a.testBit i with
    | false => rfl
    | true => rw [h i ha]; rfl
theorem sb_le {a b : Nat} (h : sb a b = true) : a ≤ b := by
  unfold sb at h
  rw [beq_iff_eq] at h
  rw [← h]
  exact Nat.and_le_right
theorem sb_refl (a : Nat) : sb a a = true := by simp [sb]
theorem sb_zero (a : Nat) : sb 0 a = true := by simp [sb]
theorem sb_trans {a b c : Nat} (h : sb a b = true) (k : sb b c = true) : sb a c = true := by
  rw [sb_iff] at *
  exact fun i hi => k i (h i hi)
theorem sb_half {a b : Nat} : sb a b = true ↔ sb (a / 2) (b / 2) = true ∧ a % 2 ≤ b % 2 := by
  simp only [sb_iff]
  constructor
  · intro h
    refine ⟨fun i hi => ?_, ?_⟩
    · have := h (i + 1)
      rw [Nat.testBit_succ, Nat.testBit_succ] at this
      exact this hi
    · have := h 0
      simp only [Nat.testBit_zero, decide_eq_true_eq] at this
      omega
  · rintro ⟨h1, h2⟩ i hi
    cases i with
    | zero =>
      simp only [Nat.testBit_zero, decide_eq_true_eq] at hi ⊢
      omega
    | succ i =>
      rw [Nat.testBit_succ] at hi ⊢
      exact h1 i hi
theorem and_split (a b : Nat) : a &&& b = 2 * (a / 2 &&& b / 2) + (if a % 2 = 1 ∧ b % 2 = 1 then 1 else 0) := by
  apply Nat.eq_of_testBit_eq
  intro i
  cases i with
  | zero =>
    simp only [Nat.testBit_zero]
    have h1 : (a &&& b) % 2 = 1 ↔ a % 2 = 1 ∧ b % 2 = 1 := Nat.and_mod_two_eq_one
    split
    · rename_i h
      have := h1.2 h
      simp; omega
    · rename_i h
      have : ¬ (a &&& b) % 2 = 1 := fun h' => h (h1.1 h')
      simp; omega
  | succ i =>
    rw [Nat.testBit_succ, Nat.testBit_succ]
    have h2 : (a &&& b) / 2 = a / 2 &&& b / 2 := Nat.and_div_two
    have h3 : (2 * (a / 2 &&& b / 2) + if a % 2 = 1 ∧ b % 2 = 1 then 1 else 0) / 2 = a / 2 &&& b / 2 := by
      split <;> omega
    rw [h2, h3]
/-- what is left of g without y comes back with y -/
theorem fill_back : ∀ (m g y : Nat), g < 2 ^ m → sb y g = true → (2 ^ m - 1 - (g - y)) &&& g = y
  | 0, g, y, hg, h => by
    have := sb_le h
    simp at hg
    subst hg
    simp
    omega
  | m + 1, g, y, hg, h => by
    obtain ⟨h1, h2⟩ := sb_half.1 h
    have hle := sb_le h1
    have hg2 : g / 2 < 2 ^ m := by rw [Nat.pow_succ] at hg; omega
    have ih := fill_back m (g / 2) (y / 2) hg2 h1
    rw [and_split]
    have hp : 2 ^ (m + 1) = 2 * 2 ^ m := by rw [Nat.pow_succ]; omega
    have hpos : 0 < 2 ^ m := Nat.pow_pos (by decide)
    have e1 : (2 ^ (m + 1) - 1 - (g - y)) / 2 = 2 ^ m - 1 - (g / 2 - y / 2) := by rw [hp]; omega
    rw [e1, ih]
    have e2 : (2 ^ (m + 1) - 1 - (g - y)) % 2 = 1 ↔ (g - y) % 2 = 0 := by rw [hp]; omega
    split
    · rename_i hc
      rw [e2] at hc
      omega
    · rename_i hc
      rw [e2] at hc
      omega
/-- the next set within f behind x -/
theorem next_spec : ∀ (m f x : Nat), f < 2 ^ m → sb x f = true → x < f →
    x < ((2 ^ m - (f - x)) &&& f) ∧ ∀ y, x < y → sb y f = true → ((2 ^ m - (f - x)) &&& f) ≤ y
  | 0, f, x, hf, h, hlt => by simp at hf; omega
  | m + 1, f, x, hf, h, hlt => by
    obtain ⟨h1, h2⟩ := sb_half.1 h
    have hle := sb_le h1
    have hf2 : f / 2 < 2 ^ m := by rw [Nat.pow_succ] at hf; omega
    have hp : 2 ^ (m + 1) = 2 * 2 ^ m := by rw [Nat.pow_succ]; omega
    have hpos : 0 < 2 ^ m := Nat.pow_pos (by decide)
    by_cases hb : f % 2 = 1 ∧ x % 2 = 0
    · have hfb := fill_back m (f / 2) (x / 2) hf2 h1
      have e : ((2 ^ (m + 1) - (f - x)) &&& f) = x + 1 := by
        rw [and_split]
        have e1 : (2 ^ (m + 1) - (f - x)) / 2 = 2 ^ m - 1 - (f / 2 - x / 2) := by rw [hp]; omega
        rw [e1, hfb, if_pos ⟨by rw [hp]; omega, hb.1⟩]
        omega
      rw [e]
      exact ⟨by omega, fun y hy _ => hy⟩
    · have hlt2 : x / 2 < f / 2 := by omega
      obtain ⟨i1, i2⟩ := next_spec m (f / 2) (x / 2) hf2 h1 hlt2
      have e : ((2 ^ (m + 1) - (f - x)) &&& f) = 2 * ((2 ^ m - (f / 2 - x / 2)) &&& (f / 2)) := by
        rw [and_split]
        have e1 : (2 ^ (m + 1) - (f - x)) / 2 = 2 ^ m - (f / 2 - x / 2) := by rw [hp]; omega
        rw [e1, if_neg (by rw [hp]; omega)]
        omega
      rw [e]
      refine ⟨by omega, fun y hy hs => ?_⟩
      obtain ⟨k1, k2⟩ := sb_half.1 hs
      have := i2 (y / 2) (by omega) k1
      omega
/-- the next one, as the program reckons it -/
def nx (f x : Nat) : Nat := ((x + 4294967296 - f) % 4294967296) &&& f
theorem nx_last (f : Nat) : nx f f = 0 := by
  unfold nx
  rw [show f + 4294967296 - f = 4294967296 by omega]
  simp
theorem nx_sb (f x : Nat) : sb (nx f x) f = true := by
  rw [sb_iff]
  intro i hi
  unfold nx at hi
  rw [Nat.testBit_and, Bool.and_eq_true] at hi
  exact hi.2
theorem nx_spec (f x : Nat) (hf : f < 4294967296) (h : sb x f = true) (hlt : x < f) : x < nx f x ∧ ∀ y, x < y → sb y f = true → nx f x ≤ y := by
  have := next_spec 32 f x hf h hlt
  unfold nx
  rw [show (x + 4294967296 - f) % 4294967296 = 2 ^ 32 - (f - x) by
    have : (2 : Nat) ^ 32 = 4294967296 := by decide
    rw [Nat.mod_eq_of_lt (by omega)]; omega]
  exact this
/-- the sets within f that are less than x -/
def upto (f x : Nat) : List Nat := (List.range x).filter (fun y => sb y f)
theorem upto_succ (f x : Nat) (h : sb x f = true) : upto f (x + 1) = upto f x ++ [x] := by
  unfold upto
  rw [List.range_succ, List.filter_append]
  simp [h]
theorem upto_gap (f : Nat) : ∀ (d a : Nat), (∀ y, a ≤ y → y < a + d → sb y f = false) → upto f (a + d) = upto f a
  | 0, a, _ => rfl
  | d + 1, a, h => by
    rw [← Nat.add_assoc]
    unfold upto
    rw [List.range_succ, List.filter_append]
    have := upto_gap f d a (fun y h1 h2 => h y h1 (by omega))
    unfold upto at this
    rw [this]
    simp [h (a + d) (by omega) (by omega)]
theorem upto_next (f x : Nat) (hf : f < 4294967296) (h : sb x f = true) : upto f (if nx f x = 0 then f + 1 else nx f x) = upto f x ++ [x] := by
  rw [← upto_succ f x h]
  have hle := sb_le h
  by_cases hx : x = f
  · subst hx
    rw [if_pos (nx_last _)]
  · obtain ⟨h1, h2⟩ := nx_spec f x hf h (by omega)
    rw [if_neg (by omega)]
    have := upto_gap f (nx f x - (x + 1)) (x + 1) (fun y k1 k2 => by
      cases hs : sb y f with
      | false => rfl
      | true => have := h2 y (by omega) hs; omega)
    rwa [show x + 1 + (nx f x - (x + 1)) = nx f x by omega] at this
/-- all sets within f -/
def subs (f : Nat) : List Nat := upto f (f + 1)
theorem mem_subs {f x : Nat} : x ∈ subs f ↔ sb x f = true := by
  unfold subs upto
  rw [List.mem_filter, List.mem_range]
  constructor
  · exact fun h => h.2
  · intro h
    exact ⟨by have := sb_le h; omega, h⟩
/-- without: as the program asks it -/
theorem andNot_zero {a b : Nat} (ha : a < 4294967296) (hb : b < 4294967296) : (a &&& (4294967295 - b)) = 0 ↔ sb a b = true := by
  rw [sb_iff]
  have ht : ∀ i, (4294967295 - b).testBit i = (decide (i < 32) && !b.testBit i) := by
    intro i
    have := Nat.testBit_two_pow_sub_succ (n := 32) (x := b) (by simpa using hb) i
    rwa [show 2 ^ 32 - (b + 1) = 4294967295 - b by omega] at this
  constructor
  · intro h i hi
    have h0 : (a &&& (4294967295 - b)).testBit i = false := by rw [h]; simp
    rw [Nat.testBit_and, ht, hi] at h0
    have hi32 : i < 32 := by
      rcases Nat.lt_or_ge i 32 with h' | h'
      · exact h'
      · have : a < 2 ^ i := Nat.lt_of_lt_of_le ha (by rw [show 4294967296 = 2 ^ 32 by decide]; exact Nat.pow_le_pow_right (by decide) h')
        rw [Nat.testBit_lt_two_pow this] at hi
        cases hi
    simpa [hi32] using h0
  · intro h
    apply Nat.eq_of_testBit_eq
    intro i
    rw [Nat.testBit_and, ht]
    cases hai : a.testBit i with
    | false => simp
    | true => simp [h i hai]
/-- how many are in a set -/
def cnt : Nat → Nat → Nat
  | 0, _ => 0
  | m + 1, a => a % 2 + cnt m (a / 2)
theorem cnt_le : ∀ m a, cnt m a ≤ m
  | 0, _ => Nat.le_refl _
  | m + 1, a => by have := cnt_le m (a / 2); simp only [cnt]; omega
theorem cnt_zero : ∀ m, cnt m 0 = 0
  | 0 => rfl
  | m + 1 => by simp [cnt, cnt_zero m]
theorem cnt_pos : ∀ m a, a < 2 ^ m → a ≠ 0 → 0 < cnt m a
  | 0, a, h, h0 => by simp at h; omega
  | m + 1, a, h, h0 => by
    simp only [cnt]
    by_cases hb : a % 2 = 1
    · omega
    · have := cnt_pos m (a / 2) (by rw [Nat.pow_succ] at h; omega) (by omega)
      omega
/-- the lowest one taken away -/
theorem cnt_low : ∀ m a, a < 2 ^ m → a ≠ 0 → cnt m (a &&& (a - 1)) + 1 = cnt m a
  | 0, a, h, h0 => by simp at h; omega
  | m + 1, a, h, h0 => by
    simp only [cnt]
    rw [and_split a (a - 1)]
    by_cases hb : a % 2 = 1
    · rw [if_neg (by omega), show (a - 1) / 2 = a / 2 by omega, Nat.and_self]
      rw [show (2 * (a / 2) + 0) % 2 = 0 by omega, show (2 * (a / 2) + 0) / 2 = a / 2 by omega]
      omega
    · have ih := cnt_low m (a / 2) (by rw [Nat.pow_succ] at h; omega) (by omega)
      rw [if_neg (by omega), show (a - 1) / 2 = a / 2 - 1 by omega]
      rw [show (2 * (a / 2 &&& (a / 2 - 1)) + 0) % 2 = 0 by omega, show (2 * (a / 2 &&& (a / 2 - 1)) + 0) / 2 = (a / 2 &&& (a / 2 - 1)) by omega]
      omega
theorem cnt_small : ∀ k m a, k ≤ m → a < 2 ^ k → cnt m a = cnt k a
  | 0, m, a, _, h => by
    have : a = 0 := by simpa using h
    subst this
    rw [cnt_zero]; rfl
  | k + 1, 0, a, hk, _ => by omega
  | k + 1, m + 1, a, hk, h => by
    simp only [cnt]
    rw [cnt_small k m (a / 2) (by omega) (by rw [Nat.pow_succ] at h; omega)]
end Mk
end Go.Proofs.Ytdmfikedojgjbaa
