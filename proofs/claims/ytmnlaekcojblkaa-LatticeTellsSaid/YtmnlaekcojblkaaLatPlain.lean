/-
  Lattices of sets, in plain mathematics: the least cover; all sets between two.
-/
import Derived.Test.YtmnlaekcojblkaaCloPlain
namespace Go.Proofs.Ytmnlaekcojblkaa
set_option linter.unusedVariables false
open Mk
namespace Clo
/-- the place of the least among those of [lo, hi) that will do, the first of them -/
def MinAt (ok : Nat → Bool) (sz : Nat → Int) (lo hi : Nat) (a : Int) : Prop :=
  (a = -1 ∧ ∀ i, lo ≤ i → i < hi → ok i = false) ∨
  ∃ k : Nat, a = (k : Int) ∧ lo ≤ k ∧ k < hi ∧ ok k = true ∧ ∀ i, lo ≤ i → i < hi → ok i = true → sz k < sz i ∨ (sz k = sz i ∧ k ≤ i)
variable {ok : Nat → Bool} {sz : Nat → Int} {lo hi : Nat} {a b : Int}
theorem MinAt.one (h : MinAt ok sz lo hi a) (k : MinAt ok sz lo hi b) : a = b := by
  rcases h with ⟨rfl, h⟩ | ⟨x, rfl, x1, x2, x3, x4⟩
  · rcases k with ⟨rfl, k⟩ | ⟨y, rfl, y1, y2, y3, y4⟩
    · rfl
    · rw [h y y1 y2] at y3; cases y3
  · rcases k with ⟨rfl, k⟩ | ⟨y, rfl, y1, y2, y3, y4⟩
    · rw [k x x1 x2] at x3; cases x3
    · have h1 := x4 y y1 y2 y3
      have h2 := y4 x x1 x2 x3
      have : x = y := by omega
      rw [this]
theorem MinAt.none (ok : Nat → Bool) (sz : Nat → Int) (lo : Nat) : MinAt ok sz lo lo (-1) := .inl ⟨rfl, fun i h1 h2 => by omega⟩
theorem MinAt.ge (h : MinAt ok sz lo hi a) : -1 ≤ a ∧ a < (hi : Int) := by
  rcases h with ⟨rfl, _⟩ | ⟨x, rfl, _, x2, _⟩ <;> omega
/-- forward: strictly less -/
theorem MinAt.fwd (h : MinAt ok sz lo hi a) (hl : lo ≤ hi) : MinAt ok sz lo (hi + 1) (if ok hi = true ∧ (a < 0 ∨ sz hi < sz a.toNat) then (hi : Int) else a) := by
  by_cases ho : ok hi = true
  · rcases h with ⟨rfl, h⟩ | ⟨x, rfl, x1, x2, x3, x4⟩
    · rw [if_pos ⟨ho, .inl (by omega)⟩]
      refine .inr ⟨hi, rfl, hl, by omega, ho, fun i h1 h2 h3 => ?_⟩
      by_cases e : i = hi
      · subst e; exact .inr ⟨rfl, Nat.le_refl _⟩
      · rw [h i h1 (by omega)] at h3; cases h3
    · rw [Int.toNat_natCast]
      by_cases hs : sz hi < sz x
      · rw [if_pos ⟨ho, .inr hs⟩]
        refine .inr ⟨hi, rfl, hl, by omega, ho, fun i h1 h2 h3 => ?_⟩
        by_cases e : i = hi
        · subst e; exact .inr ⟨rfl, Nat.le_refl _⟩
        · have := x4 i h1 (by omega) h3; omega
      · rw [if_neg (by omega)]
        refine .inr ⟨x, rfl, x1, by omega, x3, fun i h1 h2 h3 => ?_⟩
        by_cases e : i = hi
        · subst e; omega
        · exact x4 i h1 (by omega) h3
  · rw [if_neg (fun hh => ho hh.1)]
    have ho : ok hi = false := by simpa using ho
    rcases h with ⟨rfl, h⟩ | ⟨x, rfl, x1, x2, x3, x4⟩
    · refine .inl ⟨rfl, fun i h1 h2 => ?_⟩
      by_cases e : i = hi
      · subst e; exact ho
      · exact h i h1 (by omega)
    · refine .inr ⟨x, rfl, x1, by omega, x3, fun i h1 h2 h3 => ?_⟩
      by_cases e : i = hi
      · subst e; rw [ho] at h3; cases h3
      · exact x4 i h1 (by omega) h3
/-- backward: no greater -/
theorem MinAt.bwd (h : MinAt ok sz (lo + 1) hi a) (hl : lo < hi) : MinAt ok sz lo hi (if ok lo = true ∧ (a < 0 ∨ sz lo ≤ sz a.toNat) then (lo : Int) else a) := by
  by_cases ho : ok lo = true
  · rcases h with ⟨rfl, h⟩ | ⟨x, rfl, x1, x2, x3, x4⟩
    · rw [if_pos ⟨ho, .inl (by omega)⟩]
      refine .inr ⟨lo, rfl, Nat.le_refl _, hl, ho, fun i h1 h2 h3 => ?_⟩
      by_cases e : i = lo
      · subst e; exact .inr ⟨rfl, Nat.le_refl _⟩
      · rw [h i (by omega) h2] at h3; cases h3
    · rw [Int.toNat_natCast]
      by_cases hs : sz lo ≤ sz x
      · rw [if_pos ⟨ho, .inr hs⟩]
        refine .inr ⟨lo, rfl, Nat.le_refl _, hl, ho, fun i h1 h2 h3 => ?_⟩
        by_cases e : i = lo
        · subst e; exact .inr ⟨rfl, Nat.le_refl _⟩
        · have := x4 i (by omega) h2 h3; omega
      · rw [if_neg (by omega)]
        refine .inr ⟨x, rfl, by omega, x2, x3, fun i h1 h2 h3 => ?_⟩
        by_cases e : i = lo
        · subst e; omega
        · exact x4 i (by omega) h2 h3
  · rw [if_neg (fun hh => ho hh.1)]
    have ho : ok lo = false := by simpa using ho
    rcases h with ⟨rfl, h⟩ | ⟨x, rfl, x1, x2, x3, x4⟩
    · refine .inl ⟨rfl, fun i h1 h2 => ?_⟩
      by_cases e : i = lo
      · subst e; exact ho
      · exact h i (by omega) h2
    · refine .inr ⟨x, rfl, by omega, x2, x3, fun i h1 h2 h3 => ?_⟩
      by_cases e : i = lo
      · subst e; rw [ho] at h3; cases h3
      · exact x4 i (by omega) h2 h3
/-- lists in strict order with the same members -/
theorem ssort_eq : ∀ (a b : List Int), a.Pairwise (· < ·) → b.Pairwise (· < ·) → (∀ z, z ∈ a ↔ z ∈ b) → a = b
  | [], [], _, _, _ => rfl
  | [], y :: b, _, _, h => absurd ((h y).2 (List.mem_cons_self ..)) (by simp)
  | x :: a, [], _, _, h => absurd ((h x).1 (List.mem_cons_self ..)) (by simp)
  | x :: a, y :: b, ha, hb, h => by
    rw [List.pairwise_cons] at ha hb
    have hxy : x = y := by
      rcases List.mem_cons.1 ((h x).1 (List.mem_cons_self ..)) with e | e
      · exact e
      · rcases List.mem_cons.1 ((h y).2 (List.mem_cons_self ..)) with e' | e'
        · exact e'.symm
        · have h1 := hb.1 x e
          have h2 := ha.1 y e'
          omega
    subst hxy
    rw [ssort_eq a b ha.2 hb.2 fun z => ?_]
    constructor
    · intro hz
      rcases List.mem_cons.1 ((h z).1 (List.mem_cons_of_mem _ hz)) with e | e
      · have := ha.1 z hz; omega
      · exact e
    · intro hz
      rcases List.mem_cons.1 ((h z).2 (List.mem_cons_of_mem _ hz)) with e | e
      · have := hb.1 z hz; omega
      · exact e
/-! ### counts -/
theorem cnt_top : ∀ (m a : Nat), cnt (m + 1) a = cnt m a + a / 2 ^ m % 2
  | 0, a => by simp [cnt]
  | m + 1, a => by
    have ih := cnt_top m (a / 2)
    rw [show cnt (m + 1 + 1) a = a % 2 + cnt (m + 1) (a / 2) from rfl, ih, show cnt (m + 1) a = a % 2 + cnt m (a / 2) from rfl, Nat.div_div_eq_div_mul, Nat.pow_succ, Nat.mul_comm 2]
    omega
theorem cnt_bit (m a : Nat) : cnt (m + 1) a = cnt m a + if a.testBit m = true then 1 else 0 := by
  rw [cnt_top, Nat.testBit_eq_decide_div_mod_eq]
  by_cases h : a / 2 ^ m % 2 = 1
  · rw [if_pos (by simpa using h), h]
  · rw [if_neg (by simpa using h)]; omega
theorem sub_half {a b : Nat} (h : sb a b = true) : (b - a) / 2 = b / 2 - a / 2 ∧ (b - a) % 2 = b % 2 - a % 2 := by
  obtain ⟨h1, h2⟩ := sb_half.1 h
  have := sb_le h1
  omega
theorem cnt_sub : ∀ (m a b : Nat), sb a b = true → cnt m (b - a) + cnt m a = cnt m b
  | 0, _, _, _ => rfl
  | m + 1, a, b, h => by
    obtain ⟨h1, h2⟩ := sb_half.1 h
    obtain ⟨e1, e2⟩ := sub_half h
    have ih := cnt_sub m (a / 2) (b / 2) h1
    simp only [cnt, e1, e2]
    omega
theorem sub_sb : ∀ (m a b : Nat), b < 2 ^ m → sb a b = true → sb (b - a) b = true
  | 0, a, b, hb, h => by
    have : b = 0 := by simpa using hb
    subst this
    rw [Nat.zero_sub]
    exact sb_zero _
  | m + 1, a, b, hb, h => by
    obtain ⟨h1, h2⟩ := sb_half.1 h
    obtain ⟨e1, e2⟩ := sub_half h
    rw [sb_half, e1, e2]
    exact ⟨sub_sb m _ _ (by rw [Nat.pow_succ] at hb; omega) h1, by omega⟩
theorem andNot_sub {a b : Nat} (hb : b < 4294967296) (h : sb a b = true) : b &&& (4294967295 - a) = b - a := by
  have := fill_back 32 b (b - a) hb (sub_sb 32 a b hb h)
  have hle := sb_le h
  rw [show 2 ^ 32 - 1 - (b - (b - a)) = 4294967295 - a by
    have : (2 : Nat) ^ 32 = 4294967296 := by decide
    omega] at this
  rw [Nat.and_comm]; exact this
theorem or_split (a b : Nat) : a ||| b = 2 * (a / 2 ||| b / 2) + (if a % 2 = 1 ∨ b % 2 = 1 then 1 else 0) := by
  apply Nat.eq_of_testBit_eq
  intro i
  cases i with
  | zero =>
    simp only [Nat.testBit_zero]
    have h1 : (a ||| b) % 2 = 1 ↔ a % 2 = 1 ∨ b % 2 = 1 := Nat.or_mod_two_eq_one
    split
    · rename_i h
      have := h1.2 h
      simp; omega
    · rename_i h
      have : ¬ (a ||| b) % 2 = 1 := fun h' => h (h1.1 h')
      simp; omega
  | succ i =>
    rw [Nat.testBit_succ, Nat.testBit_succ]
    have h2 : (a ||| b) / 2 = a / 2 ||| b / 2 := Nat.or_div_two
    have h3 : (2 * (a / 2 ||| b / 2) + if a % 2 = 1 ∨ b % 2 = 1 then 1 else 0) / 2 = a / 2 ||| b / 2 := by
      split <;> omega
    rw [h2, h3]
theorem or_add : ∀ (m a b x : Nat), b < 2 ^ m → sb a b = true → sb x (b - a) = true → a ||| x = a + x
  | 0, a, b, x, hb, h, hx => by
    have : b = 0 := by simpa using hb
    subst this
    have h1 := sb_le h
    have h2 := sb_le hx
    have : a = 0 := by omega
    have : x = 0 := by omega
    subst_vars
    rfl
  | m + 1, a, b, x, hb, h, hx => by
    obtain ⟨h1, h2⟩ := sb_half.1 h
    obtain ⟨e1, e2⟩ := sub_half h
    obtain ⟨k1, k2⟩ := sb_half.1 hx
    rw [e1] at k1
    rw [e2] at k2
    have ih := or_add m (a / 2) (b / 2) (x / 2) (by rw [Nat.pow_succ] at hb; omega) h1 k1
    rw [or_split, ih]
    split <;> omega
/-! ### all sets between two, doubled bit by bit -/
theorem sb_dbl : ∀ (i g x : Nat), g < 2 ^ i → x < 2 ^ (i + 1) → sb x (g + 2 ^ i) = sb (x % 2 ^ i) g
  | 0, g, x, hg, hx => by
    have : g = 0 := by simpa using hg
    subst this
    have hx2 : x < 2 := by simpa using hx
    rcases (by omega : x = 0 ∨ x = 1) with rfl | rfl <;> rfl
  | i + 1, g, x, hg, hx => by
    have hp : 2 ^ (i + 1) = 2 * 2 ^ i := by rw [Nat.pow_succ]; omega
    have hp2 : 2 ^ (i + 1 + 1) = 2 * 2 ^ (i + 1) := by rw [Nat.pow_succ]; omega
    have e1 : (g + 2 ^ (i + 1)) / 2 = g / 2 + 2 ^ i := by omega
    have e2 : (g + 2 ^ (i + 1)) % 2 = g % 2 := by omega
    have e3 : x % 2 ^ (i + 1) / 2 = x / 2 % 2 ^ i := by rw [hp]; exact Nat.mod_mul_right_div_self x 2 (2 ^ i)
    have e4 : x % 2 ^ (i + 1) % 2 = x % 2 := by rw [hp]; exact Nat.mod_mul_right_mod x 2 (2 ^ i)
    have ih := sb_dbl i (g / 2) (x / 2) (by omega) (by omega)
    rw [Bool.eq_iff_iff, sb_half, sb_half (a := x % 2 ^ (i + 1)), e1, e2, e3, e4, ih]
theorem subs_dbl {i g : Nat} (hg : g < 2 ^ i) : subs (g + 2 ^ i) = subs g ++ (subs g).map (· + 2 ^ i) := by
  unfold subs upto
  rw [show g + 2 ^ i + 1 = 2 ^ i + (g + 1) by omega, List.range_add, List.filter_append, List.filter_map]
  congr 1
  · have : List.range (2 ^ i) = List.range (g + 1) ++ (List.range (2 ^ i - (g + 1))).map (g + 1 + ·) := by rw [← List.range_add]; congr 1; omega
    have h1 : (List.range (2 ^ i)).filter (fun y => sb y (g + 2 ^ i)) = (List.range (2 ^ i)).filter (fun y => sb y g) := List.filter_congr fun x hx => by
      rw [List.mem_range] at hx
      rw [sb_dbl i g x hg (by rw [Nat.pow_succ]; omega), Nat.mod_eq_of_lt hx]
    rw [h1, this, List.filter_append]
    have h2 : ((List.range (2 ^ i - (g + 1))).map (g + 1 + ·)).filter (fun y => sb y g) = [] := by
      rw [List.filter_eq_nil_iff]
      intro y hy
      obtain ⟨k, _, rfl⟩ := List.mem_map.1 hy
      intro hc
      have := sb_le hc
      omega
    rw [h2, List.append_nil]
  · have h1 : (List.range (g + 1)).filter ((fun y => sb y (g + 2 ^ i)) ∘ fun x => 2 ^ i + x) = (List.range (g + 1)).filter (fun y => sb y g) := List.filter_congr fun x hx => by
      rw [List.mem_range] at hx
      have hx2 : x < 2 ^ i := by omega
      show sb (2 ^ i + x) (g + 2 ^ i) = sb x g
      rw [sb_dbl i g (2 ^ i + x) hg (by rw [Nat.pow_succ]; omega), Nat.add_mod_left, Nat.mod_eq_of_lt hx2]
    rw [h1]
    apply List.map_congr_left
    intro x _
    omega
theorem mod_bit (f i : Nat) : f % 2 ^ (i + 1) = f % 2 ^ i + if f.testBit i = true then 2 ^ i else 0 := by
  rw [Nat.testBit_eq_decide_div_mod_eq, Nat.pow_succ, Nat.mod_mul]
  by_cases h : f / 2 ^ i % 2 = 1
  · rw [if_pos (by simpa using h), h, Nat.mul_one]
  · rw [if_neg (by simpa using h)]
    have : f / 2 ^ i % 2 = 0 := by omega
    rw [this, Nat.mul_zero]
/-- those that lie between, as far as the first i bits tell -/
def btw (a f i : Nat) : List Nat := (subs (f % 2 ^ i)).map (a + ·)
theorem btw_zero (a f : Nat) : btw a f 0 = [a] := by
  unfold btw
  rw [Nat.pow_zero, Nat.mod_one]
  rfl
theorem btw_no {a f i : Nat} (h : f.testBit i = false) : btw a f (i + 1) = btw a f i := by
  unfold btw
  rw [mod_bit, h]
  rfl
theorem btw_yes {a f i : Nat} (h : f.testBit i = true) : btw a f (i + 1) = btw a f i ++ (btw a f i).map (· + 2 ^ i) := by
  unfold btw
  rw [mod_bit, h, if_pos rfl, subs_dbl (Nat.mod_lt _ (Nat.pow_pos (by decide))), List.map_append, List.map_map, List.map_map]
  congr 1
  apply List.map_congr_left
  intro x _
  show a + (x + 2 ^ i) = a + x + 2 ^ i
  omega
theorem btw_all {a f : Nat} (h : f < 4294967296) : btw a f 32 = (subs f).map (a + ·) := by
  unfold btw
  rw [Nat.mod_eq_of_lt (by simpa using h)]
theorem bit_sub : ∀ (i a b : Nat), sb a b = true → (b - a).testBit i = (b.testBit i && !a.testBit i)
  | 0, a, b, h => by
    obtain ⟨e1, e2⟩ := sub_half h
    obtain ⟨_, h2⟩ := sb_half.1 h
    simp only [Nat.testBit_zero, e2]
    rcases (by omega : b % 2 = 0 ∨ b % 2 = 1) with hb | hb <;> rcases (by omega : a % 2 = 0 ∨ a % 2 = 1) with ha | ha <;> simp [ha, hb]
  | i + 1, a, b, h => by
    obtain ⟨h1, _⟩ := sb_half.1 h
    rw [Nat.testBit_succ, Nat.testBit_succ, Nat.testBit_succ, (sub_half h).1]
    exact bit_sub i _ _ h1
end Clo
end Go.Proofs.Ytmnlaekcojblkaa
