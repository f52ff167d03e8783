/-
  A heap in a list, by any key, in plain mathematics: sifting down and up.
-/
import Derived.Test.YtlipeplfjkgamaaHeapPlain
namespace Go.Proofs.Ytlipeplfjkgamaa
set_option linter.unusedVariables false
namespace HeapK
/-- the lesser child -/
def pickCk (κ : Int → Int) (l : List Int) (i n : Nat) : Nat := if 2 * i + 2 < n ∧ κ (l.getD (2 * i + 2) 0) < κ (l.getD (2 * i + 1) 0) then 2 * i + 2 else 2 * i + 1
theorem pickCk_lt {κ : Int → Int} {l : List Int} {i n : Nat} (h : 2 * i + 1 < n) : i < pickCk κ l i n ∧ pickCk κ l i n < n ∧ (pickCk κ l i n = 2 * i + 1 ∨ pickCk κ l i n = 2 * i + 2) := by
  unfold pickCk
  split <;> omega
theorem pickCk_le {κ : Int → Int} {l : List Int} {i n k : Nat} (h : 2 * i + 1 < n) (hk : k < n) (hp : (k - 1) / 2 = i) (h0 : 0 < k) : κ (l.getD (pickCk κ l i n) 0) ≤ κ (l.getD k 0) := by
  have hk2 : k = 2 * i + 1 ∨ k = 2 * i + 2 := by omega
  unfold pickCk
  split
  · rcases hk2 with rfl | rfl <;> omega
  · rename_i hh
    rcases hk2 with rfl | rfl
    · omega
    · apply Decidable.byContradiction
      intro hc
      exact hh ⟨hk, by omega⟩
def siftDk (κ : Int → Int) : Nat → List Int → Nat → Nat → List Int
  | 0, l, _, _ => l
  | f + 1, l, i, n => if n ≤ 2 * i + 1 then l else if κ (l.getD (pickCk κ l i n) 0) < κ (l.getD i 0) then siftDk κ f (swp l i (pickCk κ l i n)) (pickCk κ l i n) n else l
def siftUk (κ : Int → Int) : Nat → List Int → Nat → List Int
  | 0, l, _ => l
  | f + 1, l, j => if j = 0 ∨ ¬ κ (l.getD j 0) < κ (l.getD ((j - 1) / 2) 0) then l else siftUk κ f (swp l ((j - 1) / 2) j) ((j - 1) / 2)
theorem siftDk_length {κ : Int → Int} : ∀ (f : Nat) (l : List Int) (i n : Nat), (siftDk κ f l i n).length = l.length
  | 0, _, _, _ => rfl
  | f + 1, l, i, n => by
    unfold siftDk
    split
    · rfl
    split
    · rw [siftDk_length f, swp_length]
    · rfl
theorem siftUk_length {κ : Int → Int} : ∀ (f : Nat) (l : List Int) (j : Nat), (siftUk κ f l j).length = l.length
  | 0, _, _ => rfl
  | f + 1, l, j => by
    unfold siftUk
    split
    · rfl
    · rw [siftUk_length f, swp_length]
theorem siftDk_perm {κ : Int → Int} : ∀ (f : Nat) (l : List Int) (i n : Nat), n ≤ l.length → (siftDk κ f l i n).Perm l
  | 0, l, _, _, _ => List.Perm.refl l
  | f + 1, l, i, n, hn => by
    unfold siftDk
    split
    · exact List.Perm.refl l
    rename_i h
    have hp := pickCk_lt (κ := κ) (l := l) (show 2 * i + 1 < n by omega)
    split
    · exact (siftDk_perm f _ _ _ (by rw [swp_length]; exact hn)).trans (swp_perm l (by omega) (by omega))
    · exact List.Perm.refl l
theorem siftUk_perm {κ : Int → Int} : ∀ (f : Nat) (l : List Int) (j : Nat), j < l.length → (siftUk κ f l j).Perm l
  | 0, l, _, _ => List.Perm.refl l
  | f + 1, l, j, hj => by
    unfold siftUk
    split
    · exact List.Perm.refl l
    · exact (siftUk_perm f _ _ (by rw [swp_length]; omega)).trans (swp_perm l (by omega) hj)
/-- what lies past the heap stays -/
theorem siftDk_past {κ : Int → Int} : ∀ (f : Nat) (l : List Int) (i n : Nat), n ≤ l.length → ∀ k, n ≤ k → (siftDk κ f l i n).getD k 0 = l.getD k 0
  | 0, l, _, _, _, _, _ => rfl
  | f + 1, l, i, n, hn, k, hk => by
    unfold siftDk
    split
    · rfl
    rename_i h
    have hp := pickCk_lt (κ := κ) (l := l) (show 2 * i + 1 < n by omega)
    split
    · rw [siftDk_past f _ _ _ (by rw [swp_length]; exact hn) k hk, swp_at l (by omega) (by omega), if_neg (by omega), if_neg (by omega)]
    · rfl
def Heapk (κ : Int → Int) (lo n : Nat) (l : List Int) : Prop := ∀ k, 0 < k → k < n → lo ≤ (k - 1) / 2 → κ (l.getD ((k - 1) / 2) 0) ≤ κ (l.getD k 0)
theorem siftDk_heap {κ : Int → Int} : ∀ (f : Nat) (l : List Int) (i n lo : Nat), n ≤ l.length → n ≤ i + f →
    (∀ k, 0 < k → k < n → lo ≤ (k - 1) / 2 → (k - 1) / 2 ≠ i → κ (l.getD ((k - 1) / 2) 0) ≤ κ (l.getD k 0)) →
    (0 < i → lo ≤ (i - 1) / 2 → ∀ k, 0 < k → k < n → (k - 1) / 2 = i → κ (l.getD ((i - 1) / 2) 0) ≤ κ (l.getD k 0)) → Heapk κ lo n (siftDk κ f l i n)
  | 0, l, i, n, lo, hn, hf, h1, h2 => fun k hk0 hkn hlo => h1 k hk0 hkn hlo (by omega)
  | f + 1, l, i, n, lo, hn, hf, h1, h2 => by
    unfold siftDk
    split
    · rename_i h
      exact fun k hk0 hkn hlo => h1 k hk0 hkn hlo (by omega)
    rename_i h
    have hc : 2 * i + 1 < n := by omega
    obtain ⟨p1, p2, p3⟩ := pickCk_lt (κ := κ) (l := l) hc
    have pm := fun k hk hp h0 => pickCk_le (κ := κ) (l := l) (i := i) (n := n) (k := k) hc hk hp h0
    generalize pickCk κ l i n = j at *
    have hji : (j - 1) / 2 = i := by omega
    split
    · rename_i hlt
      refine siftDk_heap f _ j n lo (by rw [swp_length]; exact hn) (by omega) ?_ ?_
      · intro k hk0 hkn hlo hkj
        rw [swp_at l (by omega) (by omega), swp_at l (by omega) (by omega)]
        by_cases hpi : (k - 1) / 2 = i
        · rw [if_neg (by omega), if_pos hpi]
          by_cases hkj2 : k = j
          · rw [if_pos hkj2]; omega
          · rw [if_neg hkj2, if_neg (by omega)]
            exact pm k hkn hpi hk0
        · rw [if_neg hkj, if_neg hpi]
          by_cases hki : k = i
          · subst hki
            rw [if_neg (by omega), if_pos rfl]
            exact h2 hk0 hlo j (by omega) p2 hji
          · rw [if_neg (by omega), if_neg hki]
            exact h1 k hk0 hkn hlo hpi
      · intro hj0 hlo k hk0 hkn hkj
        rw [swp_at l (by omega) (by omega), swp_at l (by omega) (by omega), hji, if_neg (by omega), if_pos rfl, if_neg (by omega), if_neg (by omega)]
        have := h1 k hk0 hkn (by omega) (by omega)
        rw [hkj] at this
        exact this
    · rename_i hge
      intro k hk0 hkn hlo
      by_cases hpi : (k - 1) / 2 = i
      · have := pm k hkn hpi hk0
        rw [hpi]
        omega
      · exact h1 k hk0 hkn hlo hpi
theorem siftUk_heap {κ : Int → Int} : ∀ (f : Nat) (l : List Int) (j : Nat), j < l.length → j < f →
    (∀ k, 0 < k → k < l.length → k ≠ j → κ (l.getD ((k - 1) / 2) 0) ≤ κ (l.getD k 0)) →
    (0 < j → ∀ k, 0 < k → k < l.length → (k - 1) / 2 = j → κ (l.getD ((j - 1) / 2) 0) ≤ κ (l.getD k 0)) → Heapk κ 0 l.length (siftUk κ f l j)
  | 0, l, j, hj, hf, _, _ => absurd hf (by omega)
  | f + 1, l, j, hj, hf, h1, h2 => by
    unfold siftUk
    split
    · rename_i h
      intro k hk0 hkn _
      by_cases hkj : k = j
      · rcases h with h | h
        · omega
        · rw [hkj]; omega
      · exact h1 k hk0 hkn hkj
    · rename_i h
      rw [not_or] at h
      have hlt : κ (l.getD j 0) < κ (l.getD ((j - 1) / 2) 0) := Decidable.of_not_not h.2
      have hi : (j - 1) / 2 < l.length := by omega
      have hij : (j - 1) / 2 < j := by omega
      have e := swp_length l ((j - 1) / 2) j
      rw [← e]
      refine siftUk_heap f _ _ (by rw [e]; exact hi) (by omega) ?_ ?_
      · intro k hk0 hkn hki
        rw [e] at hkn
        rw [swp_at l hi hj, swp_at l hi hj]
        by_cases hkj : k = j
        · subst hkj
          rw [if_neg (by omega), if_pos rfl, if_pos rfl]
          omega
        · rw [if_neg hkj, if_neg hki]
          by_cases hpj : (k - 1) / 2 = j
          · rw [if_pos hpj]
            exact h2 (by omega) k hk0 hkn hpj
          · rw [if_neg hpj]
            by_cases hpi : (k - 1) / 2 = (j - 1) / 2
            · rw [if_pos hpi]
              have := h1 k hk0 hkn hkj
              rw [hpi] at this
              omega
            · rw [if_neg hpi]
              exact h1 k hk0 hkn hkj
      · intro hi0 k hk0 hkn hki
        rw [e] at hkn
        rw [swp_at l hi hj, swp_at l hi hj, if_neg (by omega), if_neg (by omega)]
        have g1 := h1 ((j - 1) / 2) hi0 hi (by omega)
        by_cases hkj : k = j
        · rw [if_pos hkj]
          exact g1
        · rw [if_neg hkj, if_neg (by omega)]
          have := h1 k hk0 hkn hkj
          rw [hki] at this
          omega
/-- the root is the least -/
theorem heapk_root {κ : Int → Int} {n : Nat} {l : List Int} (h : Heapk κ 0 n l) : ∀ k, k < n → κ (l.getD 0 0) ≤ κ (l.getD k 0) := by
  intro k
  induction k using Nat.strongRecOn with
  | ind k ih =>
    intro hk
    by_cases h0 : k = 0
    · rw [h0]; omega
    · have h1 := h k (by omega) hk (Nat.zero_le _)
      have h2 := ih ((k - 1) / 2) (by omega) (by omega)
      omega
/-- all heaps made from below -/
def initHk (κ : Int → Int) (l : List Int) : Nat → List Int
  | 0 => l
  | i + 1 => initHk κ (siftDk κ l.length l i l.length) i
theorem initHk_length {κ : Int → Int} (l : List Int) : ∀ i, (initHk κ l i).length = l.length := by
  intro i
  induction i generalizing l with
  | zero => rfl
  | succ i ih =>
    unfold initHk
    rw [ih, siftDk_length]
theorem initHk_perm {κ : Int → Int} (l : List Int) : ∀ i, (initHk κ l i).Perm l := by
  intro i
  induction i generalizing l with
  | zero => exact List.Perm.refl l
  | succ i ih =>
    unfold initHk
    exact (ih _).trans (siftDk_perm _ _ _ _ (Nat.le_refl _))
theorem initHk_heap {κ : Int → Int} : ∀ (i : Nat) (l : List Int), Heapk κ i l.length l → Heapk κ 0 l.length (initHk κ l i)
  | 0, l, h => h
  | i + 1, l, h => by
    unfold initHk
    have e := siftDk_length (κ := κ) l.length l i l.length
    have := initHk_heap i (siftDk κ l.length l i l.length) (by
      rw [e]
      refine siftDk_heap _ _ _ _ _ (Nat.le_refl _) (by omega) (fun k hk0 hkn hlo hne => h k hk0 hkn (by omega)) (fun h0 hlo => absurd hlo (by omega)))
    rw [e] at this
    exact this
end HeapK
end Go.Proofs.Ytlipeplfjkgamaa
