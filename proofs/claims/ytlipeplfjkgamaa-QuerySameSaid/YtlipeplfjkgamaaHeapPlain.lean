/-
  A heap in a list, in plain mathematics: sifting down and up.
-/
import Derived.Test.YtlipeplfjkgamaaAux
namespace Go.Proofs.Ytlipeplfjkgamaa
set_option linter.unusedVariables false
def swp (l : List Int) (i j : Nat) : List Int := (l.set i (l.getD j 0)).set j (l.getD i 0)
theorem swp_length (l : List Int) (i j : Nat) : (swp l i j).length = l.length := by simp [swp]
theorem getD_set (l : List Int) (i j : Nat) (x : Int) (hi : i < l.length) : (l.set i x).getD j 0 = if i = j then x else l.getD j 0 := by
  simp only [List.getD, List.getElem?_set]
  split
  · rename_i h
    subst h
    simp
  · rfl
theorem swp_at (l : List Int) {i j : Nat} (hi : i < l.length) (hj : j < l.length) (k : Nat) : (swp l i j).getD k 0 = if k = j then l.getD i 0 else if k = i then l.getD j 0 else l.getD k 0 := by
  unfold swp
  rw [getD_set _ _ _ _ (by simpa using hj), getD_set _ _ _ _ hi]
  by_cases h1 : k = j
  · rw [if_pos h1.symm, if_pos h1]
  · rw [if_neg (fun h => h1 h.symm), if_neg h1]
    by_cases h2 : k = i
    · rw [if_pos h2.symm, if_pos h2]
    · rw [if_neg (fun h => h2 h.symm), if_neg h2]
theorem swp_perm (l : List Int) {i j : Nat} (hi : i < l.length) (hj : j < l.length) : (swp l i j).Perm l := by
  have e1 : l.getD j 0 = l[j] := by simp [List.getD, hj]
  have e2 : l.getD i 0 = l[i] := by simp [List.getD, hi]
  unfold swp
  rw [e1, e2]
  exact List.set_set_perm hi hj
/-- the lesser child -/
def pickC (l : List Int) (i n : Nat) : Nat := if 2 * i + 2 < n ∧ l.getD (2 * i + 2) 0 < l.getD (2 * i + 1) 0 then 2 * i + 2 else 2 * i + 1
theorem pickC_lt {l : List Int} {i n : Nat} (h : 2 * i + 1 < n) : i < pickC l i n ∧ pickC l i n < n ∧ (pickC l i n = 2 * i + 1 ∨ pickC l i n = 2 * i + 2) := by
  unfold pickC
  split <;> omega
theorem pickC_le {l : List Int} {i n k : Nat} (h : 2 * i + 1 < n) (hk : k < n) (hp : (k - 1) / 2 = i) (h0 : 0 < k) : l.getD (pickC l i n) 0 ≤ l.getD k 0 := by
  have hk2 : k = 2 * i + 1 ∨ k = 2 * i + 2 := by omega
  unfold pickC
  split
  · rcases hk2 with rfl | rfl <;> omega
  · rename_i hh
    rcases hk2 with rfl | rfl
    · omega
    · apply Decidable.byContradiction
      intro hc
      exact hh ⟨hk, by omega⟩
def siftD : Nat → List Int → Nat → Nat → List Int
  | 0, l, _, _ => l
  | f + 1, l, i, n => if n ≤ 2 * i + 1 then l else if l.getD (pickC l i n) 0 < l.getD i 0 then siftD f (swp l i (pickC l i n)) (pickC l i n) n else l
def siftU : Nat → List Int → Nat → List Int
  | 0, l, _ => l
  | f + 1, l, j => if j = 0 ∨ ¬ l.getD j 0 < l.getD ((j - 1) / 2) 0 then l else siftU f (swp l ((j - 1) / 2) j) ((j - 1) / 2)
theorem siftD_length : ∀ (f : Nat) (l : List Int) (i n : Nat), (siftD f l i n).length = l.length
  | 0, _, _, _ => rfl
  | f + 1, l, i, n => by
    unfold siftD
    split
    · rfl
    split
    · rw [siftD_length f, swp_length]
    · rfl
theorem siftU_length : ∀ (f : Nat) (l : List Int) (j : Nat), (siftU f l j).length = l.length
  | 0, _, _ => rfl
  | f + 1, l, j => by
    unfold siftU
    split
    · rfl
    · rw [siftU_length f, swp_length]
theorem siftD_perm : ∀ (f : Nat) (l : List Int) (i n : Nat), n ≤ l.length → (siftD f l i n).Perm l
  | 0, l, _, _, _ => List.Perm.refl l
  | f + 1, l, i, n, hn => by
    unfold siftD
    split
    · exact List.Perm.refl l
    rename_i h
    have hp := pickC_lt (l := l) (show 2 * i + 1 < n by omega)
    split
    · exact (siftD_perm f _ _ _ (by rw [swp_length]; exact hn)).trans (swp_perm l (by omega) (by omega))
    · exact List.Perm.refl l
theorem siftU_perm : ∀ (f : Nat) (l : List Int) (j : Nat), j < l.length → (siftU f l j).Perm l
  | 0, l, _, _ => List.Perm.refl l
  | f + 1, l, j, hj => by
    unfold siftU
    split
    · exact List.Perm.refl l
    · exact (siftU_perm f _ _ (by rw [swp_length]; omega)).trans (swp_perm l (by omega) hj)
/-- what lies past the heap stays -/
theorem siftD_past : ∀ (f : Nat) (l : List Int) (i n : Nat), n ≤ l.length → ∀ k, n ≤ k → (siftD f l i n).getD k 0 = l.getD k 0
  | 0, l, _, _, _, _, _ => rfl
  | f + 1, l, i, n, hn, k, hk => by
    unfold siftD
    split
    · rfl
    rename_i h
    have hp := pickC_lt (l := l) (show 2 * i + 1 < n by omega)
    split
    · rw [siftD_past f _ _ _ (by rw [swp_length]; exact hn) k hk, swp_at l (by omega) (by omega), if_neg (by omega), if_neg (by omega)]
    · rfl
def Heap (lo n : Nat) (l : List Int) : Prop := ∀ k, 0 < k → k < n → lo ≤ (k - 1) / 2 → l.getD ((k - 1) / 2) 0 ≤ l.getD k 0
theorem siftD_heap : ∀ (f : Nat) (l : List Int) (i n lo : Nat), n ≤ l.length → n ≤ i + f →
    (∀ k, 0 < k → k < n → lo ≤ (k - 1) / 2 → (k - 1) / 2 ≠ i → l.getD ((k - 1) / 2) 0 ≤ l.getD k 0) →
    (0 < i → lo ≤ (i - 1) / 2 → ∀ k, 0 < k → k < n → (k - 1) / 2 = i → l.getD ((i - 1) / 2) 0 ≤ l.getD k 0) → Heap lo n (siftD f l i n)
  | 0, l, i, n, lo, hn, hf, h1, h2 => fun k hk0 hkn hlo => h1 k hk0 hkn hlo (by omega)
  | f + 1, l, i, n, lo, hn, hf, h1, h2 => by
    unfold siftD
    split
    · rename_i h
      exact fun k hk0 hkn hlo => h1 k hk0 hkn hlo (by omega)
    rename_i h
    have hc : 2 * i + 1 < n := by omega
    obtain ⟨p1, p2, p3⟩ := pickC_lt (l := l) hc
    have pm := fun k hk hp h0 => pickC_le (l := l) (i := i) (n := n) (k := k) hc hk hp h0
    generalize pickC l i n = j at *
    have hji : (j - 1) / 2 = i := by omega
    split
    · rename_i hlt
      refine siftD_heap f _ j n lo (by rw [swp_length]; exact hn) (by omega) ?_ ?_
      · intro k hk0 hkn hlo hkj
        rw [swp_at l (by omega) (by omega), swp_at l (by omega) (by omega)]
        by_cases hpi : (k - 1) / 2 = i
        · rw [if_neg (by omega), if_pos hpi]
          by_cases hkj2 : k = j
          · rw [if_pos hkj2]; omega
          · rw [if_neg hkj2, if_neg (by omega)]
            exact pm k hkn hpi hk0
        · rw [if_neg hkj, if_neg hpi]
          by_cases hki : k = i
          · subst hki
            rw [if_neg (by omega), if_pos rfl]
            exact h2 hk0 hlo j (by omega) p2 hji
          · rw [if_neg (by omega), if_neg hki]
            exact h1 k hk0 hkn hlo hpi
      · intro hj0 hlo k hk0 hkn hkj
        rw [swp_at l (by omega) (by omega), swp_at l (by omega) (by omega), hji, if_neg (by omega), if_pos rfl, if_neg (by omega), if_neg (by omega)]
        have := h1 k hk0 hkn (by omega) (by omega)
        rw [hkj] at this
        exact this
    · rename_i hge
      intro k hk0 hkn hlo
      by_cases hpi : (k - 1) / 2 = i
      · have := pm k hkn hpi hk0
        rw [hpi]
        omega
      · exact h1 k hk0 hkn hlo hpi
theorem siftU_heap : ∀ (f : Nat) (l : List Int) (j : Nat), j < l.length → j < f →
    (∀ k, 0 < k → k < l.length → k ≠ j → l.getD ((k - 1) / 2) 0 ≤ l.getD k 0) →
    (0 < j → ∀ k, 0 < k → k < l.length → (k - 1) / 2 = j → l.getD ((j - 1) / 2) 0 ≤ l.getD k 0) → Heap 0 l.length (siftU f l j)
  | 0, l, j, hj, hf, _, _ => absurd hf (by omega)
  | f + 1, l, j, hj, hf, h1, h2 => by
    unfold siftU
    split
    · rename_i h
      intro k hk0 hkn _
      by_cases hkj : k = j
      · rcases h with h | h
        · omega
        · rw [hkj]; omega
      · exact h1 k hk0 hkn hkj
    · rename_i h
      rw [not_or] at h
      have hlt : l.getD j 0 < l.getD ((j - 1) / 2) 0 := Decidable.of_not_not h.2
      have hi : (j - 1) / 2 < l.length := by omega
      have hij : (j - 1) / 2 < j := by omega
      have e := swp_length l ((j - 1) / 2) j
      rw [← e]
      refine siftU_heap f _ _ (by rw [e]; exact hi) (by omega) ?_ ?_
      · intro k hk0 hkn hki
        rw [e] at hkn
        rw [swp_at l hi hj, swp_at l hi hj]
        by_cases hkj : k = j
        · subst hkj
          rw [if_neg (by omega), if_pos rfl, if_pos rfl]
          omega
        · rw [if_neg hkj, if_neg hki]
          by_cases hpj : (k - 1) / 2 = j
          · rw [if_pos hpj]
            exact h2 (by omega) k hk0 hkn hpj
          · rw [if_neg hpj]
            by_cases hpi : (k - 1) / 2 = (j - 1) / 2
            · rw [if_pos hpi]
              have := h1 k hk0 hkn hkj
              rw [hpi] at this
              omega
            · rw [if_neg hpi]
              exact h1 k hk0 hkn hkj
      · intro hi0 k hk0 hkn hki
        rw [e] at hkn
        rw [swp_at l hi hj, swp_at l hi hj, if_neg (by omega), if_neg (by omega)]
        have g1 := h1 ((j - 1) / 2) hi0 hi (by omega)
        by_cases hkj : k = j
        · rw [if_pos hkj]
          exact g1
        · rw [if_neg hkj, if_neg (by omega)]
          have := h1 k hk0 hkn hkj
          rw [hki] at this
          omega
/-- the root is the least -/
theorem heap_root {n : Nat} {l : List Int} (h : Heap 0 n l) : ∀ k, k < n → l.getD 0 0 ≤ l.getD k 0 := by
  intro k
  induction k using Nat.strongRecOn with
  | ind k ih =>
    intro hk
    by_cases h0 : k = 0
    · rw [h0]; omega
    · have h1 := h k (by omega) hk (Nat.zero_le _)
      have h2 := ih ((k - 1) / 2) (by omega) (by omega)
      omega
/-- all heaps made from below -/
def initH (l : List Int) : Nat → List Int
  | 0 => l
  | i + 1 => initH (siftD l.length l i l.length) i
theorem initH_length (l : List Int) : ∀ i, (initH l i).length = l.length := by
  intro i
  induction i generalizing l with
  | zero => rfl
  | succ i ih =>
    unfold initH
    rw [ih, siftD_length]
theorem initH_perm (l : List Int) : ∀ i, (initH l i).Perm l := by
  intro i
  induction i generalizing l with
  | zero => exact List.Perm.refl l
  | succ i ih =>
    unfold initH
    exact (ih _).trans (siftD_perm _ _ _ _ (Nat.le_refl _))
theorem initH_heap : ∀ (i : Nat) (l : List Int), Heap i l.length l → Heap 0 l.length (initH l i)
  | 0, l, h => h
  | i + 1, l, h => by
    unfold initH
    have e := siftD_length l.length l i l.length
    have := initH_heap i (siftD l.length l i l.length) (by
      rw [e]
      refine siftD_heap _ _ _ _ _ (Nat.le_refl _) (by omega) (fun k hk0 hkn hlo hne => h k hk0 hkn (by omega)) (fun h0 hlo => absurd hlo (by omega)))
    rw [e] at this
    exact this
end Go.Proofs.Ytlipeplfjkgamaa
