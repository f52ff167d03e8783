/-
  Sorting by exchanges, in plain mathematics.
-/
import Derived.Test.YtlipeplfjkgamaaHeapK
namespace Go.Proofs.Ytlipeplfjkgamaa
set_option linter.unusedVariables false
namespace Srt
/-- a list after exchanges within a range -/
inductive Pr (a b : Nat) : List Int → List Int → Prop
  | refl (l : List Int) : Pr a b l l
  | step {l m : List Int} {i j : Nat} (h : Pr a b l m) (hi : a ≤ i ∧ i < b) (hj : a ≤ j ∧ j < b) (hb : b ≤ m.length) : Pr a b l (swp m i j)
variable {a b : Nat} {l m k : List Int}
theorem Pr.len (h : Pr a b l m) : m.length = l.length := by
  induction h with
  | refl => rfl
  | step h _ _ _ ih => rw [swp_length]; exact ih
theorem Pr.perm (h : Pr a b l m) : m.Perm l := by
  induction h with
  | refl => exact List.Perm.refl _
  | step h hi hj hb ih => exact (swp_perm _ (by omega) (by omega)).trans ih
theorem Pr.trans (h : Pr a b l m) (h' : Pr a b m k) : Pr a b l k := by
  induction h' with
  | refl => exact h
  | step _ hi hj hb ih => exact .step ih hi hj hb
theorem Pr.wide {a' b' : Nat} (h : Pr a b l m) (ha : a' ≤ a) (hb : b ≤ b') (hl : b' ≤ l.length) : Pr a' b' l m := by
  induction h with
  | refl => exact .refl _
  | step h hi hj hb2 ih => exact .step ih ⟨by omega, by omega⟩ ⟨by omega, by omega⟩ (by rw [ih.len]; exact hl)
theorem Pr.out (h : Pr a b l m) {i : Nat} (hi : i < a ∨ b ≤ i) : m.getD i 0 = l.getD i 0 := by
  induction h with
  | refl => rfl
  | step h h1 h2 hb ih => rw [swp_at _ (by omega) (by omega), if_neg (by omega), if_neg (by omega), ih]
/-- what holds of all in the range holds behind exchanges -/
theorem Pr.all (h : Pr a b l m) {p : Int → Prop} (hp : ∀ i, a ≤ i → i < b → p (l.getD i 0)) : ∀ i, a ≤ i → i < b → p (m.getD i 0) := by
  induction h with
  | refl => exact hp
  | step h h1 h2 hb ih =>
    intro i hi1 hi2
    rw [swp_at _ (by omega) (by omega)]
    split
    · exact ih _ h1.1 h1.2
    · split
      · exact ih _ h2.1 h2.2
      · exact ih _ hi1 hi2
/-- in order within a range -/
def In (l : List Int) (a b : Nat) : Prop := ∀ p q, a ≤ p → p < q → q < b → l.getD p 0 ≤ l.getD q 0
theorem In.tiny {l : List Int} {a b : Nat} (h : b ≤ a + 1) : In l a b := fun p q h1 h2 h3 => by omega
/-- one left of its place -/
def InBut (l : List Int) (a i j : Nat) : Prop := ∀ p q, a ≤ p → p < q → q ≤ i → q ≠ j → l.getD p 0 ≤ l.getD q 0
theorem InBut.start {l : List Int} {a i : Nat} (h : In l a i) : InBut l a i i := fun p q h1 h2 h3 h4 => h p q h1 h2 (by omega)
theorem InBut.step {l : List Int} {a i j : Nat} (h : InBut l a i (j + 1)) (hj : a ≤ j) (hji : j + 1 ≤ i) (hi : i < l.length) (hlt : l.getD (j + 1) 0 < l.getD j 0) : InBut (swp l (j + 1) j) a i j := by
  intro p q h1 h2 h3 h4
  have ep := swp_at l (i := j + 1) (j := j) (by omega) (by omega) p
  have eq := swp_at l (i := j + 1) (j := j) (by omega) (by omega) q
  rw [if_neg h4] at eq
  by_cases hq : q = j + 1
  · rw [if_pos hq] at eq
    by_cases hp : p = j
    · rw [if_pos hp] at ep
      rw [ep, eq]; omega
    · rw [if_neg hp, if_neg (by omega)] at ep
      rw [ep, eq]
      exact h p j h1 (by omega) (by omega) (by omega)
  · rw [if_neg hq] at eq
    by_cases hp : p = j
    · rw [if_pos hp] at ep
      rw [ep, eq]
      exact h (j + 1) q (by omega) (by omega) h3 (by omega)
    · rw [if_neg hp] at ep
      by_cases hp2 : p = j + 1
      · rw [if_pos hp2] at ep
        rw [ep, eq]
        exact h j q (by omega) (by omega) h3 (by omega)
      · rw [if_neg hp2] at ep
        rw [ep, eq]
        exact h p q h1 h2 h3 (by omega)
theorem InBut.stop {l : List Int} {a i j : Nat} (h : InBut l a i j) (hji : j ≤ i) (hs : j = a ∨ l.getD (j - 1) 0 ≤ l.getD j 0) : In l a (i + 1) := by
  intro p q h1 h2 h3
  by_cases hq : q = j
  · subst hq
    rcases hs with hs | hs
    · omega
    · by_cases hp : p = q - 1
      · rw [hp]; exact hs
      · exact Int.le_trans (h p (q - 1) h1 (by omega) (by omega) (by omega)) hs
  · exact h p q h1 h2 (by omega) hq
/-- a heap with the greatest on top, from f on -/
def Hpr (l : List Int) (f lo n : Nat) : Prop := ∀ k, 0 < k → k < n → lo ≤ (k - 1) / 2 → l.getD (f + k) 0 ≤ l.getD (f + (k - 1) / 2) 0
/-- .. but at i -/
structure Sd (l : List Int) (f lo n i : Nat) : Prop where
  h1 : ∀ k, 0 < k → k < n → lo ≤ (k - 1) / 2 → (k - 1) / 2 ≠ i → l.getD (f + k) 0 ≤ l.getD (f + (k - 1) / 2) 0
  h2 : 0 < i → lo ≤ (i - 1) / 2 → ∀ k, 0 < k → k < n → (k - 1) / 2 = i → l.getD (f + k) 0 ≤ l.getD (f + (i - 1) / 2) 0
theorem Sd.start {l : List Int} {f i n : Nat} (h : Hpr l f (i + 1) n) : Sd l f i n i :=
  ⟨fun k h0 hk hlo hne => h k h0 hk (by omega), fun h0 hlo => absurd hlo (by omega)⟩
theorem Sd.step {l : List Int} {f lo n i j : Nat} (h : Sd l f lo n i) (hj : (j - 1) / 2 = i) (hj0 : 0 < j) (hjn : j < n) (hf : f + n ≤ l.length)
    (hm : ∀ k, 0 < k → k < n → (k - 1) / 2 = i → l.getD (f + k) 0 ≤ l.getD (f + j) 0) (hlt : l.getD (f + i) 0 < l.getD (f + j) 0) : Sd (swp l (f + i) (f + j)) f lo n j := by
  have hs : ∀ k, k < n → (swp l (f + i) (f + j)).getD (f + k) 0 = if k = j then l.getD (f + i) 0 else if k = i then l.getD (f + j) 0 else l.getD (f + k) 0 := fun k hk => by
    rw [swp_at l (by omega) (by omega)]
    by_cases h1 : k = j
    · rw [if_pos (by omega), if_pos h1]
    · rw [if_neg (by omega), if_neg h1]
      by_cases h2 : k = i
      · rw [if_pos (by omega), if_pos h2]
      · rw [if_neg (by omega), if_neg h2]
  refine ⟨fun k h0 hk hlo hne => ?_, fun h0 hlo k hk0 hk hki => ?_⟩
  · have e1 := hs k hk
    have e2 := hs ((k - 1) / 2) (by omega)
    rw [if_neg hne] at e2
    by_cases hp : (k - 1) / 2 = i
    · rw [if_pos hp] at e2
      rw [e2, e1]
      by_cases hkj : k = j
      · rw [if_pos hkj]; omega
      · rw [if_neg hkj, if_neg (by omega)]
        exact hm k h0 hk hp
    · rw [if_neg hp] at e2
      rw [e2, e1]
      rw [if_neg (by omega)]
      by_cases hki : k = i
      · rw [if_pos hki]
        subst hki
        exact h.h2 h0 hlo j hj0 hjn hj
      · rw [if_neg hki]
        exact h.h1 k h0 hk hlo hp
  · have e1 := hs k hk
    have e2 := hs ((j - 1) / 2) (by omega)
    rw [if_neg (by omega), if_neg (by omega)] at e1
    rw [if_neg (by omega), if_pos hj] at e2
    rw [e1, e2]
    have := h.h1 k hk0 hk (by omega) (by omega)
    rw [hki] at this
    exact this
theorem Sd.stop {l : List Int} {f lo n i : Nat} (h : Sd l f lo n i) (hs : ∀ k, 0 < k → k < n → (k - 1) / 2 = i → l.getD (f + k) 0 ≤ l.getD (f + i) 0) : Hpr l f lo n := by
  intro k h0 hk hlo
  by_cases hp : (k - 1) / 2 = i
  · have := hs k h0 hk hp
    rw [hp]; exact this
  · exact h.h1 k h0 hk hlo hp
theorem Hpr.root {l : List Int} {f n : Nat} (h : Hpr l f 0 n) : ∀ k, k < n → l.getD (f + k) 0 ≤ l.getD f 0 := by
  intro k
  induction k using Nat.strongRecOn with
  | ind k ih =>
    intro hk
    by_cases h0 : k = 0
    · rw [h0]; exact Int.le_refl _
    · have h1 := h k (by omega) hk (Nat.zero_le _)
      have h2 := ih ((k - 1) / 2) (by omega) (by omega)
      omega
/-- the greatest ones taken off -/
structure Off (l : List Int) (f p n : Nat) : Prop where
  hp : Hpr l f 0 p
  so : ∀ x y, p ≤ x → x < y → y < n → l.getD (f + x) 0 ≤ l.getD (f + y) 0
  lo : ∀ x y, x < p → p ≤ y → y < n → l.getD (f + x) 0 ≤ l.getD (f + y) 0
theorem Off.all {l : List Int} {f n : Nat} (h : Off l f 0 n) : In l f (f + n) := by
  intro p q h1 h2 h3
  have := h.so (p - f) (q - f) (Nat.zero_le _) (by omega) (by omega)
  rwa [show f + (p - f) = p by omega, show f + (q - f) = q by omega] at this
/-- the root is exchanged with the last -/
theorem Off.swap {l : List Int} {f p n : Nat} (h : Off l f (p + 1) n) (hn : p < n) (hf : f + n ≤ l.length) : Sd (swp l f (f + p)) f 0 p 0 := by
  have hs : ∀ k, k < p → 0 < k → (swp l f (f + p)).getD (f + k) 0 = l.getD (f + k) 0 := fun k hk h0 => by
    rw [swp_at l (by omega) (by omega), if_neg (by omega), if_neg (by omega)]
  refine ⟨fun k h0 hk hlo hne => ?_, fun h0 => absurd h0 (by omega)⟩
  rw [hs k hk h0, hs ((k - 1) / 2) (by omega) (by omega)]
  exact h.hp k h0 (by omega) (Nat.zero_le _)
theorem Off.next {l m : List Int} {f p n : Nat} (h : Off l f (p + 1) n) (hn : p < n) (hf : f + n ≤ l.length) (hP : Pr f (f + p) (swp l f (f + p)) m) (hH : Hpr m f 0 p) : Off m f p n := by
  have hr := h.hp.root
  have hmax : m.getD (f + p) 0 = l.getD f 0 := by
    rw [hP.out (.inr (Nat.le_refl _)), swp_at l (by omega) (by omega), if_pos rfl]
  have hhi : ∀ k, p < k → m.getD (f + k) 0 = l.getD (f + k) 0 := fun k hk => by
    rw [hP.out (.inr (by omega)), swp_at l (by omega) (by omega), if_neg (by omega), if_neg (by omega)]
  have hlo : ∀ i, f ≤ i → i < f + p → ∃ k, k ≤ p ∧ m.getD i 0 = l.getD (f + k) 0 := by
    refine hP.all (p := fun z => ∃ k, k ≤ p ∧ z = l.getD (f + k) 0) fun i h1 h2 => ?_
    rw [swp_at l (by omega) (by omega), if_neg (by omega)]
    split
    · exact ⟨p, Nat.le_refl _, rfl⟩
    · exact ⟨i - f, by omega, by rw [show f + (i - f) = i by omega]⟩
  refine ⟨hH, fun x y h1 h2 h3 => ?_, fun x y h1 h2 h3 => ?_⟩
  · rw [hhi y (by omega)]
    by_cases hx : x = p
    · rw [hx, hmax]
      exact h.lo 0 y (by omega) (by omega) h3
    · rw [hhi x (by omega)]
      exact h.so x y (by omega) h2 h3
  · obtain ⟨k, hk, e⟩ := hlo (f + x) (by omega) (by omega)
    rw [e]
    by_cases hy : y = p
    · rw [hy, hmax]
      exact hr k (by omega)
    · rw [hhi y (by omega)]
      exact h.lo k y (by omega) (by omega) h3
/-- a range that is being parted: P holds of what lies left, Q of what lies right, by the one at a -/
structure Pt (P Q : Int → Int → Prop) (m : List Int) (a b i j : Nat) : Prop where
  ai : a < i
  ij : i ≤ j + 1
  jb : j < b
  le : ∀ k, a < k → k < i → P (m.getD k 0) (m.getD a 0)
  ri : ∀ k, j < k → k < b → Q (m.getD k 0) (m.getD a 0)
theorem Pt.swap {P Q : Int → Int → Prop} {m : List Int} {a b i j : Nat} (h : Pt P Q m a b i (j + 1)) (hij : i < j + 1) (hb : b ≤ m.length) (hp : P (m.getD (j + 1) 0) (m.getD a 0)) (hq : Q (m.getD i 0) (m.getD a 0)) : Pt P Q (swp m i (j + 1)) a b (i + 1) j := by
  have h1 := h.ai
  have h2 := h.jb
  have hs := fun k => swp_at m (i := i) (j := j + 1) (by omega) (by omega) k
  have ha : (swp m i (j + 1)).getD a 0 = m.getD a 0 := by rw [hs, if_neg (by omega), if_neg (by omega)]
  refine ⟨by omega, by omega, by omega, fun k k1 k2 => ?_, fun k k1 k2 => ?_⟩
  · rw [ha, hs, if_neg (by omega)]
    by_cases hk : k = i
    · rw [if_pos hk]; exact hp
    · rw [if_neg hk]; exact h.le k k1 (by omega)
  · rw [ha, hs]
    by_cases hk : k = j + 1
    · rw [if_pos hk]; exact hq
    · rw [if_neg hk, if_neg (by omega)]; exact h.ri k (by omega) k2
/-- the one at a comes between -/
theorem Pt.done {m : List Int} {a b i j : Nat} (h : Pt (· < ·) (fun x y => y ≤ x) m a b i j) (hij : j < i) (hb : b ≤ m.length) :
    (∀ k, a ≤ k → k < j → (swp m j a).getD k 0 < (swp m j a).getD j 0) ∧ ∀ k, j < k → k < b → (swp m j a).getD j 0 ≤ (swp m j a).getD k 0 := by
  have h1 := h.ai
  have h2 := h.jb
  have h3 := h.ij
  have hs := fun k => swp_at m (i := j) (j := a) (by omega) (by omega) k
  have hj : (swp m j a).getD j 0 = m.getD a 0 := by
    rw [hs]
    by_cases e : j = a
    · rw [if_pos e, e]
    · rw [if_neg e, if_pos rfl]
  refine ⟨fun k k1 k2 => ?_, fun k k1 k2 => ?_⟩
  · rw [hj, hs]
    by_cases e : k = a
    · rw [if_pos e]
      exact h.le j (by omega) hij
    · rw [if_neg e, if_neg (by omega)]
      exact h.le k (by omega) (by omega)
  · rw [hj, hs, if_neg (by omega), if_neg (by omega)]
    exact h.ri k k1 k2
theorem In.same {l m : List Int} {a i : Nat} (h : In l a i) (hs : ∀ k, k < i → m.getD k 0 = l.getD k 0) : In m a i := fun p q h1 h2 h3 => by
  rw [hs p (by omega), hs q h3]
  exact h p q h1 h2 h3
theorem In.but {l : List Int} {a i : Nat} (h : In l a (i + 1)) (hi : i + 1 < l.length) : InBut (swp l (i + 1) i) a i i := fun p q h1 h2 h3 h4 => by
  rw [swp_at l (by omega) (by omega), swp_at l (by omega) (by omega), if_neg (by omega), if_neg (by omega), if_neg (by omega), if_neg (by omega)]
  exact h p q h1 h2 (by omega)
/-- what lies ahead of a range is no greater -/
def Lo (l : List Int) (a b : Nat) : Prop := 0 < a → ∀ k, a ≤ k → k < b → l.getD (a - 1) 0 ≤ l.getD k 0
theorem Lo.keep {l m : List Int} {a b : Nat} (h : Lo l a b) (hp : Pr a b l m) : Lo m a b := fun h0 => by
  rw [hp.out (.inl (by omega))]
  exact hp.all (p := fun z => l.getD (a - 1) 0 ≤ z) (h h0)
theorem In.join {m : List Int} {a q b : Nat} (h1 : In m a q) (h2 : In m (q + 1) b) (hl : ∀ k, a ≤ k → k < q → m.getD k 0 ≤ m.getD q 0) (hr : ∀ k, q < k → k < b → m.getD q 0 ≤ m.getD k 0) : In m a b := by
  intro x y k1 k2 k3
  rcases Nat.lt_trichotomy y q with h | h | h
  · exact h1 x y k1 k2 h
  · subst h; exact hl x k1 k2
  · rcases Nat.lt_trichotomy x q with h' | h' | h'
    · exact Int.le_trans (hl x k1 h') (hr y h k3)
    · subst h'; exact hr y h k3
    · exact h2 x y (by omega) k2 k3
/-- the left part is in order: what is left is the right one -/
theorem rest_right {m1 m2 : List Int} {a q b : Nat} (haq : a ≤ q) (hl : ∀ k, a ≤ k → k < q → m1.getD k 0 < m1.getD q 0) (hr : ∀ k, q < k → k < b → m1.getD q 0 ≤ m1.getD k 0) (hP : Pr a q m1 m2) (hI : In m2 a q) :
    Lo m2 (q + 1) b ∧ ∀ m3, Pr (q + 1) b m2 m3 → In m3 (q + 1) b → In m3 a b := by
  have e0 : m2.getD q 0 = m1.getD q 0 := hP.out (.inr (Nat.le_refl _))
  have hl2 := hP.all (p := fun z => z < m1.getD q 0) hl
  have hr2 : ∀ k, q < k → k < b → m2.getD q 0 ≤ m2.getD k 0 := fun k k1 k2 => by rw [e0, hP.out (.inr (by omega))]; exact hr k k1 k2
  refine ⟨fun _ k k1 k2 => by rw [Nat.add_sub_cancel]; exact hr2 k (by omega) k2, fun m3 hP3 hI3 => ?_⟩
  have hs : ∀ k, k < q + 1 → m3.getD k 0 = m2.getD k 0 := fun k hk => hP3.out (.inl hk)
  refine In.join (hI.same fun k hk => hs k (by omega)) hI3 (fun k k1 k2 => ?_) (fun k k1 k2 => ?_)
  · rw [hs k (by omega), hs q (by omega), e0]
    exact Int.le_of_lt (hl2 k k1 k2)
  · rw [hs q (by omega)]
    exact hP3.all (p := fun z => m2.getD q 0 ≤ z) (fun k k1 k2 => hr2 k (by omega) k2) k k1 k2
/-- the right part is in order: what is left is the left one -/
theorem rest_left {m1 m2 : List Int} {a q b : Nat} (haq : a ≤ q) (hl : ∀ k, a ≤ k → k < q → m1.getD k 0 < m1.getD q 0) (hr : ∀ k, q < k → k < b → m1.getD q 0 ≤ m1.getD k 0) (hLo : Lo m1 a b) (hqb : q < b) (hP : Pr (q + 1) b m1 m2) (hI : In m2 (q + 1) b) :
    Lo m2 a q ∧ ∀ m3, Pr a q m2 m3 → In m3 a q → In m3 a b := by
  have hs1 : ∀ k, k < q + 1 → m2.getD k 0 = m1.getD k 0 := fun k hk => hP.out (.inl hk)
  have hr2 := hP.all (p := fun z => m1.getD q 0 ≤ z) (fun k k1 k2 => hr k (by omega) k2)
  refine ⟨fun h0 k k1 k2 => by rw [hs1 _ (by omega), hs1 k (by omega)]; exact hLo h0 k k1 (by omega), fun m3 hP3 hI3 => ?_⟩
  have hs : ∀ k, q ≤ k → m3.getD k 0 = m2.getD k 0 := fun k hk => hP3.out (.inr hk)
  have hI4 : In m3 (q + 1) b := fun x y k1 k2 k3 => by rw [hs x (by omega), hs y (by omega)]; exact hI x y k1 k2 k3
  refine In.join hI3 hI4 (fun k k1 k2 => ?_) (fun k k1 k2 => ?_)
  · rw [hs q (Nat.le_refl _), hs1 q (by omega)]
    exact hP3.all (p := fun z => z ≤ m1.getD q 0) (fun k k1 k2 => by rw [hs1 k (by omega)]; exact Int.le_of_lt (hl k k1 k2)) k k1 k2
  · rw [hs q (Nat.le_refl _), hs k (by omega), hs1 q (by omega)]
    exact hr2 k (by omega) k2
/-- the equal ones lie ahead -/
theorem rest_eq {m1 : List Int} {a q b : Nat} {v : Int} (haq : a < q) (hl : ∀ k, a ≤ k → k < q → m1.getD k 0 ≤ v) (hr : ∀ k, q ≤ k → k < b → v < m1.getD k 0) (hv : ∀ k, a ≤ k → k < b → v ≤ m1.getD k 0) (hqb : q ≤ b) :
    Lo m1 q b ∧ ∀ m3, Pr q b m1 m3 → In m3 q b → In m3 a b := by
  refine ⟨fun _ k k1 k2 => ?_, fun m3 hP3 hI3 => ?_⟩
  · have h1 := hl (q - 1) (by omega) (by omega)
    have h2 := hr k k1 k2
    omega
  · have hs : ∀ k, k < q → m3.getD k 0 = m1.getD k 0 := fun k hk => hP3.out (.inl hk)
    have h2 := hP3.all (p := fun z => v < z) hr
    intro x y k1 k2 k3
    rcases Nat.lt_or_ge y q with h | h
    · rw [hs x (by omega), hs y h]
      have e1 := hl x k1 (by omega)
      have e2 := hv y (by omega) (by omega)
      omega
    · rcases Nat.lt_or_ge x q with h' | h'
      · rw [hs x h']
        have e1 := hl x k1 h'
        have e2 := h2 y h k3
        omega
      · exact hI3 x y h' k2 k3
end Srt
end Go.Proofs.Ytlipeplfjkgamaa
