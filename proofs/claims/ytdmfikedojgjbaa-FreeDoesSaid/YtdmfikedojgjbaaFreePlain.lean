/-
  Free pages, in plain mathematics: the heap of those that are free; what asks come to.
-/
import Derived.Test.YtdmfikedojgjbaaHeapPlain
namespace Go.Proofs.Ytdmfikedojgjbaa
set_option linter.unusedVariables false
/-- the pages below i of a kind -/
def fK (q : Int) (ks : List Int) (i : Nat) : List Int := ((List.range i).filter fun p => decide (ks.getD p 0 = q)).map fun p : Nat => (p : Int)
theorem fK_succ (q : Int) (ks : List Int) (i : Nat) : fK q ks (i + 1) = fK q ks i ++ if ks.getD i 0 = q then [(i : Int)] else [] := by
  unfold fK
  rw [List.range_succ, List.filter_append, List.map_append]
  congr 1
  by_cases h : ks.getD i 0 = q <;> simp only [List.filter_cons, List.filter_nil, h, decide_true, decide_false, if_true, if_false, List.map_cons, List.map_nil] <;> rfl
theorem fK_mem {q : Int} {ks : List Int} {i : Nat} {x : Int} : x ∈ fK q ks i ↔ ∃ p : Nat, p < i ∧ ks.getD p 0 = q ∧ x = (p : Int) := by
  simp only [fK, List.mem_map, List.mem_filter, List.mem_range, decide_eq_true_eq]
  constructor
  · rintro ⟨p, ⟨h1, h2⟩, h3⟩
    exact ⟨p, h1, h2, h3.symm⟩
  · rintro ⟨p, h1, h2, h3⟩
    exact ⟨p, ⟨h1, h2⟩, h3.symm⟩
theorem fK_congr {q : Int} {ks ks' : List Int} {i : Nat} (h : ∀ p, p < i → ks.getD p 0 = ks'.getD p 0) : fK q ks i = fK q ks' i := by
  unfold fK
  congr 1
  apply List.filter_congr
  intro p hp
  rw [h p (List.mem_range.1 hp)]
theorem fK_len (q : Int) (ks : List Int) (i : Nat) : (fK q ks i).length ≤ i := by
  unfold fK
  rw [List.length_map]
  exact Nat.le_trans (List.length_filter_le _ _) (by simp)
/-- a page comes off -/
theorem fK_set {q x : Int} {ks : List Int} {p : Nat} (hp : p < ks.length) (hq : ks.getD p 0 = q) (hx : x ≠ q) : ∀ n, p < n → (fK q ks n).Perm ((p : Int) :: fK q (ks.set p x) n)
  | 0, h => absurd h (Nat.not_lt_zero _)
  | n + 1, h => by
    rw [fK_succ, fK_succ]
    by_cases e : p = n
    · subst e
      rw [if_pos hq, getD_set ks p p x hp, if_pos rfl, if_neg hx, List.append_nil]
      have e2 : fK q (ks.set p x) p = fK q ks p := fK_congr (fun i hi => by rw [getD_set ks p i x hp, if_neg (by omega)])
      rw [e2]
      exact List.perm_append_singleton _ _
    · rw [getD_set ks p n x hp, if_neg e]
      exact (fK_set hp hq hx n (by omega)).append_right _
theorem fK_cons_len (q : Int) (ks : List Int) : ∀ i, (fK q ks i).Pairwise (· < ·)
  | 0 => by simp [fK]
  | i + 1 => by
    rw [fK_succ]
    split
    · refine List.pairwise_append.2 ⟨fK_cons_len q ks i, by simp, fun a ha b hb => ?_⟩
      obtain ⟨p, hp, _, rfl⟩ := fK_mem.1 ha
      obtain rfl : b = (i : Int) := by simpa using hb
      omega
    · rw [List.append_nil]
      exact fK_cons_len q ks i
/-- the heap holds what is free -/
structure Fre (ks fr : List Int) : Prop where
  perm : fr.Perm (fK 0 ks ks.length)
  heap : Heap 0 fr.length fr
theorem Fre.len {ks fr : List Int} (h : Fre ks fr) : fr.length = (fK 0 ks ks.length).length := h.perm.length_eq
theorem Fre.len_le {ks fr : List Int} (h : Fre ks fr) : fr.length ≤ ks.length := by rw [h.len]; exact fK_len _ _ _
/-- all gathered -/
theorem Fre.gather (ks : List Int) : Fre ks (initH (fK 0 ks ks.length) ((fK 0 ks ks.length).length / 2)) :=
  ⟨initH_perm _ _, by
    rw [initH_length]
    exact initH_heap _ _ (fun k h0 h1 h2 => by omega)⟩
/-- the root is the first free page -/
theorem Fre.root {ks fr : List Int} (h : Fre ks fr) {p : Nat} (hp : p < ks.length) (h0 : ks.getD p 0 = 0) (hf : ∀ j, j < p → ks.getD j 0 ≠ 0) : 0 < fr.length ∧ fr.getD 0 0 = (p : Int) := by
  have hm : (p : Int) ∈ fr := h.perm.mem_iff.2 (fK_mem.2 ⟨p, hp, h0, rfl⟩)
  have hpos : 0 < fr.length := List.length_pos_of_mem hm
  refine ⟨hpos, ?_⟩
  obtain ⟨k, hk, e⟩ := List.getElem_of_mem hm
  have h1 := heap_root h.heap k hk
  have e1 : fr.getD k 0 = (p : Int) := by simp [List.getD, hk, e]
  have hr : fr.getD 0 0 ∈ fr := by
    have : fr.getD 0 0 = fr[0] := by simp [List.getD, hpos]
    rw [this]
    exact List.getElem_mem hpos
  obtain ⟨r, hr1, hr2, hr3⟩ := fK_mem.1 (h.perm.mem_iff.1 hr)
  have : p ≤ r := by
    apply Decidable.byContradiction
    intro hn
    exact hf r (by omega) hr2
  omega
theorem Fre.none_ {ks fr : List Int} (h : Fre ks fr) (hf : ∀ j, j < ks.length → ks.getD j 0 ≠ 0) : fr.length = 0 := by
  rw [h.len]
  cases hc : fK 0 ks ks.length with
  | nil => rfl
  | cons a l =>
    obtain ⟨p, h1, h2, _⟩ := fK_mem.1 (show a ∈ fK 0 ks ks.length by rw [hc]; simp)
    exact absurd h2 (hf p h1)
/-- the root comes off -/
theorem Fre.take_ {ks fr : List Int} (h : Fre ks fr) (hpos : 0 < fr.length) {p : Nat} (hp : p < ks.length) (h0 : ks.getD p 0 = 0) (hr : fr.getD 0 0 = (p : Int)) {x : Int} (hx : x ≠ 0) :
    Fre (ks.set p x) ((siftD fr.length (swp fr 0 (fr.length - 1)) 0 (fr.length - 1)).take (fr.length - 1)) := by
  have hl : (siftD fr.length (swp fr 0 (fr.length - 1)) 0 (fr.length - 1)).length = fr.length := by rw [siftD_length, swp_length]
  have hpm : (siftD fr.length (swp fr 0 (fr.length - 1)) 0 (fr.length - 1)).Perm fr := (siftD_perm _ _ _ _ (by rw [swp_length]; omega)).trans (swp_perm fr hpos (by omega))
  have hlast : (siftD fr.length (swp fr 0 (fr.length - 1)) 0 (fr.length - 1)).getD (fr.length - 1) 0 = (p : Int) := by
    rw [siftD_past _ _ _ _ (by rw [swp_length]; omega) _ (Nat.le_refl _), swp_at fr hpos (by omega), if_pos rfl, hr]
  have hheap : Heap 0 (fr.length - 1) (siftD fr.length (swp fr 0 (fr.length - 1)) 0 (fr.length - 1)) := by
    refine siftD_heap _ _ _ _ _ (by rw [swp_length]; omega) (by omega) (fun k hk0 hkn _ hne => ?_) (fun h0 => absurd h0 (by omega))
    rw [swp_at fr hpos (by omega), swp_at fr hpos (by omega), if_neg (by omega), if_neg hne, if_neg (by omega), if_neg (by omega)]
    exact h.heap k hk0 (by omega) (Nat.zero_le _)
  generalize siftD fr.length (swp fr 0 (fr.length - 1)) 0 (fr.length - 1) = F at *
  have e : F = F.take (fr.length - 1) ++ [(p : Int)] := by
    conv => lhs; rw [← List.take_append_drop (fr.length - 1) F]
    congr 1
    rw [List.drop_eq_getElem_cons (by omega), List.drop_eq_nil_of_le (by omega)]
    congr 1
    rw [← hlast]
    simp [List.getD, show fr.length - 1 < F.length by omega]
  refine ⟨?_, ?_⟩
  · have e1 : ((p : Int) :: F.take (fr.length - 1)).Perm ((p : Int) :: fK 0 (ks.set p x) ks.length) := by
      refine (List.perm_append_singleton _ _).symm.trans ?_
      rw [← e]
      exact hpm.trans (h.perm.trans (fK_set hp h0 hx _ hp))
    rw [List.length_set]
    exact (List.perm_cons _).1 e1
  · intro k hk0 hkn hlo
    simp only [List.length_take] at hkn
    have := hheap k hk0 (by omega) hlo
    have t : ∀ j, j < fr.length - 1 → (F.take (fr.length - 1)).getD j 0 = F.getD j 0 := fun j hj => by
      simp only [List.getD, List.getElem?_take, if_pos hj]
    rw [t _ (by omega), t _ (by omega)]
    exact this
/-- one more is free -/
theorem Fre.push_ {ks fr : List Int} (h : Fre ks fr) {p : Nat} (hp : p < ks.length) (h0 : ks.getD p 0 ≠ 0) : Fre (ks.set p 0) (siftU (fr.length + 1) (fr ++ [(p : Int)]) fr.length) := by
  have hl : (fr ++ [(p : Int)]).length = fr.length + 1 := by simp
  have hat : ∀ k, k < fr.length → (fr ++ [(p : Int)]).getD k 0 = fr.getD k 0 := fun k hk => by simp only [List.getD, List.getElem?_append_left hk]
  refine ⟨?_, ?_⟩
  · refine (siftU_perm _ _ _ (by omega)).trans ((List.perm_append_singleton _ _).trans ?_)
    have h1 : (ks.set p 0).getD p 0 = 0 := by rw [getD_set ks p p 0 hp, if_pos rfl]
    have h2 := fK_set (q := 0) (x := ks.getD p 0) (ks := ks.set p 0) (p := p) (by simpa using hp) h1 h0 ks.length hp
    have h3 : (ks.set p 0).set p (ks.getD p 0) = ks := by
      rw [List.set_set]
      apply List.ext_getElem?
      intro i
      rw [List.getElem?_set]
      split
      · rename_i hi
        subst hi
        simp [List.getD, hp]
      · rfl
    rw [h3] at h2
    rw [List.length_set]
    exact (h.perm.cons _).trans h2.symm
  · rw [siftU_length, ]
    refine siftU_heap _ _ _ (by omega) (by omega) (fun k hk0 hkn hne => ?_) (fun hj0 k hk0 hkn hp => ?_)
    · rw [hl] at hkn
      rw [hat _ (by omega), hat _ (by omega)]
      exact h.heap k hk0 (by omega) (Nat.zero_le _)
    · rw [hl] at hkn
      omega
/-! ### what asks come to: kinds of pages from 1 on -/
def kdO (R : List Int) (p : Int) : Int := if p < 1 ∨ (R.length : Int) < p then -1 else R.getD (p.toNat - 1) 0
theorem kdO_ks (R : List Int) (p : Int) : kdO R p = if p < 1 ∨ ((-1 :: R).length : Int) ≤ p then -1 else (-1 :: R).getD p.toNat 0 := by
  unfold kdO
  by_cases h : p < 1 ∨ (R.length : Int) < p
  · rw [if_pos h, if_pos (by simp only [List.length_cons]; omega)]
  · rw [if_neg h, if_neg (by simp only [List.length_cons]; omega)]
    obtain ⟨q, hq⟩ : ∃ q, p.toNat = q + 1 := ⟨p.toNat - 1, by omega⟩
    rw [hq]
    rfl
def mark (R : List Int) (live : List Int) : List Int := live.foldl (fun R p => R.set (p.toNat - 1) 1) R
theorem mark_length (R : List Int) (live : List Int) : (mark R live).length = R.length := by
  unfold mark
  induction live generalizing R with
  | nil => rfl
  | cons a l ih => rw [List.foldl_cons, ih, List.length_set]
theorem mark_take (R live : List Int) {i : Nat} (hi : i < live.length) : mark R (live.take (i + 1)) = (mark R (live.take i)).set ((live.getD i 0).toNat - 1) 1 := by
  unfold mark
  rw [List.take_add_one, List.getElem?_eq_getElem hi, List.foldl_append]
  simp [List.getD, hi]
/-- the pages are there -/
def there (R : List Int) (live : List Int) : Prop := ∀ p ∈ live, 1 ≤ p ∧ p ≤ (R.length : Int)
def dropR (R : List Int) : List Int := R.map fun k => if k = 2 then 0 else k
/-- the first free page -/
def ffree : List Int → Nat
  | [] => 0
  | k :: R => if k = 0 then 0 else ffree R + 1
theorem ffree_le : ∀ R : List Int, ffree R ≤ R.length
  | [] => Nat.le_refl _
  | k :: R => by
    unfold ffree
    have := ffree_le R
    split <;> simp <;> omega
theorem ffree_lt : ∀ {R : List Int} {j : Nat}, j < ffree R → R.getD j 0 ≠ 0
  | [], j, h => absurd h (by simp [ffree])
  | k :: R, j, h => by
    unfold ffree at h
    split at h
    · omega
    · rename_i hk
      cases j with
      | zero => exact hk
      | succ j => exact ffree_lt (R := R) (by omega)
theorem ffree_at : ∀ {R : List Int}, ffree R < R.length → R.getD (ffree R) 0 = 0
  | [], h => absurd h (by simp [ffree])
  | k :: R, h => by
    unfold ffree at h ⊢
    split at h
    · rename_i hk
      rw [if_pos hk, hk]
      rfl
    · rename_i hk
      rw [if_neg hk]
      exact ffree_at (R := R) (by simpa using h)
/-- the first is found by going through -/
theorem ffree_eq {R : List Int} {i : Nat} (hi : i < R.length) (h0 : R.getD i 0 = 0) (hf : ∀ j, j < i → R.getD j 0 ≠ 0) : ffree R = i := by
  rcases Nat.lt_trichotomy (ffree R) i with h | h | h
  · exact absurd (ffree_at (by omega)) (hf _ h)
  · exact h
  · exact absurd h0 (ffree_lt h)
theorem ffree_none {R : List Int} (hf : ∀ j, j < R.length → R.getD j 0 ≠ 0) : ffree R = R.length := by
  have := ffree_le R
  apply Decidable.byContradiction
  intro h
  exact hf _ (by omega) (ffree_at (by omega))
def okLive (R live : List Int) : Bool := live.all fun p => decide (1 ≤ p) && decide (p ≤ (R.length : Int)) && !decide (R.getD (p.toNat - 1) 0 = 0)
def doF (R : List Int) (a : Int) (live : List Int) : List Int × Int × Int :=
  if a = 0 then (if ffree R < R.length then (R.set (ffree R) 2, ((ffree R : Nat) : Int) + 1, 0) else (R, 0, 12))
  else if a = 2 then (dropR R, 0, 0)
  else if okLive R live = true then (mark (List.replicate R.length 0) live, 0, 0) else (R, 0, 11)
def allThere (n : Nat) (live : List Int) : Bool := live.all fun p => decide (1 ≤ p) && decide (p ≤ (n : Int))
/-- kinds are 0, 1, 2 -/
def Kds (R : List Int) : Prop := ∀ k ∈ R, 0 ≤ k ∧ k ≤ 2
theorem Kds.at {R : List Int} (h : Kds R) (i : Nat) : 0 ≤ R.getD i 0 ∧ R.getD i 0 ≤ 2 := by
  by_cases hi : i < R.length
  · have e : R.getD i 0 = R[i] := by simp [List.getD, hi]
    rw [e]
    exact h _ (List.getElem_mem hi)
  · rw [List.getD, List.getElem?_eq_none (by omega)]
    decide
theorem Kds.set {R : List Int} (h : Kds R) (i : Nat) {x : Int} (hx : 0 ≤ x ∧ x ≤ 2) : Kds (R.set i x) := by
  intro k hk
  rcases List.mem_or_eq_of_mem_set hk with hk | hk
  · exact h k hk
  · rw [hk]; exact hx
theorem Kds.mark {R : List Int} (h : Kds R) (live : List Int) : Kds (mark R live) := by
  unfold Go.Proofs.Ytdmfikedojgjbaa.mark
  induction live generalizing R with
  | nil => exact h
  | cons a l ih => exact ih (h.set _ (by decide))
theorem Kds.rep (n : Nat) : Kds (List.replicate n 0) := by
  intro k hk
  rw [(List.mem_replicate.1 hk).2]
  decide
theorem Kds.drop {R : List Int} (h : Kds R) : Kds (dropR R) := by
  intro k hk
  obtain ⟨j, hj, rfl⟩ := List.mem_map.1 hk
  have := h j hj
  split <;> omega
theorem getE {l : List Int} {i : Nat} (h : i < l.length) : l[i]? = some (l.getD i 0) := by
  rw [List.getElem?_eq_getElem h]
  simp [List.getD, h]
/-! ### on the kinds as the program has them, from 0 on -/
def dropK (ks L : List Int) : List Int := L.foldl (fun ks p => ks.set p.toNat 0) ks
theorem dropK_length (ks L : List Int) : (dropK ks L).length = ks.length := by
  unfold dropK
  induction L generalizing ks with
  | nil => rfl
  | cons a l ih => rw [List.foldl_cons, ih, List.length_set]
theorem dropK_at (ks L : List Int) (hL : ∀ x ∈ L, 0 ≤ x) (p : Nat) (hp : p < ks.length) : (dropK ks L).getD p 0 = if (p : Int) ∈ L then 0 else ks.getD p 0 := by
  unfold dropK
  induction L generalizing ks with
  | nil => simp
  | cons a l ih =>
    rw [List.foldl_cons, ih _ (fun x hx => hL x (by simp [hx])) (by simpa using hp)]
    have ha := hL a (by simp)
    by_cases hl : (p : Int) ∈ l
    · rw [if_pos hl, if_pos (by simp [hl])]
    · rw [if_neg hl]
      by_cases hpa : (p : Int) = a
      · rw [if_pos (by simp [hpa]), getD_set ks a.toNat p 0 (by omega), if_pos (by omega)]
      · rw [if_neg (by simp [hpa, hl])]
        by_cases hal : a.toNat < ks.length
        · rw [getD_set ks a.toNat p 0 hal, if_neg (by omega)]
        · rw [List.set_eq_of_length_le (by omega)]
theorem dropK_take (ks L : List Int) {i : Nat} (hi : i < L.length) : dropK ks (L.take (i + 1)) = (dropK ks (L.take i)).set (L.getD i 0).toNat 0 := by
  unfold dropK
  rw [List.take_add_one, List.getElem?_eq_getElem hi, List.foldl_append]
  simp [List.getD, hi]
theorem dropK_all (R : List Int) : dropK (-1 :: R) (fK 2 (-1 :: R) (-1 :: R).length) = -1 :: dropR R := by
  apply List.ext_getElem?
  intro p
  by_cases hp : p < (-1 :: R).length
  · have h1 : p < (dropK (-1 :: R) (fK 2 (-1 :: R) (-1 :: R).length)).length := by rw [dropK_length]; exact hp
    have h2 : p < (-1 :: dropR R).length := by simpa [dropR] using hp
    have h3 := dropK_at (-1 :: R) (fK 2 (-1 :: R) (-1 :: R).length) (fun x hx => by obtain ⟨q, _, _, rfl⟩ := fK_mem.1 hx; omega) p hp
    have e1 : (dropK (-1 :: R) (fK 2 (-1 :: R) (-1 :: R).length))[p]? = some ((dropK (-1 :: R) (fK 2 (-1 :: R) (-1 :: R).length)).getD p 0) := getE h1
    rw [e1, h3]
    cases p with
    | zero =>
      rw [if_neg (fun hm => by obtain ⟨q, _, h5, h6⟩ := fK_mem.1 hm; obtain rfl : q = 0 := (by omega); exact absurd (show (-1 : Int) = 2 from h5) (by decide))]
      rfl
    | succ p =>
      have hpR : p < R.length := by simpa using hp
      have e2 : (-1 :: R).getD (p + 1) 0 = R[p] := by simp [List.getD, hpR]
      have e3 : (-1 :: dropR R)[p + 1]? = some (if R[p] = 2 then 0 else R[p]) := by simp [dropR, hpR]
      rw [e3, e2]
      congr 1
      by_cases h2 : R[p] = 2
      · rw [if_pos h2, if_pos (fK_mem.2 ⟨p + 1, hp, by rw [e2]; exact h2, rfl⟩)]
      · rw [if_neg h2, if_neg (fun hm => by
          obtain ⟨q, _, h5, h6⟩ := fK_mem.1 hm
          obtain rfl : q = p + 1 := by omega
          rw [e2] at h5
          exact h2 h5)]
  · rw [List.getElem?_eq_none (by rw [dropK_length]; omega), List.getElem?_eq_none (by simp only [dropR, List.length_cons, List.length_map] at hp ⊢; omega)]
/-- all pages but the first emptied -/
def zk (ks : List Int) : Nat → List Int
  | 0 => ks
  | i + 1 => if 0 < i then (zk ks i).set i 0 else zk ks i
theorem zk_length (ks : List Int) : ∀ i, (zk ks i).length = ks.length
  | 0 => rfl
  | i + 1 => by
    unfold zk
    split
    · rw [List.length_set, zk_length ks i]
    · exact zk_length ks i
theorem zk_at (ks : List Int) (p : Nat) (hp : p < ks.length) : ∀ i, (zk ks i).getD p 0 = if 0 < p ∧ p < i then 0 else ks.getD p 0
  | 0 => by rw [if_neg (by omega)]; rfl
  | i + 1 => by
    unfold zk
    split
    · rename_i h0
      by_cases hi : i < ks.length
      · rw [getD_set _ _ _ _ (by rw [zk_length]; exact hi), zk_at ks p hp i]
        by_cases e : i = p
        · rw [if_pos e, if_pos (by omega)]
        · rw [if_neg e]
          by_cases h1 : 0 < p ∧ p < i
          · rw [if_pos h1, if_pos (by omega)]
          · rw [if_neg h1, if_neg (by omega)]
      · rw [List.set_eq_of_length_le (by rw [zk_length]; omega), zk_at ks p hp i]
        by_cases h1 : 0 < p
        · rw [if_pos ⟨h1, by omega⟩, if_pos ⟨h1, by omega⟩]
        · rw [if_neg (by omega), if_neg (by omega)]
    · rw [zk_at ks p hp i, if_neg (by omega), if_neg (by omega)]
theorem zk_all (R : List Int) : zk (-1 :: R) (-1 :: R).length = -1 :: List.replicate R.length 0 := by
  apply List.ext_getElem?
  intro p
  by_cases hp : p < (-1 :: R).length
  · have h1 : p < (zk (-1 :: R) (-1 :: R).length).length := by rw [zk_length]; exact hp
    have e1 : (zk (-1 :: R) (-1 :: R).length)[p]? = some ((zk (-1 :: R) (-1 :: R).length).getD p 0) := getE h1
    rw [e1, zk_at _ _ hp]
    cases p with
    | zero => rw [if_neg (by omega)]; rfl
    | succ p =>
      rw [if_pos ⟨by omega, hp⟩]
      have : p < R.length := by simpa using hp
      simp [this]
  · rw [List.getElem?_eq_none (by rw [zk_length]; omega), List.getElem?_eq_none (by simp only [List.length_cons, List.length_replicate] at hp ⊢; omega)]
def markK (ks live : List Int) : List Int := live.foldl (fun ks p => ks.set p.toNat 1) ks
theorem markK_length (ks live : List Int) : (markK ks live).length = ks.length := by
  unfold markK
  induction live generalizing ks with
  | nil => rfl
  | cons a l ih => rw [List.foldl_cons, ih, List.length_set]
theorem markK_take (ks live : List Int) {i : Nat} (hi : i < live.length) : markK ks (live.take (i + 1)) = (markK ks (live.take i)).set (live.getD i 0).toNat 1 := by
  unfold markK
  rw [List.take_add_one, List.getElem?_eq_getElem hi, List.foldl_append]
  simp [List.getD, hi]
theorem markK_cons (R live : List Int) (h : ∀ p ∈ live, 1 ≤ p) : markK (-1 :: R) live = -1 :: mark R live := by
  unfold markK mark
  induction live generalizing R with
  | nil => rfl
  | cons a l ih =>
    have ha := h a (by simp)
    obtain ⟨q, hq⟩ : ∃ q, a.toNat = q + 1 := ⟨a.toNat - 1, by omega⟩
    rw [List.foldl_cons, List.foldl_cons, hq, List.set_cons_succ, show q + 1 - 1 = q by omega]
    exact ih _ (fun p hp => h p (by simp [hp]))
/-! ### for the reference -/
def dpI (R : List Int) (i : Nat) : List Int := dropR (R.take i) ++ R.drop i
theorem dpI_length (R : List Int) (i : Nat) : (dpI R i).length = R.length := by simp [dpI, dropR]; omega
theorem dpI_all (R : List Int) : dpI R R.length = dropR R := by simp [dpI]
theorem dpI_at (R : List Int) {i : Nat} (hi : i < R.length) : (dpI R i).getD i 0 = R.getD i 0 := by
  have h1 : (dropR (R.take i)).length = i := by simp [dropR]; omega
  simp only [dpI, List.getD]
  rw [List.getElem?_append_right (by omega), h1, Nat.sub_self, List.getElem?_drop, Nat.add_zero]
theorem dpI_succ (R : List Int) {i : Nat} (hi : i < R.length) : dpI R (i + 1) = if R.getD i 0 = 2 then (dpI R i).set i 0 else dpI R i := by
  have h1 : (dropR (R.take i)).length = i := by simp [dropR]; omega
  have e1 : R.getD i 0 = R[i] := by simp [List.getD, hi]
  have e2 : dpI R (i + 1) = dropR (R.take i) ++ (if R[i] = 2 then 0 else R[i]) :: R.drop (i + 1) := by
    unfold dpI dropR
    rw [List.take_add_one, List.getElem?_eq_getElem hi, List.map_append, List.append_assoc]
    rfl
  have e3 : dpI R i = dropR (R.take i) ++ R[i] :: R.drop (i + 1) := by
    unfold dpI
    rw [List.drop_eq_getElem_cons hi]
  rw [e2, e3, e1]
  split
  · rw [List.set_append_right _ _ (by omega), h1, Nat.sub_self, List.set_cons_zero]
  · rfl
theorem fK_shift (q a : Int) (R : List Int) (n : Nat) (ha : a ≠ q) : (fK q (a :: R) (n + 1)).length = (fK q R n).length := by
  induction n with
  | zero => rw [fK_succ, if_neg (show ¬ (a :: R).getD 0 0 = q from ha)]; rfl
  | succ n ih =>
    rw [fK_succ q (a :: R) (n + 1), fK_succ q R n, List.length_append, List.length_append, ih]
    congr 1
    have e : (a :: R).getD (n + 1) 0 = R.getD n 0 := rfl
    rw [e]
    split <;> rfl
theorem fK_pre (q : Int) (ks : List Int) {p : Nat} : ∀ {n : Nat}, p ≤ n → ∃ r, fK q ks n = fK q ks p ++ r
  | 0, h => by obtain rfl : p = 0 := by omega
               exact ⟨[], by simp⟩
  | n + 1, h => by
    rcases Nat.lt_or_ge n p with h1 | h1
    · obtain rfl : p = n + 1 := by omega
      exact ⟨[], by simp⟩
    · obtain ⟨r, hr⟩ := fK_pre q ks h1
      rw [fK_succ, hr]
      exact ⟨_, List.append_assoc _ _ _⟩
theorem fK_at {q : Int} {ks : List Int} {p n : Nat} (hp : p < n) (h : ks.getD p 0 = q) : (fK q ks p).length < (fK q ks n).length ∧ (fK q ks n).getD (fK q ks p).length 0 = (p : Int) := by
  obtain ⟨r, hr⟩ := fK_pre q ks (show p + 1 ≤ n by omega)
  rw [fK_succ, if_pos h] at hr
  rw [hr]
  constructor
  · simp
  · simp [List.getD]
end Go.Proofs.Ytdmfikedojgjbaa
