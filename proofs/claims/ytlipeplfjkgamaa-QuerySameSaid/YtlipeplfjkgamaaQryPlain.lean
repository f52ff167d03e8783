import Derived.Test.YtlipeplfjkgamaaWQryB
/-
  Orders with each column's first alone, in plain mathematics.
-/
namespace Go.Proofs.Ytlipeplfjkgamaa
set_option linter.unusedVariables false
abbrev hasC (l : List (Int × Bool)) (c : Int) : Bool := l.any fun y => decide (y.1 = c)
def ddS (acc : List (Int × Bool)) (x : Int × Bool) : List (Int × Bool) := if hasC acc x.1 then acc else acc ++ [x]
def dd (l : List (Int × Bool)) : List (Int × Bool) := l.foldl ddS []
theorem dd_snoc (l : List (Int × Bool)) (x : Int × Bool) : dd (l ++ [x]) = ddS (dd l) x := by unfold dd; rw [List.foldl_append]; rfl
theorem dd_take {l : List (Int × Bool)} {i : Nat} (h : i < l.length) : dd (l.take (i + 1)) = ddS (dd (l.take i)) (l.getD i o0) := by
  rw [← dd_snoc]
  congr 1
  rw [List.take_add_one, gtO h]
  rfl
theorem hasC_iff {l : List (Int × Bool)} {c : Int} : hasC l c = true ↔ ∃ y ∈ l, y.1 = c := by simp [hasC, List.any_eq_true]
theorem hasC_snoc (l : List (Int × Bool)) (x : Int × Bool) (c : Int) : hasC (l ++ [x]) c = (hasC l c || decide (x.1 = c)) := by simp [hasC, List.any_append]
theorem hasC_ddS (l : List (Int × Bool)) (x : Int × Bool) (c : Int) : hasC (ddS l x) c = (hasC l c || decide (x.1 = c)) := by
  unfold ddS
  split
  · rename_i h
    by_cases e : x.1 = c
    · rw [e] at h
      simp [h, e]
    · simp [e]
  · exact hasC_snoc l x c
theorem hasC_dd : ∀ (l a : List (Int × Bool)) (c : Int), hasC (l.foldl ddS a) c = (hasC a c || hasC l c)
  | [], a, c => by simp [hasC]
  | x :: t, a, c => by
    rw [List.foldl_cons, hasC_dd t (ddS a x) c, hasC_ddS]
    show ((hasC a c || decide (x.1 = c)) || hasC t c) = (hasC a c || (decide (x.1 = c) || hasC t c))
    rw [Bool.or_assoc]
theorem hasC_dd0 (l : List (Int × Bool)) (c : Int) : hasC (dd l) c = hasC l c := by
  unfold dd
  rw [hasC_dd]
  simp [hasC]
theorem dd_mem : ∀ (l a : List (Int × Bool)) {x : Int × Bool}, x ∈ l.foldl ddS a → x ∈ a ∨ x ∈ l
  | [], a, x, h => .inl h
  | y :: t, a, x, h => by
    rcases dd_mem t (ddS a y) h with h | h
    · unfold ddS at h
      split at h
      · exact .inl h
      · rcases List.mem_append.1 h with h | h
        · exact .inl h
        · rw [List.mem_singleton] at h; rw [h]; exact .inr (List.mem_cons_self ..)
    · exact .inr (List.mem_cons_of_mem _ h)
theorem dd_len : ∀ (l a : List (Int × Bool)), (l.foldl ddS a).length ≤ a.length + l.length
  | [], a => Nat.le_refl _
  | y :: t, a => by
    have h1 := dd_len t (ddS a y)
    have h2 : (ddS a y).length ≤ a.length + 1 := by unfold ddS; split <;> simp
    rw [List.foldl_cons, List.length_cons]
    omega
/-- all columns differ -/
def Dis (l : List (Int × Bool)) : Prop := (l.map Prod.fst).Nodup
theorem dis_ddS {a : List (Int × Bool)} {x : Int × Bool} (h : Dis a) : Dis (ddS a x) := by
  unfold ddS
  split
  · exact h
  · rename_i hn
    unfold Dis at *
    rw [List.map_append, List.nodup_append]
    refine ⟨h, by simp, ?_⟩
    intro c hc d hd e
    rw [List.map_singleton, List.mem_singleton] at hd
    subst hd
    subst e
    obtain ⟨y, hy, e⟩ := List.mem_map.1 hc
    exact hn (hasC_iff.2 ⟨y, hy, e⟩)
theorem dis_dd : ∀ (l a : List (Int × Bool)), Dis a → Dis (l.foldl ddS a)
  | [], a, h => h
  | x :: t, a, h => dis_dd t _ (dis_ddS h)
theorem dd_id : ∀ (l a : List (Int × Bool)), Dis (a ++ l) → l.foldl ddS a = a ++ l
  | [], a, _ => by simp
  | x :: t, a, h => by
    have hx : hasC a x.1 = false := by
      cases hb : hasC a x.1 with
      | false => rfl
      | true =>
        exfalso
        obtain ⟨y, hy, e⟩ := hasC_iff.1 hb
        unfold Dis at h
        rw [List.map_append, List.nodup_append] at h
        exact h.2.2 y.1 (List.mem_map_of_mem hy) x.1 (List.mem_map_of_mem (List.mem_cons_self ..)) e
    rw [List.foldl_cons, show ddS a x = a ++ [x] by unfold ddS; rw [hx]; rfl, dd_id t (a ++ [x]) (by rw [List.append_assoc]; exact h)]
    simp
theorem dd_dd (l : List (Int × Bool)) : dd (dd l) = dd l := by
  have h : Dis (dd l) := dis_dd l [] (by simp [Dis])
  have := dd_id (dd l) [] (by simpa using h)
  rw [List.nil_append] at this
  exact this
theorem hasC_take {l : List (Int × Bool)} {i : Nat} (hi : i ≤ l.length) (c : Int) : hasC (l.take i) c = true ↔ ∃ k, k < i ∧ (l.getD k o0).1 = c := by
  rw [hasC_iff]
  constructor
  · rintro ⟨y, hy, e⟩
    obtain ⟨k, hk, e2⟩ := List.getElem_of_mem hy
    rw [List.length_take] at hk
    rw [List.getElem_take] at e2
    refine ⟨k, by omega, ?_⟩
    rw [List.getD, List.getElem?_eq_getElem (by omega), Option.getD_some, e2]
    exact e
  · rintro ⟨k, hk, e⟩
    refine ⟨l.getD k o0, ?_, e⟩
    rw [List.mem_iff_getElem?]
    refine ⟨k, ?_⟩
    rw [List.getElem?_take, if_pos hk, gtO (by omega)]
end Go.Proofs.Ytlipeplfjkgamaa
