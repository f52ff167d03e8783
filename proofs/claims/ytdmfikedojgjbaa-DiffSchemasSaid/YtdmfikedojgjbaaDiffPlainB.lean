/-
  What a good schema says of its names; when nothing differs.
-/
import Derived.Test.YtdmfikedojgjbaaDiffPlain
namespace Go.Proofs.Ytdmfikedojgjbaa
set_option maxRecDepth 100000
open Go.RowKit H
set_option linter.unusedVariables false
theorem lkp_self {ds : List (ByteArray × Int)} (hU : Uniq ds) {x : ByteArray × Int} (hx : x ∈ ds) : chg ds x = false := by
  rw [← mm_any hU, Bool.eq_false_iff]
  intro ha
  obtain ⟨y, hy, hm⟩ := List.any_eq_true.1 ha
  obtain ⟨i, hi, rfl⟩ := List.mem_iff_getElem.1 hx
  obtain ⟨j, hj, rfl⟩ := List.mem_iff_getElem.1 hy
  simp only [mm, Bool.and_eq_true, decide_eq_true_eq, Bool.not_eq_true', decide_eq_false_iff_not] at hm
  have : i = j := hU i j hi hj (by simp [List.getD, hi, hj, hm.1])
  subst this
  exact hm.2 rfl
theorem ltL_self (p : ByteArray) (l : List (ByteArray × Int)) : ltL p l l = [] := by
  unfold ltL
  rw [List.map_eq_nil_iff, List.filter_eq_nil_iff]
  intro x hx
  rw [amT_iff.2 hx]
  decide
theorem flL_none {q : ByteArray × Int → Bool} {p : ByteArray} {l : List (ByteArray × Int)} (h : ∀ x ∈ l, q x = false) : flL q p l = [] := by
  unfold flL
  rw [List.map_eq_nil_iff, List.filter_eq_nil_iff]
  intro x hx
  rw [h x hx]
  decide
namespace Sch
theorem thL_congr {s t : Sch} (h : s.eqv t) : s.thL = t.thL := by
  unfold thL
  rw [h.1, h.2.1, h.2.2.1]
theorem dif4_eqv {s t : Sch} (hU : Uniq t.ds) (h : s.eqv t) : dif4 s t = [] := by
  unfold dif4 dif3 dif2 dif1
  rw [thL_congr h, ltL_self, ltL_self, if_pos h.2.2.2, h.1, flL_none (fun x hx => lkp_self hU hx)]
  rfl
theorem dif_nil {s t : Sch} (hU : Uniq t.ds) : (dif s t).length = 0 ↔ s.eqv t := by
  constructor
  · intro h
    unfold dif at h
    rw [List.length_append] at h
    have h4 : (dif4 s t).length = 0 := by omega
    by_cases hq : s.eqv t
    · exact hq
    · rw [if_pos ⟨h4, hq⟩] at h
      simp at h
  · intro h
    unfold dif
    rw [if_neg (fun hh => hh.2 h), dif4_eqv hU h]
    rfl
theorem code_names {s : Sch} (h : s.code = 0) : nmB (nmL s.ds s.s1 s.s2) (s.nd + s.n1 + s.n2) = true ∧ ¬ 0 ≤ tw (nmL s.ds s.s1 s.s2) := by
  unfold code chk at h
  split at h
  · cases h
  · split at h
    · cases h
    · rename_i h8
      split at h
      · cases h
      · rename_i h9
        exact ⟨by simpa using h8, h9⟩
theorem uniq_of {s : Sch} (h : s.code = 0) : Uniq s.ds := by
  have h9 := (code_names h).2
  have key : ∀ i j, i < j → j < s.ds.length → (s.ds.getD i d0).1 = (s.ds.getD j d0).1 → False := by
    intro i j hij hj he
    apply h9
    have hgl : ∀ k, k < s.ds.length → (nmL s.ds s.s1 s.s2).getD k be0 = (s.ds.getD k d0).1 := by
      intro k hk
      unfold nmL
      rw [List.append_assoc]
      simp [List.getD, List.getElem?_append_left, hk]
    have hlen : s.ds.length ≤ (nmL s.ds s.s1 s.s2).length := by rw [nmL_length]; omega
    have ha : among ((nmL s.ds s.s1 s.s2).take j) ((nmL s.ds s.s1 s.s2).getD j be0) = true := by
      rw [among_iff, hgl j hj, ← he, ← hgl i (by omega), List.mem_iff_getElem]
      exact ⟨i, by rw [List.length_take]; omega, by rw [List.getElem_take]; simp [List.getD, show i < (nmL s.ds s.s1 s.s2).length by omega]⟩
    unfold tw
    cases hf : (List.range (nmL s.ds s.s1 s.s2).length).find? (fun i => among ((nmL s.ds s.s1 s.s2).take i) ((nmL s.ds s.s1 s.s2).getD i be0)) with
    | none =>
      rw [List.find?_range_eq_none] at hf
      have := hf j (by omega)
      rw [ha] at this
      cases this
    | some i => exact Int.natCast_nonneg _
  intro i j hi hj he
  rcases Nat.lt_trichotomy i j with h' | h' | h'
  · exact (key i j h' hj he).elim
  · exact h'
  · exact (key j i h' hi he.symm).elim
theorem Here.short {s : Sch} {w : World} (h : s.Here w) (hc : s.code = 0) : s.Short := by
  intro x hx
  have l1 := h.len
  have l2 := h.len1
  have l3 := h.len2
  have h8 := (code_names hc).1
  obtain ⟨i, hi, rfl⟩ := List.mem_iff_getElem.1 hx
  have hi' := hi
  rw [nmL_length] at hi'
  have h1 := nmB_at (mono_b (nmB_s _) (by omega : i + 1 ≤ s.nd + s.n1 + s.n2) h8)
  have e : (nmL s.ds s.s1 s.s2).getD i be0 = (nmL s.ds s.s1 s.s2)[i] := by simp [List.getD, hi]
  rw [e] at h1
  have h2 := (of_decide_eq_true h1).2.1
  omega
theorem size_rng {s : Sch} (hc : s.code = 0) : ∀ i, i < s.nd → -9223372036854775808 ≤ (s.ds.getD i d0).2 ∧ (s.ds.getD i d0).2 ≤ 9223372036854775807 := by
  intro i hi
  have h := szB_at (mono_b (szB_s s.ds) (by omega : i + 1 ≤ s.nd) (good hc).2)
  omega
theorem dif_len {s t : Sch} {w : World} (h : s.Here w) (k : t.Here w) : (dif s t).length ≤ 1000 := by
  have q1 := h.hle
  have q2 := k.hle
  have l1 := h.len
  have l2 := h.len1
  have l3 := h.len2
  have k1 := k.len
  have k2 := k.len1
  have k3 := k.len2
  have e1 := thL_len s
  have e2 := thL_len t
  have m1 := ltL_len sMinus s.thL t.thL
  have m2 := ltL_len sPlus t.thL s.thL
  have m3 : (flL (chg t.ds) sTilde s.ds).length ≤ s.ds.length := by
    unfold flL
    rw [List.length_map]
    exact List.length_filter_le _ _
  have m4 : (if s.zs = t.zs then ([] : List ByteArray) else [sViews]).length ≤ 1 := by split <;> simp
  have m5 : (if (dif4 s t).length = 0 ∧ ¬ s.eqv t then [sOrder] else ([] : List ByteArray)).length ≤ 1 := by split <;> simp
  unfold dif
  rw [List.length_append]
  have m6 : (dif4 s t).length ≤ 900 := by
    unfold dif4 dif3 dif2 dif1
    simp only [List.length_append]
    omega
  omega
end Sch
end Go.Proofs.Ytdmfikedojgjbaa
