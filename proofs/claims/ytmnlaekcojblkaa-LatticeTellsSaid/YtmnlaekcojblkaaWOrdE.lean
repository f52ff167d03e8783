/-
  Orders: a row's key.
-/
import Derived.Test.YtmnlaekcojblkaaWOrdD
namespace Go.Proofs.Ytmnlaekcojblkaa
set_option maxRecDepth 100000
open Go.RowKit H
open Byts Cod Flo Odr
set_option linter.unusedVariables false
def okN (z : Int) : Prop := -9223372036854775808 ≤ z ∧ z ≤ 9223372036854775807
/-- a row whose numbers fit -/
def Rw.Ok (r : Rw) : Prop := (∀ v ∈ r.v, okN v.n) ∧ ∀ z ∈ r.c, okN z
theorem cI_len {z : Int} (h : okN z) : (cI z).length ≤ 9 := by
  unfold okN at h
  unfold cI
  by_cases hz : 0 ≤ z
  · have h8 := wd_le8 (x := z) hz (by omega)
    rw [if_pos hz, List.length_cons, bz_length]; omega
  · have h8 := wd_le8 (x := -(z + 1)) (by omega) (by omega)
    rw [if_neg hz, List.length_cons, inv_length, bz_length]; omega
theorem vC_len {v : Vl} (h : okN v.n) : (vC v).length ≤ 10 := by
  have := cI_len h
  unfold vC
  split
  · rw [List.length_cons, be_length]; omega
  · rw [List.length_cons]; omega
theorem valAt_ok {r : Rw} (h : r.Ok) (c : Int) : okN (valAt r c).n := by
  unfold valAt
  split
  · exact ⟨by decide, by decide⟩
  · rcases Nat.lt_or_ge c.toNat r.v.length with k | k
    · rw [List.getD, List.getElem?_eq_getElem k]; exact h.1 _ (List.getElem_mem k)
    · rw [List.getD, List.getElem?_eq_none k]; exact ⟨by decide, by decide⟩
theorem colC_len {r : Rw} (h : r.Ok) (x : Int × Bool) : (colC r x).length ≤ 10 := by
  have := vC_len (valAt_ok h x.1)
  unfold colC
  split
  · rw [inv_length]; exact this
  · exact this
theorem flat_le {α : Type} {f : α → List Int} {k : Nat} : ∀ {l : List α}, (∀ x ∈ l, (f x).length ≤ k) → (l.flatMap f).length ≤ k * l.length
  | [], _ => by simp
  | x :: t, h => by
    have h1 := h x (by simp)
    have h2 := flat_le (l := t) fun y hy => h y (by simp [hy])
    rw [List.flatMap_cons, List.length_append, List.length_cons, Nat.mul_succ]
    omega
/-- what a value becomes, from place k on -/
def turned (p u : List Int) (k : Nat) : List Int := p ++ (inv (u.take k) ++ u.drop k)
theorem turned_0 (p u : List Int) : turned p u 0 = p ++ u := by simp [turned, inv]
theorem turned_all (p u : List Int) : turned p u u.length = p ++ inv u := by simp [turned]
theorem turned_len (p u : List Int) (k : Nat) : (turned p u k).length = p.length + u.length := by
  unfold turned
  rw [List.length_append, List.length_append, inv_length, List.length_take, List.length_drop]
  omega
theorem turned_at {p u : List Int} {k : Nat} (h : k < u.length) : (turned p u k).getD (p.length + k) 0 = u.getD k 0 := by
  have hl : (p ++ inv (u.take k)).length = p.length + k := by rw [List.length_append, inv_length, List.length_take]; omega
  unfold turned
  rw [← List.append_assoc, List.getD, List.getElem?_append_right (by omega), hl, Nat.sub_self, List.getElem?_drop, Nat.add_zero]
  rfl
theorem turned_set {p u : List Int} {k : Nat} (h : k < u.length) : (turned p u k).set (p.length + k) (255 - u.getD k 0) = turned p u (k + 1) := by
  have hl : (p ++ inv (u.take k)).length = p.length + k := by rw [List.length_append, inv_length, List.length_take]; omega
  have e1 : u.take (k + 1) = u.take k ++ [u.getD k 0] := by rw [List.take_add_one, List.getElem?_eq_getElem h, List.getD, List.getElem?_eq_getElem h]; rfl
  unfold turned
  rw [← List.append_assoc, List.set_append_right _ _ (by omega), hl, Nat.sub_self, List.drop_eq_getElem_cons h, List.set_cons_zero, e1]
  unfold inv
  rw [List.map_append]
  simp
theorem inv_bytes {u : List Int} (h : ∀ z ∈ u, 0 ≤ z ∧ z < 256) : ∀ z ∈ inv u, 0 ≤ z ∧ z < 256 := by
  intro z hz
  obtain ⟨y, hy, rfl⟩ := List.mem_map.1 hz
  have := h y hy
  omega
theorem cI_bytes {z : Int} (h : okN z) : ∀ b ∈ cI z, 0 ≤ b ∧ b < 256 := by
  unfold okN at h
  unfold cI
  intro b hb
  by_cases hz : 0 ≤ z
  · have h8 := wd_le8 (x := z) hz (by omega)
    rw [if_pos hz] at hb
    rcases List.mem_cons.1 hb with rfl | hb
    · omega
    · exact bz_bytes _ b hb
  · have h8 := wd_le8 (x := -(z + 1)) (by omega) (by omega)
    rw [if_neg hz] at hb
    rcases List.mem_cons.1 hb with rfl | hb
    · omega
    · exact inv_bytes (bz_bytes _) b hb
theorem vC_bytes {v : Vl} (h : okN v.n) : ∀ b ∈ vC v, 0 ≤ b ∧ b < 256 := by
  unfold vC
  intro b hb
  split at hb
  · rcases List.mem_cons.1 hb with rfl | hb
    · decide
    · exact be_bytes _ _ b hb
  · rcases List.mem_cons.1 hb with rfl | hb
    · decide
    · exact cI_bytes h b hb
theorem compl8 {y : Int} (h : 0 ≤ y ∧ y < 256) : bits .xor .u8 (if IntKind.u8.signed then -1 else IntKind.u8.max) y = 255 - y := by
  obtain ⟨b, rfl⟩ := Int.eq_ofNat_of_zero_le h.1
  have k := u8_xor_nat 255 b (by decide) (by omega)
  have e : ∀ b : Nat, b < 256 → 255 ^^^ b = 255 - b := by decide
  rw [e b (by omega)] at k
  refine Eq.trans k ?_
  omega
end Go.Proofs.Ytmnlaekcojblkaa
