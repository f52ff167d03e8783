/-
  Plain: rows matched, one behind the other, each with the first that is still free.
-/
import Derived.Test.YtlohbkcedpkjaaaWRowC
namespace Go.Proofs.Ytlohbkcedpkjaaa
open Go.RowKit
/-- a row is free and the same -/
def mt (x : Rw) (b : List Rw) (h : List Bool) (k : Nat) : Bool := !h.getD k false && x.same (b.getD k rw0)
def fk (x : Rw) (b : List Rw) (h : List Bool) : Option Nat := (List.range b.length).find? (mt x b h)
theorem fk_some {x : Rw} {b : List Rw} {h : List Bool} {k : Nat} (hk : k < b.length) (hm : mt x b h k = true) (hP : ∀ j, j < k → mt x b h j = false) : fk x b h = some k := by
  unfold fk
  rw [List.find?_range_eq_some]
  exact ⟨hm, List.mem_range.2 hk, fun j hj => by rw [hP j hj]; rfl⟩
theorem fk_none {x : Rw} {b : List Rw} {h : List Bool} (hP : ∀ j, j < b.length → mt x b h j = false) : fk x b h = none := by
  unfold fk
  rw [List.find?_eq_none]
  intro j hj
  rw [hP j (List.mem_range.1 hj)]
  decide
theorem fk_ok {x : Rw} {b : List Rw} {h : List Bool} {k : Nat} (he : fk x b h = some k) : k < b.length ∧ mt x b h k = true := by
  unfold fk at he
  rw [List.find?_range_eq_some] at he
  exact ⟨List.mem_range.1 he.2.1, he.1⟩
def nx (h : List Bool) : Option Nat → List Bool
  | some k => h.set k true
  | none => h
/-- which are held, and which are left, when i have been looked at -/
def mst (a b : List Rw) : Nat → List Bool × List Int
  | 0 => (List.replicate b.length false, [])
  | i + 1 => (nx (mst a b i).1 (fk (a.getD i rw0) b (mst a b i).1), if (fk (a.getD i rw0) b (mst a b i).1).isSome then (mst a b i).2 else (mst a b i).2 ++ [(i : Int)])
theorem nx_length (h : List Bool) (o : Option Nat) : (nx h o).length = h.length := by cases o <;> simp [nx]
theorem mst_len (a b : List Rw) : ∀ i, (mst a b i).1.length = b.length
  | 0 => by simp [mst]
  | i + 1 => by rw [mst, nx_length, mst_len a b i]
theorem mst_left (a b : List Rw) : ∀ i, (mst a b i).2.length ≤ i
  | 0 => by simp [mst]
  | i + 1 => by
    have := mst_left a b i
    rw [mst]
    split <;> simp <;> omega
/-- the ones that are not held -/
def nh (h : List Bool) : Nat → List Int
  | 0 => []
  | k + 1 => if h.getD k false = true then nh h k else nh h k ++ [(k : Int)]
theorem nh_len (h : List Bool) : ∀ k, (nh h k).length ≤ k
  | 0 => by simp [nh]
  | k + 1 => by
    have := nh_len h k
    rw [nh]
    split <;> simp <;> omega
theorem nh_cnt (h : List Bool) : ∀ k, k ≤ h.length → (nh h k).length + (h.take k).count true = k
  | 0, _ => by simp [nh]
  | k + 1, hk => by
    have ih := nh_cnt h k (by omega)
    have e : h.take (k + 1) = h.take k ++ [h[k]] := List.take_succ_eq_append_getElem (by omega)
    have e2 : h.getD k false = h[k] := by rw [List.getD, List.getElem?_eq_getElem (by omega)]; rfl
    rw [nh, e, List.count_append, e2]
    cases hh : h[k]
    · rw [if_neg (by decide)]; simp; omega
    · rw [if_pos rfl]; simp; omega
theorem count_set {h : List Bool} {k : Nat} (hk : k < h.length) (hf : h.getD k false = false) : (h.set k true).count true = h.count true + 1 := by
  have e2 : h.getD k false = h[k] := by rw [List.getD, List.getElem?_eq_getElem hk]; rfl
  rw [e2] at hf
  rw [List.count_set hk, hf]
  simp
theorem mst_cnt (a b : List Rw) : ∀ i, (mst a b i).2.length + (mst a b i).1.count true = i
  | 0 => by simp [mst, List.count_replicate]
  | i + 1 => by
    have ih := mst_cnt a b i
    rw [mst]
    cases hf : fk (a.getD i rw0) b (mst a b i).1 with
    | none => simp [nx]; omega
    | some k =>
      obtain ⟨h1, h2⟩ := fk_ok hf
      have hl := mst_len a b i
      have h3 : (mst a b i).1.getD k false = false := by
        unfold mt at h2
        rw [Bool.and_eq_true, Bool.not_eq_true'] at h2
        exact h2.1
      simp only [nx, Option.isSome_some, if_true]
      rw [count_set (by omega) h3]
      omega
/-- the same, told by whom: noughts and others -/
theorem mst_ok (a b : List Rw) : (mst a b a.length).2.length + b.length = a.length + (nh (mst a b a.length).1 b.length).length := by
  have h1 := mst_cnt a b a.length
  have hl := mst_len a b a.length
  have h2 := nh_cnt (mst a b a.length).1 b.length (by omega)
  rw [List.take_of_length_le (by omega)] at h2
  omega
end Go.Proofs.Ytlohbkcedpkjaaa
