/-
  The reference's Schema: how two schemas differ.
-/
import Derived.Test.YtdmfikedojgjbaaWDiffI
namespace Go.Proofs.Ytdmfikedojgjbaa
set_option maxRecDepth 100000
open Go.RowKit H
set_option linter.unusedVariables false
theorem ltL_map {ns q : List ByteArray} {p : ByteArray} {lb : List (ByteArray × Int)} {k : Int} (h : ∀ x, amT lb (x, k) = among q x) : ltL p (ns.map (·, k)) lb = lackL p ns q := by
  unfold ltL lackL
  rw [List.filter_map, List.map_map]
  have e : ((fun x => !amT lb x) ∘ fun x => (x, k)) = fun x => !among q x := funext fun x => by simp only [Function.comp, h]
  rw [e]
  rfl
theorem ltL_app (p : ByteArray) (a b lb : List (ByteArray × Int)) : ltL p (a ++ b) lb = ltL p a lb ++ ltL p b lb := by
  unfold ltL
  rw [List.filter_append, List.map_append]
/-- one name stands at one place -/
def Uniq (ds : List (ByteArray × Int)) : Prop := ∀ i j, i < ds.length → j < ds.length → (ds.getD i d0).1 = (ds.getD j d0).1 → i = j
def mm (x y : ByteArray × Int) : Bool := decide (x.1 = y.1) && !decide (x.2 = y.2)
theorem mm_any {ds : List (ByteArray × Int)} (hU : Uniq ds) (x : ByteArray × Int) : ds.any (mm x) = chg ds x := by
  rw [Bool.eq_iff_iff, List.any_eq_true]
  unfold chg lkp
  constructor
  · rintro ⟨y, hy, h⟩
    simp only [mm, Bool.and_eq_true, decide_eq_true_eq, Bool.not_eq_true', decide_eq_false_iff_not] at h
    cases hf : ds.find? (fun p => decide (p.1 = x.1)) with
    | none =>
      have := List.find?_eq_none.1 hf y hy
      simp [h.1] at this
    | some z =>
      have hz := List.find?_some hf
      have hzm := List.mem_of_find?_eq_some hf
      obtain ⟨i, hi, rfl⟩ := List.mem_iff_getElem.1 hy
      obtain ⟨j, hj, rfl⟩ := List.mem_iff_getElem.1 hzm
      have hz' : ds[j].1 = x.1 := of_decide_eq_true hz
      have : i = j := hU i j hi hj (by simp [List.getD, hi, hj, hz', h.1])
      subst this
      simp only [Option.map_some]
      exact decide_eq_true (fun e => h.2 e.symm)
  · intro h
    cases hf : ds.find? (fun p => decide (p.1 = x.1)) with
    | none => rw [hf] at h; cases h
    | some z =>
      rw [hf] at h
      have hz0 := List.find?_some hf
      have hz : z.1 = x.1 := of_decide_eq_true hz0
      have hn : ¬ z.2 = x.2 := of_decide_eq_true h
      exact ⟨z, List.mem_of_find?_eq_some hf, by simp only [mm, hz, decide_true, Bool.true_and, Bool.not_eq_true', decide_eq_false_iff_not]; exact fun e => hn e.symm⟩
theorem mm_next {ds : List (ByteArray × Int)} {j : Nat} (h : j < ds.length) (x : ByteArray × Int) : (ds.take (j + 1)).any (mm x) = ((ds.take j).any (mm x) || mm x (ds.getD j d0)) := by
  rw [take_nextD h, List.any_append]
  simp
theorem mm_once {ds : List (ByteArray × Int)} (hU : Uniq ds) {j : Nat} (h : j < ds.length) {x : ByteArray × Int} (hm : mm x (ds.getD j d0) = true) : (ds.take j).any (mm x) = false := by
  rw [Bool.eq_false_iff]
  intro ha
  obtain ⟨y, hy, hm2⟩ := List.any_eq_true.1 ha
  obtain ⟨i, hi, rfl⟩ := List.mem_iff_getElem.1 hy
  rw [List.length_take] at hi
  have hi' : i < ds.length := by omega
  simp only [mm, Bool.and_eq_true, decide_eq_true_eq] at hm hm2
  have : i = j := hU i j hi' h (by rw [← hm.1]; simp only [List.getElem_take] at hm2; rw [hm2.1]; simp [List.getD, hi'])
  omega
theorem mF {ds : List (ByteArray × Int)} (hU : Uniq ds) (x : ByteArray × Int) (B : List ByteArray) : ∃ LD : Nat → List ByteArray, LD 0 = B ∧ (∀ j, j < ds.length → LD (j + 1) = LD j ++ (if mm x (ds.getD j d0) then [sTilde ++ x.1] else [])) ∧ LD ds.length = B ++ (if chg ds x then [sTilde ++ x.1] else []) ∧ ∀ j, (LD j).length ≤ B.length + 1 := by
  refine ⟨fun j => B ++ (if (ds.take j).any (mm x) then [sTilde ++ x.1] else []), by simp, fun j hj => ?_, by dsimp only; rw [List.take_length, mm_any hU], fun j => ?_⟩
  · dsimp only
    rw [mm_next hj]
    cases hm : mm x (ds.getD j d0)
    · rw [Bool.or_false]; simp
    · rw [mm_once hU hj hm]; simp
  · dsimp only
    split <;> simp
namespace Sch
theorem lackR_eq (p : ByteArray) (s t : Sch) : lackR p s t = ltL p s.thL t.thL := by
  unfold thL
  rw [ltL_app, ltL_app, ltL_map (q := t.ds.map (·.1)), ltL_map (q := t.s1), ltL_map (q := t.s2)]
  · rfl
  all_goals
    intro x
    rw [Bool.eq_iff_iff, amT_iff, among_iff]
    simp
end Sch
end Go.Proofs.Ytdmfikedojgjbaa
