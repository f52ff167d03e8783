/-
  A disk by definition: what a sector holds now; pending writes kept.
-/
import Derived.Test.YtdmfikedojgjbaaWDiskA
namespace Go.Proofs.Ytdmfikedojgjbaa
set_option maxRecDepth 100000
set_option linter.unusedVariables false
section
variable {α β : Type}
/-- a sector, as the first pending writes leave it -/
def nowI (ks : List α) (z : α) (ps : List (Nat × α)) (at_ : Nat) : Nat → α
  | 0 => ks.getD at_ z
  | i + 1 => if (ps.getD i (0, z)).1 = at_ then (ps.getD i (0, z)).2 else nowI ks z ps at_ i
/-- what is kept, when some of the first pending writes are kept -/
def keI (f : Nat → Bool) (ks : List α) (z : α) (ps : List (Nat × α)) : Nat → List α
  | 0 => ks
  | i + 1 => if f i then (keI f ks z ps i).set (ps.getD i (0, z)).1 (ps.getD i (0, z)).2 else keI f ks z ps i
theorem keI_length (f : Nat → Bool) (ks : List α) (z : α) (ps : List (Nat × α)) : ∀ i, (keI f ks z ps i).length = ks.length
  | 0 => rfl
  | i + 1 => by
    unfold keI
    split
    · rw [List.length_set, keI_length f ks z ps i]
    · exact keI_length f ks z ps i
theorem keI_mem {f : Nat → Bool} {ks : List α} {z : α} {ps : List (Nat × α)} {p : α → Prop} (hk : ∀ x ∈ ks, p x) (hp : ∀ x ∈ ps, p x.2) : ∀ i, i ≤ ps.length → ∀ x ∈ keI f ks z ps i, p x
  | 0, _ => hk
  | i + 1, hi => by
    have ih := keI_mem (f := f) (z := z) hk hp i (by omega)
    unfold keI
    split
    · intro x hx
      rcases List.mem_or_eq_of_mem_set hx with h | h
      · exact ih x h
      · rw [h]
        have : ps.getD i (0, z) = ps[i] := by simp [List.getD, show i < ps.length by omega]
        rw [this]
        exact hp _ (List.getElem_mem _)
    · exact ih
theorem getD_map {g : α → β} {l : List α} {i : Nat} {z : α} : (l.map g).getD i (g z) = g (l.getD i z) := by
  simp only [List.getD, List.getElem?_map]
  cases l[i]? <;> rfl
theorem getD_map2 {g : α → β} {l : List (Nat × α)} {i : Nat} {z : α} : (l.map fun p => (p.1, g p.2)).getD i (0, g z) = ((l.getD i (0, z)).1, g (l.getD i (0, z)).2) := by
  simp only [List.getD, List.getElem?_map]
  cases l[i]? <;> rfl
theorem nowI_map (g : α → β) (ks : List α) (z : α) (ps : List (Nat × α)) (at_ : Nat) : ∀ i, nowI (ks.map g) (g z) (ps.map fun p => (p.1, g p.2)) at_ i = g (nowI ks z ps at_ i)
  | 0 => getD_map
  | i + 1 => by
    unfold nowI
    rw [getD_map2, nowI_map g ks z ps at_ i]
    split <;> rfl
theorem keI_map (g : α → β) (f : Nat → Bool) (ks : List α) (z : α) (ps : List (Nat × α)) : ∀ i, keI f (ks.map g) (g z) (ps.map fun p => (p.1, g p.2)) i = (keI f ks z ps i).map g
  | 0 => rfl
  | i + 1 => by
    unfold keI
    rw [getD_map2, keI_map g f ks z ps i]
    split
    · rw [List.map_set]
    · rfl
theorem nowI_mem {ks : List α} {z : α} {ps : List (Nat × α)} {p : α → Prop} {at_ : Nat} (ha : at_ < ks.length) (hk : ∀ x ∈ ks, p x) (hp : ∀ x ∈ ps, p x.2) : ∀ i, i ≤ ps.length → p (nowI ks z ps at_ i)
  | 0, _ => by
    have : ks.getD at_ z = ks[at_] := by simp [List.getD, ha]
    show p (ks.getD at_ z)
    rw [this]
    exact hk _ (List.getElem_mem _)
  | i + 1, hi => by
    have ih := nowI_mem (z := z) ha hk hp i (by omega)
    unfold nowI
    split
    · have : ps.getD i (0, z) = ps[i] := by simp [List.getD, show i < ps.length by omega]
      rw [this]
      exact hp _ (List.getElem_mem _)
    · exact ih
end
end Go.Proofs.Ytdmfikedojgjbaa
