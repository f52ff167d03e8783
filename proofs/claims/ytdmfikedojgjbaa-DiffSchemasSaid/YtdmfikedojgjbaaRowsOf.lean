/-
  A slice of structs as a list of one's own data: what its cells are, one behind the other.
-/
import Derived.Test.YtdmfikedojgjbaaOpen
import Derived.Test.YtdmfikedojgjbaaSets
namespace Go.Proofs.Ytdmfikedojgjbaa
open Go.RowKit
section
variable {X : Type} {f : X → List Value} {sz : Nat}
theorem flat_length (h : ∀ x, (f x).length = sz) (l : List X) : (l.flatMap f).length = l.length * sz := by
  induction l with
  | nil => simp
  | cons a l ih => rw [List.flatMap_cons, List.length_append, ih, h, List.length_cons, Nat.add_mul, Nat.one_mul, Nat.add_comm]
theorem flat_at (h : ∀ x, (f x).length = sz) : ∀ (l : List X) (i r : Nat), r < sz → (l.flatMap f)[i * sz + r]? = (l[i]?).bind fun x => (f x)[r]?
  | [], i, r, _ => by simp
  | a :: l, 0, r, hr => by
    rw [List.flatMap_cons, Nat.zero_mul, Nat.zero_add, List.getElem?_append_left (by rw [h]; exact hr)]
    rfl
  | a :: l, i + 1, r, hr => by
    rw [List.flatMap_cons, List.getElem?_append_right (by rw [h, Nat.add_mul]; omega), h, show (i + 1) * sz + r - sz = i * sz + r by rw [Nat.add_mul]; omega, flat_at h l i r hr]
    rfl
theorem flat_row (h : ∀ x, (f x).length = sz) {l : List X} {i : Nat} {x : X} (hi : l[i]? = some x) : ∀ (r : Nat) (u : Value), (f x)[r]? = some u → (l.flatMap f)[i * sz + r]? = some u := by
  intro r u hu
  have hr : r < sz := by rw [← h x]; exact (List.getElem?_eq_some_iff.1 hu).1
  rw [flat_at h l i r hr, hi]
  exact hu
theorem LiesSlice.rows {α : Type} [Lay α] {w : World} {B n : Nat} {A : Option Addr} {xs : List α} (hl : LiesSlice w B A n xs) {g : X → Prop} (h : ∀ x, (f x).length = Lay.size α) (hx : ∀ (us : List Value) (a : α), Lay.lies w B us a → ∃ x, us = f x ∧ g x) :
    ∃ l : List X, l.length = n ∧ Reads w B (Lay.size α) A n (l.flatMap f) ∧ ∀ x ∈ l, g x := by
  rcases Nat.eq_zero_or_pos n with h0 | hn
  · subst h0
    exact ⟨[], rfl, ⟨by simp, fun h0 => absurd h0 (Nat.lt_irrefl 0)⟩, fun x hx => by cases hx⟩
  obtain ⟨ad, rfl, hb, hc⟩ := hl.2 hn
  have key : ∀ m, m ≤ n → ∃ l : List X, l.length = m ∧ (∀ i x, l[i]? = some x → g x ∧ ∀ j, j < Lay.size α → w.cell? (ad.add (i * Lay.size α + j)) = (f x)[j]?) := by
    intro m
    induction m with
    | zero => intro _; exact ⟨[], rfl, fun i x hi => by simp at hi⟩
    | succ m ih =>
      intro hm
      obtain ⟨l, hll, hls⟩ := ih (by omega)
      have hmx : m < xs.length := by rw [hl.1]; omega
      obtain ⟨us, hus, hlies⟩ := hc m _ (List.getElem?_eq_getElem hmx)
      obtain ⟨x, rfl, hgx⟩ := hx us _ hlies
      refine ⟨l ++ [x], by simp [hll], fun i y hi => ?_⟩
      rcases Nat.lt_or_ge i l.length with hlt | hge
      · rw [List.getElem?_append_left hlt] at hi
        exact hls i y hi
      · have hi2 : i < (l ++ [x]).length := (List.getElem?_eq_some_iff.1 hi).1
        obtain rfl : i = m := by simp at hi2; omega
        rw [List.getElem?_append_right (by omega), hll, Nat.sub_self] at hi
        injection hi with hi
        subst hi
        exact ⟨hgx, hus⟩
  obtain ⟨l, hll, hls⟩ := key n (Nat.le_refl _)
  refine ⟨l, hll, ⟨by rw [flat_length h, hll], fun _ => ⟨ad, rfl, hb, fun j u hu => ?_⟩⟩, fun x hx => ?_⟩
  · have hj : j < n * Lay.size α := by rw [← hll, ← flat_length h l]; exact (List.getElem?_eq_some_iff.1 hu).1
    have hs : 0 < Lay.size α := Nat.pos_of_ne_zero (fun h0 => by rw [h0] at hj; omega)
    have hr := Nat.mod_lt j hs
    have e : j / Lay.size α * Lay.size α + j % Lay.size α = j := by rw [Nat.mul_comm]; exact Nat.div_add_mod j _
    have hu2 := hu
    rw [← e, flat_at h l _ _ hr] at hu2
    obtain ⟨x, hx1, hx2⟩ := Option.bind_eq_some_iff.1 hu2
    rw [← e, (hls _ x hx1).2 _ hr, hx2]
  · obtain ⟨i, hi, rfl⟩ := List.getElem_of_mem hx
    exact (hls i _ (List.getElem?_eq_getElem hi)).1
end
theorem LiesSlice.bools {w : World} {B n : Nat} {A : Option Addr} {xs : List Bool} (h : LiesSlice w B A n xs) : Reads w B 1 A n (xs.map Value.bool) := by
  refine ⟨by simp [h.1], fun hn => ?_⟩
  obtain ⟨ad, e, hb, hc⟩ := h.2 hn
  refine ⟨ad, e, hb, fun j u hu => ?_⟩
  simp only [List.getElem?_map, Option.map_eq_some_iff] at hu
  obtain ⟨x, hx, rfl⟩ := hu
  obtain ⟨us, hus, hl⟩ := hc j x hx
  obtain rfl : us = [.bool x] := hl
  have := hus 0 (show 0 < 1 by decide)
  simpa [show Lay.size Bool = 1 from rfl] using this
end Go.Proofs.Ytdmfikedojgjbaa
