/-
  A schema as its four slices: texts, dimensions (a text and a number each), sets.
-/
import Derived.Test.YtlipeplfjkgamaaWNamesE
import Derived.Test.YtlipeplfjkgamaaAux
import Derived.Test.YtlipeplfjkgamaaBase
namespace Go.Proofs.Ytlipeplfjkgamaa
set_option maxRecDepth 100000
open Go.RowKit H
set_option linter.unusedVariables false
theorem LiesSlice.strs {w : World} {B n : Nat} {A : Option Addr} {xs : List Str} (h : LiesSlice w B A n xs) : Reads w B 1 A n (strs (xs.map (·.s))) := by
  refine ⟨by simp [strs_length, h.1], fun hn => ?_⟩
  obtain ⟨ad, e, hb, hc⟩ := h.2 hn
  refine ⟨ad, e, hb, fun j u hu => ?_⟩
  simp only [Go.Proofs.Ytlipeplfjkgamaa.strs, List.map_map, List.getElem?_map, Option.map_eq_some_iff] at hu
  obtain ⟨x, hx, rfl⟩ := hu
  obtain ⟨us, hus, hl⟩ := hc j x hx
  obtain rfl : us = [.string x.s] := hl
  have := hus 0 (show 0 < 1 by decide)
  simpa [show Lay.size Str = 1 from rfl] using this
/-- dimensions -/
def dimsV (l : List (ByteArray × Int)) : List Value := l.flatMap fun p => [.string p.1, .int .i64 p.2]
theorem dimsV_length (l : List (ByteArray × Int)) : (dimsV l).length = l.length * 2 := by
  induction l with
  | nil => rfl
  | cons a l ih => simp only [dimsV, List.flatMap_cons, List.length_append, List.length_cons, List.length_nil] at ih ⊢; omega
theorem dimsV_at : ∀ (l : List (ByteArray × Int)) (i : Nat), (dimsV l)[i * 2]? = (l[i]?).map (fun p => Value.string p.1) ∧ (dimsV l)[i * 2 + 1]? = (l[i]?).map (fun p => Value.int .i64 p.2)
  | [], i => by simp [dimsV]
  | a :: l, 0 => by simp [dimsV]
  | a :: l, i + 1 => by
    obtain ⟨h1, h2⟩ := dimsV_at l i
    have e : dimsV (a :: l) = .string a.1 :: .int .i64 a.2 :: dimsV l := rfl
    rw [e, show (i + 1) * 2 = i * 2 + 1 + 1 by omega]
    simp only [List.getElem?_cons_succ]
    exact ⟨h1, h2⟩
def d0 : ByteArray × Int := (be0, 0)
theorem LiesSlice.dims {w : World} {B n : Nat} {A : Option Addr} {xs : List (Str × Nm .i64)} (h : LiesSlice w B A n xs) : Reads w B 2 A n (dimsV (xs.map fun p => (p.1.s, p.2.z))) := by
  refine ⟨by rw [dimsV_length, List.length_map, h.1], fun hn => ?_⟩
  obtain ⟨ad, e, hb, hc⟩ := h.2 hn
  refine ⟨ad, e, hb, fun j u hu => ?_⟩
  have hj : j < n * 2 := by
    have := (List.getElem?_eq_some_iff.1 hu).1
    rw [dimsV_length, List.length_map, h.1] at this
    exact this
  obtain ⟨k1, k2⟩ := dimsV_at (xs.map fun p => (p.1.s, p.2.z)) (j / 2)
  have hi : j / 2 < xs.length := by rw [h.1]; omega
  have hx : xs[j / 2]? = some xs[j / 2] := List.getElem?_eq_getElem hi
  obtain ⟨us, hus, us1, ws1, rfl, hl1, hl2⟩ := hc (j / 2) _ hx
  obtain rfl : us1 = [.string xs[j / 2].1.s] := hl1
  obtain rfl : ws1 = [.int .i64 xs[j / 2].2.z] := hl2
  have c0 := hus 0 (show 0 < 2 by decide)
  have c1 := hus 1 (show 1 < 2 by decide)
  have hs2 : Lay.size (Str × Nm .i64) = 2 := rfl
  rw [hs2] at c0 c1
  rw [List.getElem?_map, hx] at k1 k2
  rcases Nat.mod_two_eq_zero_or_one j with h0 | h0
  · rw [show j / 2 * 2 = j by omega] at k1
    rw [k1] at hu
    rw [show j / 2 * 2 + 0 = j by omega] at c0
    rw [c0, ← hu]
    rfl
  · rw [show j / 2 * 2 + 1 = j by omega] at k2
    rw [k2] at hu
    rw [show j / 2 * 2 + 1 = j by omega] at c1
    rw [c1, ← hu]
    rfl
namespace H
theorem Ld.dimS {w : World} {B n : Nat} {A : Option Addr} {l : List (ByteArray × Int)} (h : Reads w B 2 A n (dimsV l)) {i : Nat} (hi : i < n) : Ld w (pA A (i * 2)) (.string (l.getD i d0).1) := by
  have h1 := Ld.rd h (j := i * 2) (by omega)
  have hl : i < l.length := by have := h.1; rw [dimsV_length] at this; omega
  have : (dimsV l).getD (i * 2) undef = .string (l.getD i d0).1 := by
    simp only [List.getD, (dimsV_at l i).1, List.getElem?_eq_getElem hl, Option.map_some, Option.getD_some]
  rwa [this] at h1
theorem Ld.dimN {w : World} {B n : Nat} {A : Option Addr} {l : List (ByteArray × Int)} (h : Reads w B 2 A n (dimsV l)) {i : Nat} (hi : i < n) : Ld w (pA A (i * 2 + 1)) (.int .i64 (l.getD i d0).2) := by
  have h1 := Ld.rd h (j := i * 2 + 1) (by omega)
  have hl : i < l.length := by have := h.1; rw [dimsV_length] at this; omega
  have : (dimsV l).getD (i * 2 + 1) undef = .int .i64 (l.getD i d0).2 := by
    simp only [List.getD, (dimsV_at l i).2, List.getElem?_eq_getElem hl, Option.map_some, Option.getD_some]
  rwa [this] at h1
end H
/-- a schema -/
theorem schema4 {w : World} {B : Nat} {vs : List Value} {x : (List (Str × Nm .i64)) × List Str × List Str × List (Nm .u32)} (h : Lay.lies w B vs x) :
    ∃ Ad nd cd A1 n1 c1 A2 n2 c2 Av nv cv, vs = [.slice Ad nd cd, .slice A1 n1 c1, .slice A2 n2 c2, .slice Av nv cv] ∧ (nd ≤ cd ∧ cd ≤ maxLen) ∧ (n1 ≤ c1 ∧ c1 ≤ maxLen) ∧ (n2 ≤ c2 ∧ c2 ≤ maxLen) ∧ (nv ≤ cv ∧ cv ≤ maxLen) ∧
      Reads w B 2 Ad nd (dimsV (x.1.map fun p => (p.1.s, p.2.z))) ∧ Reads w B 1 A1 n1 (strs (x.2.1.map (·.s))) ∧ Reads w B 1 A2 n2 (strs (x.2.2.1.map (·.s))) ∧ Reads w B 1 Av nv (nums .u32 (zsOf x.2.2.2)) := by
  obtain ⟨us, ws, rfl, ⟨Ad, nd, cd, rfl, g1, g2, _, g3⟩, us2, ws2, rfl, ⟨A1, n1, c1, rfl, k1, k2, _, k3⟩, us3, ws3, rfl, ⟨A2, n2, c2, rfl, l1, l2, _, l3⟩, Av, nv, cv, rfl, m1, m2, _, m3⟩ := h
  exact ⟨Ad, nd, cd, A1, n1, c1, A2, n2, c2, Av, nv, cv, rfl, ⟨g1, g2⟩, ⟨k1, k2⟩, ⟨l1, l2⟩, ⟨m1, m2⟩, g3.dims, k3.strs, l3.strs, m3.reads⟩
end Go.Proofs.Ytlipeplfjkgamaa
