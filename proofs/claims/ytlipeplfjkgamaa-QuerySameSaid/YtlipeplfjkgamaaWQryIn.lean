/-
  Queries and sizes that are handed in.
-/
import Derived.Test.YtlipeplfjkgamaaWQryB
namespace Go.Proofs.Ytlipeplfjkgamaa
set_option maxRecDepth 100000
open Go.RowKit H
set_option linter.unusedVariables false
abbrev QuT := (Nm .u32) × (List ((Nm .i64) × (List (Nm .i64)))) × (List ((Nm .i64) × (Nm .i64))) × (List ((Nm .i64) × (Bool))) × (Nm .i64)
theorem fis_of {w : World} {B n c : Nat} {A : Option Addr} {xs : List ((Nm .i64) × (List (Nm .i64)))} (h : LiesSlice w B A n xs) (hm : n ≤ maxLen) : ∃ l : List Fi, (Fis.mk A n c l).At B w := by
  obtain ⟨l, h1, h2, h3⟩ := h.rows (X := Fi) (f := Fi.vs) (g := fun r => r.At B w) (fun _ => rfl) (fun us a hl => by
    obtain ⟨u1, u2, rfl, k1, ⟨A, n, c, rfl, hn, hc, _, hl⟩⟩ := hl
    exact ⟨⟨a.1.z, A, n, c, zsOf a.2⟩, by rw [show u1 = [.int .i64 a.1.z] from k1]; rfl, hl.reads, Nat.le_trans hn hc⟩)
  exact ⟨l, h2, h3, h1, hm⟩
theorem cols_of {w : World} {B n : Nat} {A : Option Addr} {xs : List ((Nm .i64) × (Nm .i64))} (h : LiesSlice w B A n xs) : ∃ l : List (Int × Int), l.length = n ∧ Reads w B 2 A n (l.flatMap cV) := by
  obtain ⟨l, h1, h2, h3⟩ := h.rows (X := Int × Int) (f := cV) (g := fun r => True) (fun _ => rfl) (fun us a hl => by
    obtain ⟨u1, u2, rfl, k1, k2⟩ := hl
    exact ⟨(a.1.z, a.2.z), by rw [show u1 = [.int .i64 a.1.z] from k1, show u2 = [.int .i64 a.2.z] from k2]; rfl, trivial⟩)
  exact ⟨l, h1, h2⟩
theorem ords_of {w : World} {B n : Nat} {A : Option Addr} {xs : List ((Nm .i64) × (Bool))} (h : LiesSlice w B A n xs) : ∃ l : List (Int × Bool), l.length = n ∧ Reads w B 2 A n (l.flatMap oV) := by
  obtain ⟨l, h1, h2, h3⟩ := h.rows (X := Int × Bool) (f := oV) (g := fun r => True) (fun _ => rfl) (fun us a hl => by
    obtain ⟨u1, u2, rfl, k1, k2⟩ := hl
    exact ⟨(a.1.z, a.2), by rw [show u1 = [.int .i64 a.1.z] from k1, show u2 = [.bool a.2] from k2]; rfl, trivial⟩)
  exact ⟨l, h1, h2⟩
/-- a query that is handed in -/
theorem qu_of {w : World} {B : Nat} {us : List Value} {x : QuT} (h : Lay.lies w B us x) : ∃ q : Qu, us = q.vs ∧ q.At B w := by
  obtain ⟨u1, u2, rfl, k1, ⟨v1, v2, rfl, ⟨A, n, c, rfl, hn, hc, _, hl⟩, ⟨x1, x2, rfl, ⟨A', n', c', rfl, hn', hc', _, hl'⟩, ⟨y1, y2, rfl, ⟨A'', n'', c'', rfl, hn'', hc'', _, hl''⟩, k5⟩⟩⟩⟩ := h
  obtain ⟨l1, h1⟩ := fis_of (c := c) hl (Nat.le_trans hn hc)
  obtain ⟨l2, h2, h3⟩ := cols_of hl'
  obtain ⟨l4, h4, h5⟩ := ords_of hl''
  obtain ⟨m, hm⟩ := Int.eq_ofNat_of_zero_le x.1.u32.1
  have hm32 : m < 4294967296 := by have := x.1.u32.2; omega
  refine ⟨⟨m, ⟨A, n, c, l1⟩, A', n', c', l2, A'', n'', c'', l4, x.2.2.2.2.z⟩, ?_, hm32, h1, h3, h2, Nat.le_trans hn' hc', h5, h4, Nat.le_trans hn'' hc''⟩
  rw [show u1 = [.int .u32 x.1.z] from k1, show y2 = [.int .i64 x.2.2.2.2.z] from k5, hm]
  rfl
theorem sz_bd (xs : List (Nm .i64)) : ∀ i, -9223372036854775808 ≤ (zsOf xs).getD i 0 ∧ (zsOf xs).getD i 0 ≤ 9223372036854775807 := by
  intro i
  rcases Nat.lt_or_ge i xs.length with h | h
  · have h' : i < (zsOf xs).length := by simpa [zsOf] using h
    rw [List.getD, List.getElem?_eq_getElem h']
    have e : (zsOf xs)[i] = (xs[i]).z := by simp [zsOf]
    show -9223372036854775808 ≤ (zsOf xs)[i] ∧ (zsOf xs)[i] ≤ 9223372036854775807
    rw [e]
    exact (xs[i]).i64
  · rw [List.getD, List.getElem?_eq_none (by simpa [zsOf] using h)]
    decide
end Go.Proofs.Ytlipeplfjkgamaa
