/-
  What is kept behind a crash, in plain mathematics.
-/
import Derived.Test.YtdmfikedojgjbaaDiskAbs
namespace Go.Proofs.Ytdmfikedojgjbaa
set_option maxRecDepth 100000
set_option linter.unusedVariables false
/-- a deed of the law's Do: other kinds do nothing -/
def Ds.doA (s : Ds) (x : Dd) : Ds := if 0 ≤ x.kind ∧ x.kind ≤ 4 then (s.do_ x).1 else s
theorem Ds.Ok.doA {s : Ds} {m : Nat} (h : s.Ok m) (x : Dd) (hx : x.n ≤ 9223372036854775807) : (s.doA x).Ok (m + 1) := by
  unfold Ds.doA
  split
  · exact h.do_ x hx
  · exact h.more (by omega)
theorem Ds.doA_len (s : Ds) (x : Dd) : (s.doA x).kept.length = s.kept.length := by
  unfold Ds.doA Ds.do_
  (repeat' split) <;> first | rfl | exact keI_length _ _ _ _ _
/-- what holds while only writes are done: what is kept stays, and each pending write is one of the deeds -/
structure Wr (K : List (List Int)) (ms : List Dd) (i : Nat) (s : Ds) : Prop where
  hk : s.kept = K
  hp : ∀ p ∈ s.pend, ∃ j x, j < i ∧ ms[j]? = some x ∧ x.kind = 1 ∧ x.n = (p.1 : Int) ∧ x.bytes = p.2
theorem Wr.step {K : List (List Int)} {ms : List Dd} {i : Nat} {s : Ds} (h : Wr K ms i s) {x : Dd} (hx : ms[i]? = some x) (h1 : x.kind = 1) : Wr K ms (i + 1) (s.do_ x).1 := by
  have up : ∀ p ∈ s.pend, ∃ j y, j < i + 1 ∧ ms[j]? = some y ∧ y.kind = 1 ∧ y.n = (p.1 : Int) ∧ y.bytes = p.2 := fun p hp => by
    obtain ⟨j, y, h1, h2⟩ := h.hp p hp
    exact ⟨j, y, by omega, h2⟩
  unfold Ds.do_
  rw [if_neg (by omega), if_neg (by omega)]
  split
  · exact ⟨h.hk, up⟩
  split
  · exact ⟨h.hk, up⟩
  rename_i hr
  rw [if_neg (by omega)]
  split
  · exact ⟨h.hk, up⟩
  split
  · exact ⟨h.hk, up⟩
  refine ⟨h.hk, fun p hp => ?_⟩
  rcases List.mem_append.1 hp with hp | hp
  · exact up p hp
  · obtain rfl : p = (x.n.toNat, x.bytes) := by simpa using hp
    have h0 : 0 ≤ x.n := by
      apply Decidable.byContradiction
      intro hn
      exact hr ⟨by omega, .inl (by omega)⟩
    exact ⟨i, x, by omega, hx, h1, by dsimp only; omega, rfl⟩
theorem Wr.more {K : List (List Int)} {ms : List Dd} {i : Nat} {s : Ds} (h : Wr K ms i s) : Wr K ms (i + 1) s := ⟨h.hk, fun p hp => by
  obtain ⟨j, y, h1, h2⟩ := h.hp p hp
  exact ⟨j, y, by omega, h2⟩⟩
theorem keI_at (f : Nat → Bool) (ks : List (List Int)) (ps : List (Nat × List Int)) (s : Nat) : ∀ i, i ≤ ps.length → (keI f ks [] ps i).getD s [] = ks.getD s [] ∨ ∃ p ∈ ps, p.1 = s ∧ (keI f ks [] ps i).getD s [] = p.2
  | 0, _ => .inl rfl
  | i + 1, hi => by
    have ih := keI_at f ks ps s i (by omega)
    have hp : ps.getD i (0, []) ∈ ps := by
      have : ps.getD i (0, []) = ps[i] := by simp [List.getD, show i < ps.length by omega]
      rw [this]
      exact List.getElem_mem _
    unfold keI
    split
    · by_cases hs : (ps.getD i (0, [])).1 = s
      · by_cases hl : s < (keI f ks [] ps i).length
        · refine .inr ⟨_, hp, hs, ?_⟩
          rw [List.getD, List.getElem?_set, if_pos hs, if_pos (by omega)]
          rfl
        · rw [List.set_eq_of_length_le (by omega)]
          exact ih
      · rw [List.getD, List.getElem?_set, if_neg hs]
        exact ih
    · exact ih
/-- behind the crash -/
theorem Wr.crash {K : List (List Int)} {ms : List Dd} {i : Nat} {s : Ds} (h : Wr K ms i s) (f : Nat → Bool) (a : Nat) :
    (keI f s.kept [] s.pend s.pend.length).getD a [] = K.getD a [] ∨ ∃ j x, j < i ∧ ms[j]? = some x ∧ x.kind = 1 ∧ x.n = (a : Int) ∧ (keI f s.kept [] s.pend s.pend.length).getD a [] = x.bytes := by
  rcases keI_at f s.kept s.pend a s.pend.length (Nat.le_refl _) with h1 | ⟨p, hp, h1, h2⟩
  · rw [h.hk] at h1 ⊢
    exact .inl h1
  · obtain ⟨j, x, k1, k2, k3, k4, k5⟩ := h.hp p hp
    exact .inr ⟨j, x, k1, k2, k3, by rw [k4, h1], by rw [h2, k5]⟩
/-- a sector of a disk's bytes -/
theorem sec_at {ls : List (List Int)} (h : ∀ x ∈ ls, x.length = 1024) : ∀ {a : Nat}, a < ls.length → (ls.flatten.drop (1024 * a)).take 1024 = ls.getD a [] := by
  induction ls with
  | nil => intro a ha; simp at ha
  | cons l ls ih =>
    intro a ha
    have hl : l.length = 1024 := h l (by simp)
    cases a with
    | zero =>
      rw [Nat.mul_zero, List.drop_zero, List.flatten_cons, List.take_append_of_le_length (by omega), List.take_of_length_le (by omega)]
      rfl
    | succ a =>
      rw [List.flatten_cons, show 1024 * (a + 1) = l.length + 1024 * a by omega, ← List.drop_drop, List.drop_left, ih (fun x hx => h x (by simp [hx])) (by simpa using ha)]
      rfl
end Go.Proofs.Ytdmfikedojgjbaa
