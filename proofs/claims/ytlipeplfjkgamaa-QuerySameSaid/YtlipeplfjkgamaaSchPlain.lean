/-
  Why a schema isn't right: one number, by definition.
-/
import Derived.Test.YtlipeplfjkgamaaWSchD
import Derived.Test.YtlipeplfjkgamaaWNamesE
namespace Go.Proofs.Ytlipeplfjkgamaa
set_option maxRecDepth 100000
set_option linter.unusedVariables false
/-- the product of the first sizes -/
def kyA (ds : List (ByteArray × Int)) : Nat → Int
  | 0 => 1
  | i + 1 => kyA ds i * (ds.getD i d0).2
def szB (ds : List (ByteArray × Int)) : Nat → Bool
  | 0 => true
  | i + 1 => szB ds i && decide (1 ≤ (ds.getD i d0).2 ∧ (ds.getD i d0).2 ≤ 4096 ∧ kyA ds (i + 1) ≤ 1099511627776)
def viB (F : Int) (zs : List Int) : Nat → Bool
  | 0 => true
  | i + 1 => viB F zs i && decide (zs.getD i 0 < F ∧ (i = 0 ∨ zs.getD (i - 1) 0 < zs.getD i 0))
def nmB (l : List ByteArray) : Nat → Bool
  | 0 => true
  | i + 1 => nmB l i && isS (l.getD i be0)
theorem mono_b {f : Nat → Bool} (hs : ∀ i, f (i + 1) = true → f i = true) {i n : Nat} (h : i ≤ n) (hn : f n = true) : f i = true := by
  induction n with
  | zero => obtain rfl : i = 0 := by omega
            exact hn
  | succ n ih =>
    rcases Nat.lt_or_ge n i with h' | h'
    · obtain rfl : i = n + 1 := by omega
      exact hn
    · exact ih h' (hs n hn)
theorem mono_f {f : Nat → Bool} (hs : ∀ i, f (i + 1) = true → f i = true) {i n : Nat} (h : i ≤ n) (hn : f i = false) : f n = false := by
  cases hc : f n with
  | false => rfl
  | true => rw [mono_b hs h hc] at hn; cases hn
theorem szB_s (ds : List (ByteArray × Int)) (i : Nat) (h : szB ds (i + 1) = true) : szB ds i = true := by simp only [szB, Bool.and_eq_true] at h; exact h.1
theorem viB_s (F : Int) (zs : List Int) (i : Nat) (h : viB F zs (i + 1) = true) : viB F zs i = true := by simp only [viB, Bool.and_eq_true] at h; exact h.1
theorem nmB_s (l : List ByteArray) (i : Nat) (h : nmB l (i + 1) = true) : nmB l i = true := by simp only [nmB, Bool.and_eq_true] at h; exact h.1
theorem szB_at {ds : List (ByteArray × Int)} {i : Nat} (h : szB ds (i + 1) = true) : 1 ≤ (ds.getD i d0).2 ∧ (ds.getD i d0).2 ≤ 4096 ∧ kyA ds (i + 1) ≤ 1099511627776 := by
  simp only [szB, Bool.and_eq_true] at h; exact of_decide_eq_true h.2
theorem szB_mk {ds : List (ByteArray × Int)} {i : Nat} (h : szB ds i = true) (k : 1 ≤ (ds.getD i d0).2 ∧ (ds.getD i d0).2 ≤ 4096 ∧ kyA ds (i + 1) ≤ 1099511627776) : szB ds (i + 1) = true := by
  simp only [szB, Bool.and_eq_true]; exact ⟨h, decide_eq_true k⟩
theorem szB_no {ds : List (ByteArray × Int)} {i : Nat} (k : ¬ (1 ≤ (ds.getD i d0).2 ∧ (ds.getD i d0).2 ≤ 4096 ∧ kyA ds (i + 1) ≤ 1099511627776)) : szB ds (i + 1) = false := by
  cases hc : szB ds (i + 1) with
  | false => rfl
  | true => exact absurd (szB_at hc) k
theorem viB_at {F : Int} {zs : List Int} {i : Nat} (h : viB F zs (i + 1) = true) : zs.getD i 0 < F ∧ (i = 0 ∨ zs.getD (i - 1) 0 < zs.getD i 0) := by
  simp only [viB, Bool.and_eq_true] at h; exact of_decide_eq_true h.2
theorem viB_mk {F : Int} {zs : List Int} {i : Nat} (h : viB F zs i = true) (k : zs.getD i 0 < F ∧ (i = 0 ∨ zs.getD (i - 1) 0 < zs.getD i 0)) : viB F zs (i + 1) = true := by
  simp only [viB, Bool.and_eq_true]; exact ⟨h, decide_eq_true k⟩
theorem viB_no {F : Int} {zs : List Int} {i : Nat} (k : ¬ (zs.getD i 0 < F ∧ (i = 0 ∨ zs.getD (i - 1) 0 < zs.getD i 0))) : viB F zs (i + 1) = false := by
  cases hc : viB F zs (i + 1) with
  | false => rfl
  | true => exact absurd (viB_at hc) k
theorem nmB_at {l : List ByteArray} {i : Nat} (h : nmB l (i + 1) = true) : isS (l.getD i be0) = true := by
  simp only [nmB, Bool.and_eq_true] at h; exact h.2
theorem nmB_mk {l : List ByteArray} {i : Nat} (h : nmB l i = true) (k : isS (l.getD i be0) = true) : nmB l (i + 1) = true := by
  simp only [nmB, Bool.and_eq_true]; exact ⟨h, k⟩
theorem nmB_no {l : List ByteArray} {i : Nat} (k : isS (l.getD i be0) = false) : nmB l (i + 1) = false := by
  simp only [nmB, k, Bool.and_false]
theorem kyA_bd {ds : List (ByteArray × Int)} {n : Nat} (h : szB ds n = true) : 1 ≤ kyA ds n ∧ kyA ds n ≤ 1099511627776 := by
  induction n with
  | zero => exact ⟨Int.le_refl _, show (1 : Int) ≤ 1099511627776 by decide⟩
  | succ n ih =>
    have h1 := ih (szB_s _ _ h)
    have h2 := szB_at h
    refine ⟨?_, h2.2.2⟩
    have : kyA ds (n + 1) = kyA ds n * (ds.getD n d0).2 := rfl
    rw [this]
    have := Int.mul_le_mul h1.1 h2.1 (by decide) (by omega)
    simpa using this
theorem kyP_bd {ds : List (ByteArray × Int)} (m : Nat) {n : Nat} (h : szB ds n = true) : ∀ i, i ≤ n → 0 ≤ kyP ds m i ∧ kyP ds m i ≤ 1099511627776 := by
  have key : ∀ i, i ≤ n → 1 ≤ kyP ds m i ∧ kyP ds m i ≤ kyA ds i := by
    intro i
    induction i with
    | zero => intro _; exact ⟨Int.le_refl _, Int.le_refl _⟩
    | succ i ih =>
      intro hi
      obtain ⟨g1, g2⟩ := ih (by omega)
      have hs := szB_at (mono_b (szB_s ds) hi h)
      have hA : kyA ds (i + 1) = kyA ds i * (ds.getD i d0).2 := rfl
      have hm : kyA ds i * (ds.getD i d0).2 ≥ kyP ds m i * (ds.getD i d0).2 := Int.mul_le_mul_of_nonneg_right g2 (by omega)
      have hm1 : kyP ds m i ≤ kyP ds m i * (ds.getD i d0).2 := by
        have := Int.mul_le_mul_of_nonneg_left hs.1 (show 0 ≤ kyP ds m i by omega)
        simpa using this
      have hP : kyP ds m (i + 1) = if m.testBit i then kyP ds m i * (ds.getD i d0).2 else kyP ds m i := rfl
      rw [hP, hA]
      split
      · exact ⟨by omega, hm⟩
      · exact ⟨g1, by omega⟩
  intro i hi
  have h1 := key i hi
  have h2 := kyA_bd (mono_b (szB_s ds) hi h)
  omega
theorem ky_next {ds : List (ByteArray × Int)} {i : Nat} (hz : szB ds i = true) (h1 : 1 ≤ (ds.getD i d0).2) (h2 : (ds.getD i d0).2 ≤ 4096) : 1 ≤ kyA ds (i + 1) ∧ kyA ds (i + 1) ≤ 1099511627776 * 4096 := by
  have hb := kyA_bd hz
  have hA : kyA ds (i + 1) = kyA ds i * (ds.getD i d0).2 := rfl
  rw [hA]
  constructor
  · have := Int.mul_le_mul hb.1 h1 (by decide) (by omega)
    simpa using this
  · exact Int.mul_le_mul hb.2 h2 (by omega) (by decide)
/-- why a schema isn't right -/
def chk (nd n1 n2 nv : Nat) (ds : List (ByteArray × Int)) (s1 s2 : List ByteArray) (zs : List Int) : Int :=
  if ¬ (1 ≤ nd ∧ nd ≤ 6 ∧ n1 ≤ 3 ∧ n2 ≤ 2 ∧ nv ≤ 15) then 3
  else if nmB (nmL ds s1 s2) (nd + n1 + n2) = false then 8
  else if 0 ≤ tw (nmL ds s1 s2) then 9
  else if szB ds nd = false then 2
  else if viB ((2 ^ nd - 1 : Nat) : Int) zs nv = false then 6
  else 0
section
variable {nd n1 n2 nv : Nat} {ds : List (ByteArray × Int)} {s1 s2 : List ByteArray} {zs : List Int}
theorem chk_3 (h : ¬ (1 ≤ nd ∧ nd ≤ 6 ∧ n1 ≤ 3 ∧ n2 ≤ 2 ∧ nv ≤ 15)) : chk nd n1 n2 nv ds s1 s2 zs = 3 := by unfold chk; rw [if_pos h]
theorem chk_8 (h : 1 ≤ nd ∧ nd ≤ 6 ∧ n1 ≤ 3 ∧ n2 ≤ 2 ∧ nv ≤ 15) (h8 : nmB (nmL ds s1 s2) (nd + n1 + n2) = false) : chk nd n1 n2 nv ds s1 s2 zs = 8 := by unfold chk; rw [if_neg (fun k => k h), if_pos h8]
theorem chk_9 (h : 1 ≤ nd ∧ nd ≤ 6 ∧ n1 ≤ 3 ∧ n2 ≤ 2 ∧ nv ≤ 15) (h8 : nmB (nmL ds s1 s2) (nd + n1 + n2) = true) (h9 : 0 ≤ tw (nmL ds s1 s2)) : chk nd n1 n2 nv ds s1 s2 zs = 9 := by unfold chk; rw [if_neg (fun k => k h), if_neg (by rw [h8]; decide), if_pos h9]
theorem chk_2 (h : 1 ≤ nd ∧ nd ≤ 6 ∧ n1 ≤ 3 ∧ n2 ≤ 2 ∧ nv ≤ 15) (h8 : nmB (nmL ds s1 s2) (nd + n1 + n2) = true) (h9 : ¬ 0 ≤ tw (nmL ds s1 s2)) (h2 : szB ds nd = false) : chk nd n1 n2 nv ds s1 s2 zs = 2 := by unfold chk; rw [if_neg (fun k => k h), if_neg (by rw [h8]; decide), if_neg h9, if_pos h2]
theorem chk_6 (h : 1 ≤ nd ∧ nd ≤ 6 ∧ n1 ≤ 3 ∧ n2 ≤ 2 ∧ nv ≤ 15) (h8 : nmB (nmL ds s1 s2) (nd + n1 + n2) = true) (h9 : ¬ 0 ≤ tw (nmL ds s1 s2)) (h2 : szB ds nd = true) (h6 : viB ((2 ^ nd - 1 : Nat) : Int) zs nv = false) : chk nd n1 n2 nv ds s1 s2 zs = 6 := by unfold chk; rw [if_neg (fun k => k h), if_neg (by rw [h8]; decide), if_neg h9, if_neg (by rw [h2]; decide), if_pos h6]
theorem chk_0 (h : 1 ≤ nd ∧ nd ≤ 6 ∧ n1 ≤ 3 ∧ n2 ≤ 2 ∧ nv ≤ 15) (h8 : nmB (nmL ds s1 s2) (nd + n1 + n2) = true) (h9 : ¬ 0 ≤ tw (nmL ds s1 s2)) (h2 : szB ds nd = true) (h6 : viB ((2 ^ nd - 1 : Nat) : Int) zs nv = true) : chk nd n1 n2 nv ds s1 s2 zs = 0 := by unfold chk; rw [if_neg (fun k => k h), if_neg (by rw [h8]; decide), if_neg h9, if_neg (by rw [h2]; decide), if_neg (by rw [h6]; decide)]
theorem chk_ok (h : chk nd n1 n2 nv ds s1 s2 zs = 0) : (1 ≤ nd ∧ nd ≤ 6 ∧ n1 ≤ 3 ∧ n2 ≤ 2 ∧ nv ≤ 15) ∧ szB ds nd = true ∧ viB ((2 ^ nd - 1 : Nat) : Int) zs nv = true := by
  unfold chk at h
  split at h
  · cases h
  · rename_i h1
    split at h
    · cases h
    · split at h
      · cases h
      · split at h
        · cases h
        · rename_i h2
          split at h
          · cases h
          · rename_i h6
            exact ⟨Decidable.not_not.1 h1, by simpa using h2, by simpa using h6⟩
end
end Go.Proofs.Ytlipeplfjkgamaa
