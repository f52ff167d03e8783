/-
  Keys by definition: the key of codes, the codes of a key, one the inverse of the other.
-/
import Derived.Test.YtmiieppcoknmfaaSchPlain
namespace Go.Proofs.Ytmiieppcoknmfaa
set_option maxRecDepth 100000
set_option linter.unusedVariables false
/-- a dimension's size -/
def szD (ds : List (ByteArray × Int)) (i : Nat) : Int := (ds.getD i d0).2
/-- the key of the first codes -/
def kyO (ds : List (ByteArray × Int)) (m : Nat) (cs : List Int) : Nat → Int
  | 0 => 0
  | i + 1 => if m.testBit i then kyO ds m cs i * szD ds i + cs.getD i 0 else kyO ds m cs i
/-- the first codes may be -/
def okO (ds : List (ByteArray × Int)) (m : Nat) (cs : List Int) : Nat → Bool
  | 0 => true
  | i + 1 => okO ds m cs i && (!m.testBit i || decide (0 ≤ cs.getD i 0 ∧ cs.getD i 0 < szD ds i))
theorem okO_s (ds : List (ByteArray × Int)) (m : Nat) (cs : List Int) (i : Nat) (h : okO ds m cs (i + 1) = true) : okO ds m cs i = true := by simp only [okO, Bool.and_eq_true] at h; exact h.1
theorem okO_at {ds : List (ByteArray × Int)} {m : Nat} {cs : List Int} {i : Nat} (h : okO ds m cs (i + 1) = true) (hb : m.testBit i = true) : 0 ≤ cs.getD i 0 ∧ cs.getD i 0 < szD ds i := by
  simp only [okO, Bool.and_eq_true, hb, Bool.not_true, Bool.false_or] at h
  exact of_decide_eq_true h.2
theorem okO_mk {ds : List (ByteArray × Int)} {m : Nat} {cs : List Int} {i : Nat} (h : okO ds m cs i = true) (k : m.testBit i = true → 0 ≤ cs.getD i 0 ∧ cs.getD i 0 < szD ds i) : okO ds m cs (i + 1) = true := by
  simp only [okO, Bool.and_eq_true]
  refine ⟨h, ?_⟩
  cases hb : m.testBit i
  · rfl
  · simp only [Bool.not_true, Bool.false_or]; exact decide_eq_true (k hb)
theorem okO_no {ds : List (ByteArray × Int)} {m : Nat} {cs : List Int} {i : Nat} (hb : m.testBit i = true) (k : ¬ (0 ≤ cs.getD i 0 ∧ cs.getD i 0 < szD ds i)) : okO ds m cs (i + 1) = false := by
  cases hc : okO ds m cs (i + 1) with
  | false => rfl
  | true => exact absurd (okO_at hc hb) k
theorem okO_all {ds : List (ByteArray × Int)} {m : Nat} {cs : List Int} {n : Nat} (h : ∀ i, i < n → m.testBit i = true → 0 ≤ cs.getD i 0 ∧ cs.getD i 0 < szD ds i) : okO ds m cs n = true := by
  induction n with
  | zero => rfl
  | succ n ih => exact okO_mk (ih fun i hi => h i (by omega)) (h n (by omega))
/-- how many keys the codes from one dimension on, so many, have -/
def blw (ds : List (ByteArray × Int)) (m i : Nat) : Nat → Int
  | 0 => 1
  | d + 1 => if m.testBit (i + d) then blw ds m i d * szD ds (i + d) else blw ds m i d
theorem blw_head (ds : List (ByteArray × Int)) (m i : Nat) : ∀ d, blw ds m i (d + 1) = (if m.testBit i then szD ds i else 1) * blw ds m (i + 1) d
  | 0 => by
    simp only [blw, Nat.add_zero]
    split <;> simp
  | d + 1 => by
    have ih := blw_head ds m i d
    have e : i + (d + 1) = i + 1 + d := by omega
    have h1 : blw ds m i (d + 1 + 1) = if m.testBit (i + (d + 1)) then blw ds m i (d + 1) * szD ds (i + (d + 1)) else blw ds m i (d + 1) := rfl
    have h2 : blw ds m (i + 1) (d + 1) = if m.testBit (i + 1 + d) then blw ds m (i + 1) d * szD ds (i + 1 + d) else blw ds m (i + 1) d := rfl
    rw [h1, h2, e]
    split
    · rw [ih, Int.mul_assoc]
    · exact ih
theorem kyP_blw (ds : List (ByteArray × Int)) (m : Nat) : ∀ n, kyP ds m n = blw ds m 0 n
  | 0 => rfl
  | n + 1 => by
    have h1 : kyP ds m (n + 1) = if m.testBit n then kyP ds m n * szD ds n else kyP ds m n := rfl
    have h2 : blw ds m 0 (n + 1) = if m.testBit (0 + n) then blw ds m 0 n * szD ds (0 + n) else blw ds m 0 n := rfl
    rw [h1, h2, Nat.zero_add, kyP_blw ds m n]
section
variable {ds : List (ByteArray × Int)} {m n : Nat}
theorem szD_bd (hS : szB ds n = true) {i : Nat} (hi : i < n) : 1 ≤ szD ds i ∧ szD ds i ≤ 4096 := by
  have := szB_at (mono_b (szB_s ds) (by omega : i + 1 ≤ n) hS)
  exact ⟨this.1, this.2.1⟩
theorem blw_pos (hS : szB ds n = true) (i : Nat) : ∀ d, i + d ≤ n → 1 ≤ blw ds m i d
  | 0, _ => Int.le_refl _
  | d + 1, h => by
    have ih := blw_pos hS i d (by omega)
    have hb := szD_bd hS (show i + d < n by omega)
    have h1 : blw ds m i (d + 1) = if m.testBit (i + d) then blw ds m i d * szD ds (i + d) else blw ds m i d := rfl
    rw [h1]
    split
    · have := Int.mul_le_mul ih hb.1 (by decide) (by omega)
      simpa using this
    · exact ih
theorem blw_le (hS : szB ds n = true) (i : Nat) : ∀ d, i + d ≤ n → blw ds m i d ≤ 1099511627776 := by
  have hP : ∀ i d, i + d ≤ n → blw ds m (i + 1) (d - 1) ≤ blw ds m i d ∨ d = 0 := by
    intro i d h
    match d with
    | 0 => exact .inr rfl
    | d + 1 =>
      left
      have hb := szD_bd hS (show i < n by omega)
      have hp := blw_pos (m := m) hS (i + 1) d (by omega)
      rw [blw_head, Nat.add_sub_cancel]
      split
      · have := Int.mul_le_mul_of_nonneg_right hb.1 (show 0 ≤ blw ds m (i + 1) d by omega)
        simpa using this
      · simp
  have key : ∀ i d, i + d ≤ n → blw ds m i d ≤ blw ds m 0 (i + d) := by
    intro i
    induction i with
    | zero => intro d _; rw [Nat.zero_add]; exact Int.le_refl _
    | succ i ih =>
      intro d h
      have h1 := hP i (d + 1) (by omega)
      rw [Nat.add_sub_cancel] at h1
      have h2 := ih (d + 1) (by omega)
      rcases h1 with h1 | h1
      · rw [show i + 1 + d = i + (d + 1) by omega]; omega
      · omega
  intro d h
  have h1 := key i d h
  have h2 := (kyP_bd m (mono_b (szB_s ds) h hS) (i + d) (Nat.le_refl _)).2
  rw [kyP_blw] at h2
  omega
theorem kyO_bd (hS : szB ds n = true) {cs : List Int} : ∀ i, i ≤ n → okO ds m cs i = true → 0 ≤ kyO ds m cs i ∧ kyO ds m cs i < kyP ds m i
  | 0, _, _ => ⟨Int.le_refl _, show (0 : Int) < 1 by decide⟩
  | i + 1, hi, ho => by
    obtain ⟨h1, h2⟩ := kyO_bd hS i (by omega) (okO_s _ _ _ _ ho)
    have hb := szD_bd hS (show i < n by omega)
    have e1 : kyO ds m cs (i + 1) = if m.testBit i then kyO ds m cs i * szD ds i + cs.getD i 0 else kyO ds m cs i := rfl
    have e2 : kyP ds m (i + 1) = if m.testBit i then kyP ds m i * szD ds i else kyP ds m i := rfl
    rw [e1, e2]
    split
    · rename_i ht
      have hc := okO_at ho ht
      have p1 := Int.mul_nonneg h1 (show 0 ≤ szD ds i by omega)
      have p2 := Int.mul_le_mul_of_nonneg_right (show kyO ds m cs i + 1 ≤ kyP ds m i by omega) (show 0 ≤ szD ds i by omega)
      rw [Int.add_mul, Int.one_mul] at p2
      omega
    · exact ⟨h1, h2⟩
/-- a key, as its first part and the rest -/
theorem kyO_split (hS : szB ds n = true) {cs : List Int} (i : Nat) : ∀ d, i + d ≤ n → okO ds m cs (i + d) = true → ∃ r, kyO ds m cs (i + d) = kyO ds m cs i * blw ds m i d + r ∧ 0 ≤ r ∧ r < blw ds m i d
  | 0, _, _ => ⟨0, by simp [blw], Int.le_refl _, show (0 : Int) < 1 by decide⟩
  | d + 1, h, ho => by
    obtain ⟨r, e, h1, h2⟩   := kyO_split hS i d (by omega) (okO_s _ _ _ _ ho)
    have hb := szD_bd hS (show i + d < n by omega)
    have e1 : kyO ds m cs (i + (d + 1)) = if m.testBit (i + d) then kyO ds m cs (i + d) * szD ds (i + d) + cs.getD (i + d) 0 else kyO ds m cs (i + d) := rfl
    have e2 : blw ds m i (d + 1) = if m.testBit (i + d) then blw ds m i d * szD ds (i + d) else blw ds m i d := rfl
    rw [e1, e2]
    split
    · rename_i ht
      have hc : 0 ≤ cs.getD (i + d) 0 ∧ cs.getD (i + d) 0 < szD ds (i + d) := okO_at ho ht
      refine ⟨r * szD ds (i + d) + cs.getD (i + d) 0, by rw [e, Int.add_mul, Int.mul_assoc]; omega, ?_, ?_⟩
      · have := Int.mul_nonneg h1 (show 0 ≤ szD ds (i + d) by omega); omega
      · have p2 := Int.mul_le_mul_of_nonneg_right (show r + 1 ≤ blw ds m i d by omega) (show 0 ≤ szD ds (i + d) by omega)
        rw [Int.add_mul, Int.one_mul] at p2
        omega
    · exact ⟨r, e, h1, h2⟩
theorem kyO_div (hS : szB ds n = true) {cs : List Int} (ho : okO ds m cs n = true) {i : Nat} (hi : i ≤ n) : kyO ds m cs n / blw ds m i (n - i) = kyO ds m cs i := by
  obtain ⟨r, e, h1, h2⟩ := kyO_split (m := m) (cs := cs) hS i (n - i) (by omega) (by rw [show i + (n - i) = n by omega]; exact ho)
  rw [show i + (n - i) = n by omega] at e
  rw [e, Int.mul_comm, Int.mul_add_ediv_left _ _ (by omega), Int.ediv_eq_zero_of_lt h1 h2]
  omega
end
/-- a key's code of one dimension -/
def cdK (ds : List (ByteArray × Int)) (m n : Nat) (k : Int) (i : Nat) : Int := if m.testBit i then k / blw ds m (i + 1) (n - (i + 1)) % szD ds i else -1
/-- a key's codes -/
def coK (ds : List (ByteArray × Int)) (m n : Nat) (k : Int) : List Int := (List.range n).map (cdK ds m n k)
/-- codes, those outside of a set left out -/
def mkC (m n : Nat) (cs : List Int) : List Int := (List.range n).map fun i => if m.testBit i then cs.getD i 0 else -1
theorem coK_length (ds : List (ByteArray × Int)) (m n : Nat) (k : Int) : (coK ds m n k).length = n := by simp [coK]
theorem range_getD {f : Nat → Int} {n i : Nat} (hi : i < n) : ((List.range n).map f).getD i 0 = f i := by simp [List.getD, hi]
theorem coK_at {ds : List (ByteArray × Int)} {m n : Nat} {k : Int} {i : Nat} (hi : i < n) : (coK ds m n k).getD i 0 = cdK ds m n k i := range_getD hi
section
variable {ds : List (ByteArray × Int)} {m n : Nat}
theorem coK_of (hS : szB ds n = true) {cs : List Int} (ho : okO ds m cs n = true) : coK ds m n (kyO ds m cs n) = mkC m n cs := by
  unfold coK mkC
  apply List.map_congr_left
  intro i hi
  have hi : i < n := List.mem_range.1 hi
  unfold cdK
  split
  · rename_i ht
    rw [kyO_div hS ho (by omega : i + 1 ≤ n)]
    have e1 : kyO ds m cs (i + 1) = if m.testBit i then kyO ds m cs i * szD ds i + cs.getD i 0 else kyO ds m cs i := rfl
    rw [e1, if_pos ht]
    have hc := okO_at (mono_b (okO_s ds m cs) (by omega : i + 1 ≤ n) ho) ht
    rw [Int.add_comm, Int.add_mul_emod_self_right]
    exact Int.emod_eq_of_lt hc.1 hc.2
  · rfl
theorem cdK_bd (hS : szB ds n = true) {k : Int} {i : Nat} (hi : i < n) (ht : m.testBit i = true) : 0 ≤ cdK ds m n k i ∧ cdK ds m n k i < szD ds i := by
  have hb := szD_bd hS hi
  unfold cdK
  rw [if_pos ht]
  exact ⟨Int.emod_nonneg _ (by omega), Int.emod_lt_of_pos _ (by omega)⟩
/-- codes of a key of a greater set serve a smaller one -/
theorem okO_co (hS : szB ds n = true) {m' : Nat} (hsub : ∀ i, m'.testBit i = true → m.testBit i = true) (k : Int) : okO ds m' (coK ds m n k) n = true :=
  okO_all fun i hi ht => by rw [coK_at hi]; exact cdK_bd hS hi (hsub i ht)
end
theorem kyO_congr {ds : List (ByteArray × Int)} {m : Nat} {cs cs' : List Int} : ∀ {n : Nat}, (∀ i, i < n → m.testBit i = true → cs.getD i 0 = cs'.getD i 0) → kyO ds m cs n = kyO ds m cs' n
  | 0, _ => rfl
  | n + 1, h => by
    have ih := kyO_congr (ds := ds) (fun i hi => h i (Nat.lt_succ_of_lt hi) : ∀ i, i < n → m.testBit i = true → cs.getD i 0 = cs'.getD i 0)
    have e1 : kyO ds m cs (n + 1) = if m.testBit n then kyO ds m cs n * szD ds n + cs.getD n 0 else kyO ds m cs n := rfl
    have e2 : kyO ds m cs' (n + 1) = if m.testBit n then kyO ds m cs' n * szD ds n + cs'.getD n 0 else kyO ds m cs' n := rfl
    rw [e1, e2, ih]
    split
    · rename_i ht
      rw [h n (Nat.lt_succ_self n) ht]
    · rfl
/-- in two steps as in one -/
theorem kyO_twice {ds : List (ByteArray × Int)} {a b c n : Nat} (hS : szB ds n = true) (hba : ∀ i, b.testBit i = true → a.testBit i = true) (hcb : ∀ i, c.testBit i = true → b.testBit i = true) (k : Int) :
    kyO ds c (coK ds b n (kyO ds b (coK ds a n k) n)) n = kyO ds c (coK ds a n k) n := by
  rw [coK_of hS (okO_co hS hba k)]
  refine kyO_congr fun i hi ht => ?_
  rw [mkC, range_getD hi, if_pos (hcb i ht)]
/-- keys stand in the order of the codes -/
theorem kyO_lt {ds : List (ByteArray × Int)} {m n : Nat} (hS : szB ds n = true) {cs cs' : List Int} (ho : okO ds m cs n = true) (ho' : okO ds m cs' n = true) {i : Nat} (hi : i < n) (ht : m.testBit i = true)
    (he : ∀ j, j < i → m.testBit j = true → cs.getD j 0 = cs'.getD j 0) (hl : cs.getD i 0 < cs'.getD i 0) : kyO ds m cs n < kyO ds m cs' n := by
  have key : ∀ d, i + 1 + d ≤ n → kyO ds m cs (i + 1 + d) < kyO ds m cs' (i + 1 + d) := by
    intro d
    induction d with
    | zero =>
      intro _
      have e1 : kyO ds m cs (i + 1) = if m.testBit i then kyO ds m cs i * szD ds i + cs.getD i 0 else kyO ds m cs i := rfl
      have e2 : kyO ds m cs' (i + 1) = if m.testBit i then kyO ds m cs' i * szD ds i + cs'.getD i 0 else kyO ds m cs' i := rfl
      rw [Nat.add_zero, e1, e2, if_pos ht, if_pos ht, kyO_congr he]
      omega
    | succ d ih =>
      intro h
      have ih := ih (by omega)
      have hb := szD_bd hS (show i + 1 + d < n by omega)
      have e1 : kyO ds m cs (i + 1 + (d + 1)) = if m.testBit (i + 1 + d) then kyO ds m cs (i + 1 + d) * szD ds (i + 1 + d) + cs.getD (i + 1 + d) 0 else kyO ds m cs (i + 1 + d) := rfl
      have e2 : kyO ds m cs' (i + 1 + (d + 1)) = if m.testBit (i + 1 + d) then kyO ds m cs' (i + 1 + d) * szD ds (i + 1 + d) + cs'.getD (i + 1 + d) 0 else kyO ds m cs' (i + 1 + d) := rfl
      rw [e1, e2]
      split
      · rename_i ht2
        have c1 := okO_at (mono_b (okO_s ds m cs) (by omega : i + 1 + d + 1 ≤ n) ho) ht2
        have c2 := okO_at (mono_b (okO_s ds m cs') (by omega : i + 1 + d + 1 ≤ n) ho') ht2
        have p2 := Int.mul_le_mul_of_nonneg_right (show kyO ds m cs (i + 1 + d) + 1 ≤ kyO ds m cs' (i + 1 + d) by omega) (show 0 ≤ szD ds (i + 1 + d) by omega)
        rw [Int.add_mul, Int.one_mul] at p2
        omega
      · exact ih
  have := key (n - (i + 1)) (by omega)
  rwa [show i + 1 + (n - (i + 1)) = n by omega] at this
end Go.Proofs.Ytmiieppcoknmfaa
