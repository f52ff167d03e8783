
/-
  Plain mathematics: bytes laid over others, numbers as bytes, the highest first.
-/
namespace Go.Proofs.Ytmnlaekcojblkaa
namespace Byts
/-- bytes laid over others from a place on -/
def lay (zs : List Int) (off : Nat) (bs : List Int) : List Int := zs.take off ++ (bs ++ zs.drop (off + bs.length))
section
variable {zs bs : List Int} {off k : Nat}
theorem lay_nil : lay zs off [] = zs := by simp [lay]
theorem lay_length (h : off + bs.length ≤ zs.length) : (lay zs off bs).length = zs.length := by simp [lay]; omega
theorem lay_at (hk : k < bs.length) (h : off + bs.length ≤ zs.length) : (lay zs off (bs.take k))[off + k]? = zs[off + k]? := by
  unfold lay
  rw [List.getElem?_append_right (by simp; omega), List.getElem?_append_right (by simp; omega)]
  rw [List.getElem?_drop]
  congr 1
  simp; omega
theorem lay_set (hk : k < bs.length) (h : off + bs.length ≤ zs.length) : (lay zs off (bs.take k)).set (off + k) (bs.getD k 0) = lay zs off (bs.take (k + 1)) := by
  unfold lay
  rw [List.set_append_right _ _ (by simp; omega), List.set_append_right _ _ (by simp; omega)]
  have e1 : off + k - (zs.take off).length - (bs.take k).length = 0 := by simp; omega
  have e2 : (bs.take k).length = k := by simp; omega
  have e3 : (bs.take (k + 1)).length = k + 1 := by simp; omega
  rw [e1, e2, e3, List.take_succ_eq_append_getElem hk, List.append_assoc, List.drop_eq_getElem_cons (show off + k < zs.length by omega)]
  simp [List.getD, hk, Nat.add_assoc]
theorem lay_mem {p : Int → Prop} (hz : ∀ z ∈ zs, p z) (hb : ∀ z ∈ bs, p z) : ∀ z ∈ lay zs off bs, p z := by
  intro z h
  simp only [lay, List.mem_append] at h
  rcases h with h | h | h
  · exact hz z (List.mem_of_mem_take h)
  · exact hb z h
  · exact hz z (List.mem_of_mem_drop h)
end
/-- a number's n bytes, the highest first -/
def be (n : Nat) (x : Int) : List Int := (List.range n).map fun i => x / 256 ^ (n - 1 - i) % 256
theorem be_length (n : Nat) (x : Int) : (be n x).length = n := by simp [be]
theorem be_getD (n : Nat) (x : Int) (i : Nat) (h : i < n) : (be n x).getD i 0 = x / 256 ^ (n - 1 - i) % 256 := by simp [be, List.getD, h]
theorem be_bytes (n : Nat) (x : Int) : ∀ z ∈ be n x, 0 ≤ z ∧ z < 256 := by
  intro z h
  simp only [be, List.mem_map] at h
  obtain ⟨i, _, rfl⟩ := h
  omega
theorem be_succ (n : Nat) (x : Int) : be (n + 1) x = be n (x / 256) ++ [x % 256] := by
  unfold be
  rw [List.range_succ, List.map_append]
  congr 1
  · apply List.map_congr_left
    intro i hi
    have hi' : i < n := List.mem_range.1 hi
    rw [Int.ediv_ediv_of_nonneg (by omega : (0 : Int) ≤ 256)]
    rw [show n + 1 - 1 - i = (n - 1 - i) + 1 by omega, Int.pow_succ, Int.mul_comm 256]
  · simp
/-- the number of bytes, the highest first -/
def num (bs : List Int) : Int := bs.foldl (fun x c => 256 * x + c) 0
theorem num_snoc (bs : List Int) (c : Int) : num (bs ++ [c]) = 256 * num bs + c := by simp [num]
theorem num_lt (bs : List Int) (h : ∀ z ∈ bs, 0 ≤ z ∧ z < 256) : 0 ≤ num bs ∧ num bs < 256 ^ bs.length := by
  have key : ∀ n, ∀ bs : List Int, bs.length = n → (∀ z ∈ bs, 0 ≤ z ∧ z < 256) → 0 ≤ num bs ∧ num bs < 256 ^ n := by
    intro n
    induction n with
    | zero => intro bs hl _; have : bs = [] := List.eq_nil_of_length_eq_zero hl; subst this; simp [num]
    | succ n ih =>
      intro bs hl hb
      have hne : bs ≠ [] := by intro h0; subst h0; simp at hl
      rw [← List.dropLast_concat_getLast hne] at hb ⊢
      obtain ⟨i1, i2⟩ := ih bs.dropLast (by simp [hl]) (fun z hz => hb z (by simp [hz]))
      have hc := hb (bs.getLast hne) (by simp)
      rw [num_snoc, Int.pow_succ]
      omega
  exact key _ bs rfl h
theorem num_be (n : Nat) : ∀ x : Int, 0 ≤ x → x < 256 ^ n → num (be n x) = x := by
  induction n with
  | zero => intro x h0 h1; simp [be, num]; simp at h1; omega
  | succ n ih =>
    intro x h0 h1
    rw [be_succ, num_snoc, ih (x / 256) (by omega) (by rw [Int.pow_succ] at h1; omega)]
    omega
theorem be_num (bs : List Int) (h : ∀ z ∈ bs, 0 ≤ z ∧ z < 256) : be bs.length (num bs) = bs := by
  have key : ∀ n, ∀ bs : List Int, bs.length = n → (∀ z ∈ bs, 0 ≤ z ∧ z < 256) → be n (num bs) = bs := by
    intro n
    induction n with
    | zero => intro bs hl _; have : bs = [] := List.eq_nil_of_length_eq_zero hl; subst this; rfl
    | succ n ih =>
      intro bs hl hb
      have hne : bs ≠ [] := by intro h0; subst h0; simp at hl
      have e := List.dropLast_concat_getLast hne
      rw [← e] at hb
      have hc := hb (bs.getLast hne) (by simp)
      have i1 := ih bs.dropLast (by simp [hl]) (fun z hz => hb z (by simp [hz]))
      conv => lhs; rw [← e]
      rw [num_snoc, be_succ, show (256 * num bs.dropLast + bs.getLast hne) / 256 = num bs.dropLast by omega, i1, show (256 * num bs.dropLast + bs.getLast hne) % 256 = bs.getLast hne by omega, e]
  exact key _ bs rfl h
end Byts
namespace Byts
/-- a number's bytes, filled from the last on -/
def fill (n k : Nat) (x : Int) : List Int := List.replicate (n - k) 0 ++ (be n x).drop (n - k)
theorem fill_zero (n : Nat) (x : Int) : fill n 0 x = List.replicate n 0 := by
  unfold fill
  rw [Nat.sub_zero, List.drop_of_length_le (by rw [be_length]; exact Nat.le_refl _), List.append_nil]
theorem fill_all (n : Nat) (x : Int) : fill n n x = be n x := by simp [fill]
theorem fill_length (n k : Nat) (x : Int) (_h : k ≤ n) : (fill n k x).length = n := by simp [fill, be_length]
theorem fill_at (n k : Nat) (x : Int) (h : k < n) : (fill n k x)[n - 1 - k]? = some 0 := by
  unfold fill
  rw [List.getElem?_append_left (by rw [List.length_replicate]; omega), List.getElem?_replicate, if_pos (by omega)]
theorem fill_set (n k : Nat) (x : Int) (h : k < n) : (fill n k x).set (n - 1 - k) (x / 256 ^ k % 256) = fill n (k + 1) x := by
  unfold fill
  have e1 : n - k = (n - 1 - k) + 1 := by omega
  have e2 : n - (k + 1) = n - 1 - k := by omega
  rw [List.set_append_left _ _ (by simp; omega), e2]
  have e3 : (List.replicate (n - k) (0 : Int)).set (n - 1 - k) (x / 256 ^ k % 256) = List.replicate (n - 1 - k) 0 ++ [x / 256 ^ k % 256] := by
    conv => lhs; rw [e1, List.replicate_succ']
    rw [List.set_append_right _ _ (by simp)]
    simp
  have hl : n - 1 - k < (be n x).length := by rw [be_length]; omega
  rw [e3, List.append_assoc, List.drop_eq_getElem_cons hl, e1]
  have e4 : (be n x)[n - 1 - k] = x / 256 ^ k % 256 := by
    have := be_getD n x (n - 1 - k) (by omega)
    rw [show n - 1 - (n - 1 - k) = k by omega] at this
    rw [← this]; simp [List.getD, hl]
  rw [e4]
  rfl
end Byts
end Go.Proofs.Ytmnlaekcojblkaa
/-
  Plain mathematics: the codes of numbers from 0 on, and of texts; what is read off the front of bytes.
-/
namespace Go.Proofs.Ytmnlaekcojblkaa
namespace Cod
open Byts
theorem p256 {m n : Nat} (h : m ≤ n) : (256 : Int) ^ m ≤ 256 ^ n := by
  obtain ⟨k, rfl⟩ : ∃ k, n = m + k := ⟨n - m, by omega⟩
  clear h
  induction k with
  | zero => exact Int.le_refl _
  | succ k ih =>
    have h0 : (0 : Int) ≤ 256 ^ (m + k) := Int.pow_nonneg (by decide)
    rw [← Nat.add_assoc, Int.pow_succ]
    omega
/-- how many bytes a number has -/
def wdN : Nat → Nat
  | 0 => 0
  | n + 1 => wdN ((n + 1) / 256) + 1
termination_by n => n
decreasing_by omega
def wd (x : Int) : Nat := wdN x.toNat
theorem wd_zero : wd 0 = 0 := by unfold wd; rw [Int.toNat_zero, wdN]
theorem wd_pos {x : Int} (h : 0 < x) : wd x = wd (x / 256) + 1 := by
  unfold wd
  obtain ⟨n, hn⟩ : ∃ n, x.toNat = n + 1 := ⟨x.toNat - 1, by omega⟩
  rw [hn, wdN]
  have e : (x / 256).toNat = (n + 1) / 256 := by omega
  rw [e]
theorem wd_lt (k : Nat) : ∀ x : Int, 0 ≤ x → x < 256 ^ k → wd x ≤ k := by
  induction k with
  | zero => intro x h0 h1; have : x = 0 := by simp at h1; omega
            subst this; rw [wd_zero]; exact Nat.le_refl _
  | succ k ih =>
    intro x h0 h1
    rcases Int.lt_or_le 0 x with h | h
    · rw [wd_pos h]
      have := ih (x / 256) (by omega) (by rw [Int.pow_succ] at h1; omega)
      omega
    · have : x = 0 := by omega
      subst this; rw [wd_zero]; omega
theorem wd_le8 {x : Int} (h0 : 0 ≤ x) (h1 : x ≤ 18446744073709551615) : wd x ≤ 8 := wd_lt 8 x h0 (by simp; omega)
theorem lt_wd : ∀ (k : Nat) (x : Int), 0 ≤ x → wd x = k → x < 256 ^ k := by
  intro k
  induction k with
  | zero => intro x h0 h; rcases Int.lt_or_le 0 x with h' | h'
            · rw [wd_pos h'] at h; omega
            · simp; omega
  | succ k ih =>
    intro x h0 h
    rcases Int.lt_or_le 0 x with h' | h'
    · rw [wd_pos h'] at h
      have := ih (x / 256) (by omega) (by omega)
      rw [Int.pow_succ]; omega
    · have : x = 0 := by omega
      subst this; exact Int.pow_pos (by decide)
theorem wd_step (x : Int) (k : Nat) : 0 < x / 256 ^ k → wd (x / 256 ^ k) = wd (x / 256 ^ (k + 1)) + 1 := by
  intro h
  rw [wd_pos h, Int.ediv_ediv_of_nonneg (Int.pow_nonneg (by decide)), ← Int.pow_succ]
/-- a number's bytes -/
def bz (x : Int) : List Int := be (wd x) x
/-- a number's code -/
def cu (x : Int) : List Int := (wd x : Int) :: bz x
theorem bz_length (x : Int) : (bz x).length = wd x := be_length _ _
theorem cu_length (x : Int) : (cu x).length = wd x + 1 := by simp [cu, bz_length]
theorem bz_bytes (x : Int) : ∀ z ∈ bz x, 0 ≤ z ∧ z < 256 := be_bytes _ _
theorem cu_bytes {x : Int} (h0 : 0 ≤ x) (h1 : x ≤ 18446744073709551615) : ∀ z ∈ cu x, 0 ≤ z ∧ z < 256 := by
  intro z hz
  have := wd_le8 h0 h1
  simp only [cu, List.mem_cons] at hz
  rcases hz with rfl | hz
  · omega
  · exact bz_bytes x z hz
theorem num_bz {x : Int} (h0 : 0 ≤ x) : num (bz x) = x := num_be _ x h0 (lt_wd _ x h0 rfl)
theorem bz_step {x : Int} (h : 0 < x) : bz x = bz (x / 256) ++ [x % 256] := by
  unfold bz
  rw [wd_pos h, be_succ]
theorem bz_zero : bz 0 = [] := by simp [bz, wd_zero, be]
/-- the first byte is none of naught -/
theorem bz_head : ∀ (k : Nat) (x : Int), wd x = k → 0 < k → (bz x).getD 0 0 ≠ 0 := by
  intro k
  induction k with
  | zero => intro x _ h; omega
  | succ k ih =>
    intro x h _
    have hx : 0 < x := by
      rcases Int.lt_or_le 0 x with h' | h'
      · exact h'
      · have : wd x = 0 := by unfold wd; rw [show x.toNat = 0 by omega, wdN]
        omega
    rw [wd_pos hx] at h
    rw [bz_step hx]
    rcases Nat.eq_zero_or_pos k with h0 | h0
    · have h1 := lt_wd 0 (x / 256) (by omega) (by omega)
      have h2 : x / 256 = 0 := by simp at h1; omega
      rw [h2, bz_zero]
      simp
      omega
    · have := ih (x / 256) (by omega) h0
      have hl : 0 < (bz (x / 256)).length := by rw [bz_length]; omega
      simp only [List.getD_eq_getElem?_getD] at this ⊢
      rw [List.getElem?_append_left hl]
      exact this
theorem num_cons : ∀ (bs : List Int) (c : Int), num (c :: bs) = c * 256 ^ bs.length + num bs := by
  intro bs c
  have key : ∀ (bs : List Int) (a : Int), bs.foldl (fun x c => 256 * x + c) a = a * 256 ^ bs.length + num bs := by
    intro bs
    induction bs with
    | nil => intro a; simp [num]
    | cons b t ih =>
      intro a
      have e : num (b :: t) = (256 * 0 + b) * 256 ^ t.length + num t := by
        show (b :: t).foldl (fun x c => 256 * x + c) 0 = _
        rw [List.foldl_cons, ih (256 * 0 + b)]
      rw [List.foldl_cons, ih, e]
      simp only [List.length_cons, Int.pow_succ, Int.add_mul, Int.mul_zero, Int.zero_add]
      rw [Int.add_assoc]
      congr 1
      rw [Int.mul_comm (256 ^ t.length) 256, ← Int.mul_assoc, Int.mul_comm a 256]
  have := key bs (256 * 0 + c)
  rw [show (256 * 0 + c) = c by omega] at this
  rw [← this]
  simp [num]
/-- bytes without a naught ahead are those of their number -/
theorem bz_num (bs : List Int) (h : ∀ z ∈ bs, 0 ≤ z ∧ z < 256) (h0 : bs ≠ [] → bs.getD 0 0 ≠ 0) : bz (num bs) = bs := by
  have hw : wd (num bs) = bs.length := by
    have hb := num_lt bs h
    have h1 := wd_lt bs.length _ hb.1 hb.2
    rcases Nat.lt_or_ge (wd (num bs)) bs.length with hlt | hge
    · exfalso
      have h2 := lt_wd _ _ hb.1 rfl
      cases bs with
      | nil => simp at hlt
      | cons c t =>
        have hc := h c (by simp)
        have hc0 := h0 (by simp)
        simp only [List.getD_eq_getElem?_getD, List.getElem?_cons_zero, Option.getD_some] at hc0
        have ht := num_lt t (fun z hz => h z (by simp [hz]))
        rw [num_cons] at h2 hlt
        simp only [List.length_cons] at hlt
        have hp : (256 : Int) ^ (wd (c * 256 ^ t.length + num t)) ≤ 256 ^ t.length := p256 (by omega)
        have hq : (1 : Int) * 256 ^ t.length ≤ c * 256 ^ t.length := Int.mul_le_mul_of_nonneg_right (by omega) (Int.pow_nonneg (by decide))
        rw [Int.one_mul] at hq
        omega
    · omega
  unfold bz
  rw [hw]
  exact be_num bs h
/-! ### a number read -/
/-- the number whose code stands ahead: the number, how many bytes, the error -/
def gu (zs : List Int) : Int × Nat × Int :=
  if zs.length = 0 then (0, 0, 5)
  else if 8 < zs.getD 0 0 ∨ (0 < zs.getD 0 0 ∧ 1 < zs.length ∧ zs.getD 1 0 = 0) then (0, 0, 6)
  else if (zs.length : Int) < zs.getD 0 0 + 1 then (0, 0, 5)
  else (num ((zs.drop 1).take (zs.getD 0 0).toNat), (zs.getD 0 0).toNat + 1, 0)
theorem gu_cu {x : Int} (h0 : 0 ≤ x) (h1 : x ≤ 18446744073709551615) (r : List Int) : gu (cu x ++ r) = (x, wd x + 1, 0) := by
  have h8 := wd_le8 h0 h1
  have e0 : (cu x ++ r).getD 0 0 = (wd x : Int) := by simp [cu]
  have el : (cu x ++ r).length = wd x + 1 + r.length := by rw [List.length_append, cu_length]
  have ed : (cu x ++ r).drop 1 = bz x ++ r := by simp [cu]
  have e1 : 0 < wd x → (cu x ++ r).getD 1 0 = (bz x).getD 0 0 := by
    intro h
    have : (bz x).length = wd x := bz_length x
    simp only [cu, List.cons_append, List.getD_eq_getElem?_getD, List.getElem?_cons_succ]
    rw [List.getElem?_append_left (by omega)]
  unfold gu
  rw [e0, el, ed, if_neg (by omega), if_neg, if_neg (by omega)]
  · rw [Int.toNat_natCast, ← bz_length x, List.take_left, num_bz h0]
  · rintro (h | ⟨h, _, h'⟩)
    · omega
    · have hp : 0 < wd x := by omega
      rw [e1 hp] at h'
      exact bz_head _ x rfl hp h'
theorem gu_le (zs : List Int) (hz : ∀ z ∈ zs, 0 ≤ z ∧ z < 256) : (gu zs).2.1 ≤ zs.length ∧ (gu zs).2.1 ≤ 9 ∧ 0 ≤ (gu zs).1 ∧ (gu zs).1 ≤ 18446744073709551615 ∧ 0 ≤ (gu zs).2.2 ∧ (gu zs).2.2 ≤ 6 := by
  unfold gu
  by_cases h0 : zs.length = 0
  · rw [if_pos h0]; exact ⟨Nat.zero_le _, Nat.zero_le _, Int.le_refl _, by decide, by decide, by decide⟩
  rw [if_neg h0]
  by_cases h1 : 8 < zs.getD 0 0 ∨ (0 < zs.getD 0 0 ∧ 1 < zs.length ∧ zs.getD 1 0 = 0)
  · rw [if_pos h1]; exact ⟨Nat.zero_le _, Nat.zero_le _, Int.le_refl _, by decide, by decide, by decide⟩
  rw [if_neg h1]
  by_cases h2 : (zs.length : Int) < zs.getD 0 0 + 1
  · rw [if_pos h2]; exact ⟨Nat.zero_le _, Nat.zero_le _, Int.le_refl _, by decide, by decide, by decide⟩
  rw [if_neg h2]
  have hh : 0 ≤ zs.getD 0 0 ∧ zs.getD 0 0 < 256 := by
    cases zs with
    | nil => exact absurd rfl h0
    | cons c t => exact hz c (by simp)
  have hb := num_lt ((zs.drop 1).take (zs.getD 0 0).toNat) (fun z h => hz z (List.mem_of_mem_drop (List.mem_of_mem_take h)))
  have hl : ((zs.drop 1).take (zs.getD 0 0).toNat).length ≤ 8 := by
    rw [List.length_take]
    have : ¬ 8 < zs.getD 0 0 := fun h => h1 (.inl h)
    omega
  have hp : (256 : Int) ^ ((zs.drop 1).take (zs.getD 0 0).toNat).length ≤ 256 ^ 8 := p256 hl
  have h256 : (256 : Int) ^ 8 = 18446744073709551616 := by decide
  rw [h256] at hp
  obtain ⟨hb1, hb2⟩ := hb
  have h9 : ¬ 8 < zs.getD 0 0 := fun h => h1 (.inl h)
  refine ⟨?_, ?_, hb1, ?_, Int.le_refl _, (by decide : (0 : Int) ≤ 6)⟩
  · show (zs.getD 0 0).toNat + 1 ≤ zs.length
    omega
  · show (zs.getD 0 0).toNat + 1 ≤ 9
    omega
  · show num ((zs.drop 1).take (zs.getD 0 0).toNat) ≤ 18446744073709551615
    omega
theorem gu_ok {zs : List Int} (hz : ∀ z ∈ zs, 0 ≤ z ∧ z < 256) (h : (gu zs).2.2 = 0) : zs.take (gu zs).2.1 = cu (gu zs).1 ∧ 0 < (gu zs).2.1 := by
  unfold gu at h ⊢
  by_cases h0 : zs.length = 0
  · rw [if_pos h0] at h; simp at h
  rw [if_neg h0] at h ⊢
  by_cases h1 : 8 < zs.getD 0 0 ∨ (0 < zs.getD 0 0 ∧ 1 < zs.length ∧ zs.getD 1 0 = 0)
  · rw [if_pos h1] at h; simp at h
  rw [if_neg h1] at h ⊢
  by_cases h2 : (zs.length : Int) < zs.getD 0 0 + 1
  · rw [if_pos h2] at h; simp at h
  rw [if_neg h2]
  refine ⟨?_, by simp⟩
  cases zs with
  | nil => simp at h0
  | cons c t =>
    have hc := hz c (by simp)
    simp only [List.getD_cons_zero, List.drop_succ_cons, List.drop_zero, List.length_cons] at h1 h2 ⊢
    have hl : (t.take c.toNat).length = c.toNat := by rw [List.length_take]; omega
    have hb : bz (num (t.take c.toNat)) = t.take c.toNat := by
      refine bz_num _ (fun z h => hz z (List.mem_cons_of_mem _ (List.mem_of_mem_take h))) fun hne => ?_
      intro h3
      apply h1
      have hcp : 0 < c.toNat := by
        rcases Nat.eq_zero_or_pos c.toNat with h4 | h4
        · rw [h4] at hne; simp at hne
        · exact h4
      right
      refine ⟨by omega, by omega, ?_⟩
      cases t with
      | nil => simp at hl; omega
      | cons d t =>
        obtain ⟨m, hm⟩ : ∃ m, c.toNat = m + 1 := ⟨c.toNat - 1, by omega⟩
        rw [hm] at h3
        simpa using h3
    have hw : wd (num (t.take c.toNat)) = c.toNat := by rw [← bz_length, hb, hl]
    unfold cu
    rw [hb, hw, List.take_succ_cons]
    congr 1
    omega
end Cod
end Go.Proofs.Ytmnlaekcojblkaa
/-
  Plain mathematics: the codes of texts, and what is read off the front of bytes; readers of numbers and texts one behind the other.
-/
namespace Go.Proofs.Ytmnlaekcojblkaa
namespace Cod
open Byts
/-- a text's code -/
def ct : List Int → List Int
  | [] => [0, 0]
  | c :: t => if c = 0 then 0 :: 1 :: ct t else c :: ct t
/-- what is read, some bytes ahead of it -/
def comb (out : List Int) (i : Nat) (r : List Int × Nat × Int) : List Int × Nat × Int := if r.2.2 = 0 then (out ++ r.1, i + r.2.1, 0) else ([], 0, r.2.2)
theorem comb_comb (o1 o2 : List Int) (i j : Nat) (r : List Int × Nat × Int) : comb o1 i (comb o2 j r) = comb (o1 ++ o2) (i + j) r := by
  unfold comb
  by_cases h : r.2.2 = 0
  · simp [h, Nat.add_assoc]
  · simp [h]
theorem comb_nil {r : List Int × Nat × Int} (h : r.2.2 = 0 ∨ r = ([], 0, r.2.2)) : comb [] 0 r = r := by
  unfold comb
  by_cases h0 : r.2.2 = 0
  · simp [h0]; rw [← h0]
  · rcases h with h | h
    · exact absurd h h0
    · rw [if_neg h0, ← h]
/-- the text whose code stands ahead: the text, how many bytes, the error -/
def gt : List Int → List Int × Nat × Int
  | [] => ([], 0, 5)
  | [c] => if c = 0 then ([], 0, 5) else ([], 0, 5)
  | c :: d :: u => if c = 0 then (if d = 0 then ([], 2, 0) else if d = 1 then comb [0] 2 (gt u) else ([], 0, 6)) else comb [c] 1 (gt (d :: u))
theorem gt_ne {c : Int} (h : c ≠ 0) (t : List Int) : gt (c :: t) = comb [c] 1 (gt t) := by
  cases t with
  | nil => simp [gt, comb]
  | cons d u => rw [gt, if_neg h]
theorem gt_00 (u : List Int) : gt (0 :: 0 :: u) = ([], 2, 0) := by simp [gt]
theorem gt_01 (u : List Int) : gt (0 :: 1 :: u) = comb [0] 2 (gt u) := by simp [gt]
theorem gt_0x {d : Int} (h0 : d ≠ 0) (h1 : d ≠ 1) (u : List Int) : gt (0 :: d :: u) = ([], 0, 6) := by simp [gt, h0, h1]
theorem gt_nil : gt [] = ([], 0, 5) := rfl
theorem gt_0 : gt [0] = ([], 0, 5) := rfl
theorem gt_nf : ∀ zs : List Int, (gt zs).2.2 = 0 ∨ gt zs = ([], 0, (gt zs).2.2)
  | [] => .inr rfl
  | [c] => by simp [gt]
  | c :: d :: u => by
    have h1 := gt_nf u
    have h2 := gt_nf (d :: u)
    have hc : ∀ o i r, (comb o i r).2.2 = 0 ∨ comb o i r = ([], 0, (comb o i r).2.2) := fun o i r => by
      unfold comb; by_cases h : r.2.2 = 0 <;> simp [h]
    unfold gt
    by_cases hc0 : c = 0
    · rw [if_pos hc0]
      by_cases hd0 : d = 0
      · rw [if_pos hd0]; exact .inl rfl
      · rw [if_neg hd0]
        by_cases hd1 : d = 1
        · rw [if_pos hd1]; exact hc _ _ _
        · rw [if_neg hd1]; exact .inr rfl
    · rw [if_neg hc0]; exact hc _ _ _
theorem gt_self (zs : List Int) : comb [] 0 (gt zs) = gt zs := comb_nil (gt_nf zs)
theorem gt_ct : ∀ (s r : List Int), gt (ct s ++ r) = (s, (ct s).length, 0)
  | [], r => by simp [ct, gt_00]
  | c :: t, r => by
    have ih := gt_ct t r
    unfold ct
    by_cases hc : c = 0
    · subst hc
      rw [if_pos rfl, List.cons_append, List.cons_append, gt_01, ih]
      simp [comb]
      omega
    · rw [if_neg hc, List.cons_append, gt_ne hc, ih]
      simp [comb]
      omega
theorem gt_ok : ∀ (zs : List Int), (gt zs).2.2 = 0 → zs.take (gt zs).2.1 = ct (gt zs).1 ∧ 0 < (gt zs).2.1
  | [], h => by simp [gt] at h
  | [c], h => by simp [gt] at h
  | c :: d :: u, h => by
    have h1 := gt_ok u
    have h2 := gt_ok (d :: u)
    have cz : ∀ o i r, (comb o i r).2.2 = 0 → r.2.2 = 0 := fun o i r h => by
      unfold comb at h; by_cases h' : r.2.2 = 0
      · exact h'
      · simp [h'] at h
    have ce : ∀ o i r, r.2.2 = 0 → comb o i r = (o ++ r.1, i + r.2.1, 0) := fun o i r h => by unfold comb; rw [if_pos h]
    by_cases hc0 : c = 0
    · subst hc0
      by_cases hd0 : d = 0
      · subst hd0; rw [gt_00]; simp [ct]
      · by_cases hd1 : d = 1
        · subst hd1
          rw [gt_01] at h ⊢
          have h3 := cz _ _ _ h
          rw [ce _ _ _ h3]
          obtain ⟨h4, h5⟩ := h1 h3
          refine ⟨?_, by dsimp only; omega⟩
          show (0 :: 1 :: u).take (2 + (gt u).2.1) = ct ([0] ++ (gt u).1)
          rw [show 2 + (gt u).2.1 = (gt u).2.1 + 1 + 1 by omega, List.take_succ_cons, List.take_succ_cons, h4]
          simp [ct]
        · rw [gt_0x hd0 hd1] at h
          simp at h
    · rw [gt_ne hc0] at h ⊢
      have h3 := cz _ _ _ h
      rw [ce _ _ _ h3]
      obtain ⟨h4, h5⟩ := h2 h3
      refine ⟨?_, by dsimp only; omega⟩
      show (c :: d :: u).take (1 + (gt (d :: u)).2.1) = ct ([c] ++ (gt (d :: u)).1)
      rw [show 1 + (gt (d :: u)).2.1 = (gt (d :: u)).2.1 + 1 by omega, List.take_succ_cons, h4]
      simp [ct, hc0]
theorem gt_le : ∀ (zs : List Int), (gt zs).2.1 ≤ zs.length ∧ (gt zs).1.length ≤ zs.length ∧ (∀ z ∈ (gt zs).1, z ∈ zs ∨ z = 0) ∧ 0 ≤ (gt zs).2.2 ∧ (gt zs).2.2 ≤ 6
  | [] => by simp [gt]
  | [c] => by simp [gt]
  | c :: d :: u => by
    have h1 := gt_le u
    have h2 := gt_le (d :: u)
    have hc : ∀ (o : List Int) (i : Nat) (l t : List Int), ((gt t).2.1 ≤ t.length ∧ (gt t).1.length ≤ t.length ∧ (∀ z ∈ (gt t).1, z ∈ t ∨ z = 0) ∧ 0 ≤ (gt t).2.2 ∧ (gt t).2.2 ≤ 6) → o.length ≤ i → i + t.length = l.length → (∀ z ∈ t, z ∈ l) → (∀ z ∈ o, z ∈ l ∨ z = 0) →
        (comb o i (gt t)).2.1 ≤ l.length ∧ (comb o i (gt t)).1.length ≤ l.length ∧ (∀ z ∈ (comb o i (gt t)).1, z ∈ l ∨ z = 0) ∧ 0 ≤ (comb o i (gt t)).2.2 ∧ (comb o i (gt t)).2.2 ≤ 6 := by
      intro o i l t ⟨g1, g2, g3, g4, g5⟩ h3 h4 h5 h6
      unfold comb
      by_cases h : (gt t).2.2 = 0
      · rw [if_pos h]
        refine ⟨by dsimp only; omega, by simp; omega, fun z hz => ?_, Int.le_refl _, (by decide : (0 : Int) ≤ 6)⟩
        rcases List.mem_append.1 hz with hz | hz
        · exact h6 z hz
        · rcases g3 z hz with h | h
          · exact .inl (h5 z h)
          · exact .inr h
      · rw [if_neg h]
        exact ⟨Nat.zero_le _, Nat.zero_le _, fun z hz => by simp at hz, g4, g5⟩
    by_cases hc0 : c = 0
    · subst hc0
      by_cases hd0 : d = 0
      · subst hd0; rw [gt_00]; simp
      · by_cases hd1 : d = 1
        · subst hd1
          rw [gt_01]
          exact hc [0] 2 _ u h1 (by simp) (by simp; omega) (fun z hz => by simp [hz]) (fun z hz => by simp at hz; exact .inr hz)
        · rw [gt_0x hd0 hd1]; simp
    · rw [gt_ne hc0]
      exact hc [c] 1 _ (d :: u) h2 (by simp) (by simp; omega) (fun z hz => List.mem_cons_of_mem _ hz) (fun z hz => by simp at hz; exact .inl (by simp [hz]))
theorem ct_bytes : ∀ {s : List Int}, (∀ z ∈ s, 0 ≤ z ∧ z < 256) → ∀ z ∈ ct s, 0 ≤ z ∧ z < 256
  | [], _, z, hz => by simp [ct] at hz; omega
  | c :: t, h, z, hz => by
    have ih := ct_bytes (s := t) (fun z hz => h z (List.mem_cons_of_mem _ hz))
    unfold ct at hz
    by_cases hc : c = 0
    · rw [if_pos hc] at hz
      simp only [List.mem_cons] at hz
      rcases hz with rfl | rfl | hz
      · omega
      · omega
      · exact ih z hz
    · rw [if_neg hc] at hz
      simp only [List.mem_cons] at hz
      rcases hz with rfl | hz
      · exact h z (by simp)
      · exact ih z hz
theorem ct_length (s : List Int) : (ct s).length ≤ 2 * s.length + 2 := by
  induction s with
  | nil => simp [ct]
  | cons c t ih =>
    unfold ct
    split <;> simp only [List.length_cons] <;> omega
/-! ### a reader: the place, and the fault -/
abbrev RS := Nat × Int
/-- a number is asked for -/
def rdU (zs : List Int) (most : Int) (s : RS) : Int × RS :=
  if s.2 ≠ 0 then (0, s)
  else if (gu (zs.drop s.1)).2.2 ≠ 0 then (0, (s.1, (gu (zs.drop s.1)).2.2))
  else if most < (gu (zs.drop s.1)).1 then (0, (s.1, 2))
  else ((gu (zs.drop s.1)).1, (s.1 + (gu (zs.drop s.1)).2.1, 0))
/-- a text is asked for -/
def rdT (zs : List Int) (most : Int) (s : RS) : List Int × RS :=
  if s.2 ≠ 0 then ([], s)
  else if (gt (zs.drop s.1)).2.2 ≠ 0 then ([], (s.1, (gt (zs.drop s.1)).2.2))
  else if most < ((gt (zs.drop s.1)).1.length : Int) then ([], (s.1, 4))
  else ((gt (zs.drop s.1)).1, (s.1 + (gt (zs.drop s.1)).2.1, 0))
/-- a state that may be -/
def Fit (zs : List Int) (s : RS) : Prop := s.1 ≤ zs.length ∧ 0 ≤ s.2 ∧ s.2 ≤ 15
theorem rdU_fit {zs : List Int} (hz : ∀ z ∈ zs, 0 ≤ z ∧ z < 256) (most : Int) (hm : 0 ≤ most) {s : RS} (h : Fit zs s) : Fit zs (rdU zs most s).2 ∧ 0 ≤ (rdU zs most s).1 ∧ (rdU zs most s).1 ≤ most := by
  obtain ⟨h1, h2, h3⟩ := h
  have hg := gu_le (zs.drop s.1) (fun z hz' => hz z (List.mem_of_mem_drop hz'))
  rw [List.length_drop] at hg
  unfold rdU Fit
  by_cases hs : s.2 ≠ 0
  · rw [if_pos hs]; exact ⟨⟨h1, h2, h3⟩, Int.le_refl _, hm⟩
  rw [if_neg hs]
  by_cases he : (gu (zs.drop s.1)).2.2 ≠ 0
  · rw [if_pos he]
    exact ⟨⟨h1, by dsimp only; omega, by dsimp only; omega⟩, Int.le_refl _, hm⟩
  rw [if_neg he]
  by_cases hk : most < (gu (zs.drop s.1)).1
  · rw [if_pos hk]
    exact ⟨⟨h1, by dsimp only; omega, by dsimp only; omega⟩, Int.le_refl _, hm⟩
  rw [if_neg hk]
  exact ⟨⟨by dsimp only; omega, by dsimp only; omega, by dsimp only; omega⟩, by dsimp only; omega, by dsimp only; omega⟩
theorem rdT_fit {zs : List Int} (hz : ∀ z ∈ zs, 0 ≤ z ∧ z < 256) (most : Int) (hm : 0 ≤ most) {s : RS} (h : Fit zs s) : Fit zs (rdT zs most s).2 ∧ ((rdT zs most s).1.length : Int) ≤ most ∧ ∀ z ∈ (rdT zs most s).1, 0 ≤ z ∧ z < 256 := by
  obtain ⟨h1, h2, h3⟩ := h
  have hg := gt_le (zs.drop s.1)
  rw [List.length_drop] at hg
  unfold rdT Fit
  by_cases hs : s.2 ≠ 0
  · rw [if_pos hs]; exact ⟨⟨h1, h2, h3⟩, hm, fun z hz => by simp at hz⟩
  rw [if_neg hs]
  by_cases he : (gt (zs.drop s.1)).2.2 ≠ 0
  · rw [if_pos he]
    exact ⟨⟨h1, by dsimp only; omega, by dsimp only; omega⟩, hm, fun z hz => by simp at hz⟩
  rw [if_neg he]
  by_cases hk : most < ((gt (zs.drop s.1)).1.length : Int)
  · rw [if_pos hk]
    exact ⟨⟨h1, by dsimp only; omega, by dsimp only; omega⟩, hm, fun z hz => by simp at hz⟩
  rw [if_neg hk]
  refine ⟨⟨by dsimp only; omega, by dsimp only; omega, by dsimp only; omega⟩, by dsimp only; omega, fun z hz' => ?_⟩
  rcases hg.2.2.1 z hz' with h | h
  · exact hz z (List.mem_of_mem_drop h)
  · omega
/-- what is read in a right state with no fault left has these bytes -/
theorem rdU_ok {zs : List Int} (hz : ∀ z ∈ zs, 0 ≤ z ∧ z < 256) {most : Int} {s : RS} (h : (rdU zs most s).2.2 = 0) : s.2 = 0 ∧ zs.drop s.1 = cu (rdU zs most s).1 ++ zs.drop (rdU zs most s).2.1 := by
  have hk := gu_ok (zs := zs.drop s.1) (fun z hz' => hz z (List.mem_of_mem_drop hz'))
  unfold rdU at h ⊢
  by_cases hs : s.2 ≠ 0
  · rw [if_pos hs] at h; exact absurd h hs
  rw [if_neg hs] at h ⊢
  by_cases he : (gu (zs.drop s.1)).2.2 ≠ 0
  · rw [if_pos he] at h; exact absurd h he
  rw [if_neg he] at h ⊢
  by_cases hm : most < (gu (zs.drop s.1)).1
  · rw [if_pos hm] at h; simp at h
  rw [if_neg hm]
  refine ⟨by omega, ?_⟩
  have := (hk (by omega)).1
  show zs.drop s.1 = cu (gu (zs.drop s.1)).1 ++ zs.drop (s.1 + (gu (zs.drop s.1)).2.1)
  rw [← this, ← List.drop_drop, List.take_append_drop]
theorem rdT_ok {zs : List Int} {most : Int} {s : RS} (h : (rdT zs most s).2.2 = 0) : s.2 = 0 ∧ zs.drop s.1 = ct (rdT zs most s).1 ++ zs.drop (rdT zs most s).2.1 := by
  have hk := gt_ok (zs.drop s.1)
  unfold rdT at h ⊢
  by_cases hs : s.2 ≠ 0
  · rw [if_pos hs] at h; exact absurd h hs
  rw [if_neg hs] at h ⊢
  by_cases he : (gt (zs.drop s.1)).2.2 ≠ 0
  · rw [if_pos he] at h; exact absurd h he
  rw [if_neg he] at h ⊢
  by_cases hm : most < ((gt (zs.drop s.1)).1.length : Int)
  · rw [if_pos hm] at h; simp at h
  rw [if_neg hm]
  refine ⟨by omega, ?_⟩
  have := (hk (by omega)).1
  show zs.drop s.1 = ct (gt (zs.drop s.1)).1 ++ zs.drop (s.1 + (gt (zs.drop s.1)).2.1)
  rw [← this, ← List.drop_drop, List.take_append_drop]
/-- a number's code, read -/
theorem rdU_cu {zs r : List Int} {most x : Int} {p : Nat} (h0 : 0 ≤ x) (h1 : x ≤ 18446744073709551615) (hm : x ≤ most) (hz : zs.drop p = cu x ++ r) : rdU zs most (p, 0) = (x, (p + (cu x).length, 0)) ∧ zs.drop (p + (cu x).length) = r := by
  refine ⟨?_, by rw [← List.drop_drop, hz, List.drop_left]⟩
  have hg := gu_cu h0 h1 r
  unfold rdU
  rw [if_neg (by simp), hz, hg, if_neg (by simp), if_neg (by simp; omega), cu_length]
theorem rdT_ct {zs r s : List Int} {most : Int} {p : Nat} (hm : (s.length : Int) ≤ most) (hz : zs.drop p = ct s ++ r) : rdT zs most (p, 0) = (s, (p + (ct s).length, 0)) ∧ zs.drop (p + (ct s).length) = r := by
  refine ⟨?_, by rw [← List.drop_drop, hz, List.drop_left]⟩
  have hg := gt_ct s r
  unfold rdT
  rw [if_neg (by simp), hz, hg, if_neg (by simp), if_neg (by simp; omega)]
/-- the end: bytes that are left are a fault -/
def rdE (zs : List Int) (s : RS) : Int := if s.2 = 0 ∧ s.1 < zs.length then 7 else s.2
end Cod
end Go.Proofs.Ytmnlaekcojblkaa
