/-
  Plain mathematics: bytes laid over others, numbers as bytes, the highest first.
-/
namespace Go.Proofs.YtfgkbghagklacaaDoor
namespace Byts
/-- bytes laid over others from a place on -/
def lay (zs : List Int) (off : Nat) (bs : List Int) : List Int := zs.take off ++ (bs ++ zs.drop (off + bs.length))
section
variable {zs bs : List Int} {off k : Nat}
theorem lay_nil : lay zs off [] = zs := by simp [lay]
theorem lay_length (h : off + bs.length ≤ zs.length) : (lay zs off bs).length = zs.length := by simp [lay]; omega
theorem lay_at (hk : k < bs.length) (h : off + bs.length ≤ zs.length) : (lay zs off (bs.take k))[off + k]? = zs[off + k]? := by
  unfold lay
  rw [List.getElem?_append_right (by simp; omega), List.getElem?_append_right (by simp; omega)]
  rw [List.getElem?_drop]
  congr 1
  simp; omega
theorem lay_set (hk : k < bs.length) (h : off + bs.length ≤ zs.length) : (lay zs off (bs.take k)).set (off + k) (bs.getD k 0) = lay zs off (bs.take (k + 1)) := by
  unfold lay
  rw [List.set_append_right _ _ (by simp; omega), List.set_append_right _ _ (by simp; omega)]
  have e1 : off + k - (zs.take off).length - (bs.take k).length = 0 := by simp; omega
  have e2 : (bs.take k).length = k := by simp; omega
  have e3 : (bs.take (k + 1)).length = k + 1 := by simp; omega
  rw [e1, e2, e3, List.take_succ_eq_append_getElem hk, List.append_assoc, List.drop_eq_getElem_cons (show off + k < zs.length by omega)]
  simp [List.getD, hk, Nat.add_assoc]
theorem lay_mem {p : Int → Prop} (hz : ∀ z ∈ zs, p z) (hb : ∀ z ∈ bs, p z) : ∀ z ∈ lay zs off bs, p z := by
  intro z h
  simp only [lay, List.mem_append] at h
  rcases h with h | h | h
  · exact hz z (List.mem_of_mem_take h)
  · exact hb z h
  · exact hz z (List.mem_of_mem_drop h)
end
/-- a number's n bytes, the highest first -/
def be (n : Nat) (x : Int) : List Int := (List.range n).map fun i => x / 256 ^ (n - 1 - i) % 256
theorem be_length (n : Nat) (x : Int) : (be n x).length = n := by simp [be]
theorem be_getD (n : Nat) (x : Int) (i : Nat) (h : i < n) : (be n x).getD i 0 = x / 256 ^ (n - 1 - i) % 256 := by simp [be, List.getD, h]
theorem be_bytes (n : Nat) (x : Int) : ∀ z ∈ be n x, 0 ≤ z ∧ z < 256 := by
  intro z h
  simp only [be, List.mem_map] at h
  obtain ⟨i, _, rfl⟩ := h
  omega
theorem be_succ (n : Nat) (x : Int) : be (n + 1) x = be n (x / 256) ++ [x % 256] := by
  unfold be
  rw [List.range_succ, List.map_append]
  congr 1
  · apply List.map_congr_left
    intro i hi
    have hi' : i < n := List.mem_range.1 hi
    rw [Int.ediv_ediv_of_nonneg (by omega : (0 : Int) ≤ 256)]
    rw [show n + 1 - 1 - i = (n - 1 - i) + 1 by omega, Int.pow_succ, Int.mul_comm 256]
  · simp
/-- the number of bytes, the highest first -/
def num (bs : List Int) : Int := bs.foldl (fun x c => 256 * x + c) 0
theorem num_snoc (bs : List Int) (c : Int) : num (bs ++ [c]) = 256 * num bs + c := by simp [num]
theorem num_lt (bs : List Int) (h : ∀ z ∈ bs, 0 ≤ z ∧ z < 256) : 0 ≤ num bs ∧ num bs < 256 ^ bs.length := by
  have key : ∀ n, ∀ bs : List Int, bs.length = n → (∀ z ∈ bs, 0 ≤ z ∧ z < 256) → 0 ≤ num bs ∧ num bs < 256 ^ n := by
    intro n
    induction n with
    | zero => intro bs hl _; have : bs = [] := List.eq_nil_of_length_eq_zero hl; subst this; simp [num]
    | succ n ih =>
      intro bs hl hb
      have hne : bs ≠ [] := by intro h0; subst h0; simp at hl
      rw [← List.dropLast_concat_getLast hne] at hb ⊢
      obtain ⟨i1, i2⟩ := ih bs.dropLast (by simp [hl]) (fun z hz => hb z (by simp [hz]))
      have hc := hb (bs.getLast hne) (by simp)
      rw [num_snoc, Int.pow_succ]
      omega
  exact key _ bs rfl h
theorem num_be (n : Nat) : ∀ x : Int, 0 ≤ x → x < 256 ^ n → num (be n x) = x := by
  induction n with
  | zero => intro x h0 h1; simp [be, num]; simp at h1; omega
  | succ n ih =>
    intro x h0 h1
    rw [be_succ, num_snoc, ih (x / 256) (by omega) (by rw [Int.pow_succ] at h1; omega)]
    omega
theorem be_num (bs : List Int) (h : ∀ z ∈ bs, 0 ≤ z ∧ z < 256) : be bs.length (num bs) = bs := by
  have key : ∀ n, ∀ bs : List Int, bs.length = n → (∀ z ∈ bs, 0 ≤ z ∧ z < 256) → be n (num bs) = bs := by
    intro n
    induction n with
    | zero => intro bs hl _; have : bs = [] := List.eq_nil_of_length_eq_zero hl; subst this; rfl
    | succ n ih =>
      intro bs hl hb
      have hne : bs ≠ [] := by intro h0; subst h0; simp at hl
      have e := List.dropLast_concat_getLast hne
      rw [← e] at hb
      have hc := hb (bs.getLast hne) (by simp)
      have i1 := ih bs.dropLast (by simp [hl]) (fun z hz => hb z (by simp [hz]))
      conv => lhs; rw [← e]
      rw [num_snoc, be_succ, show (256 * num bs.dropLast + bs.getLast hne) / 256 = num bs.dropLast by omega, i1, show (256 * num bs.dropLast + bs.getLast hne) % 256 = bs.getLast hne by omega, e]
  exact key _ bs rfl h
end Byts
namespace Byts
/-- a number's bytes, filled from the last on -/
def fill (n k : Nat) (x : Int) : List Int := List.replicate (n - k) 0 ++ (be n x).drop (n - k)
theorem fill_zero (n : Nat) (x : Int) : fill n 0 x = List.replicate n 0 := by
  unfold fill
  rw [Nat.sub_zero, List.drop_of_length_le (by rw [be_length]; exact Nat.le_refl _), List.append_nil]
theorem fill_all (n : Nat) (x : Int) : fill n n x = be n x := by simp [fill]
theorem fill_length (n k : Nat) (x : Int) (_h : k ≤ n) : (fill n k x).length = n := by simp [fill, be_length]
theorem fill_at (n k : Nat) (x : Int) (h : k < n) : (fill n k x)[n - 1 - k]? = some 0 := by
  unfold fill
  rw [List.getElem?_append_left (by rw [List.length_replicate]; omega), List.getElem?_replicate, if_pos (by omega)]
theorem fill_set (n k : Nat) (x : Int) (h : k < n) : (fill n k x).set (n - 1 - k) (x / 256 ^ k % 256) = fill n (k + 1) x := by
  unfold fill
  have e1 : n - k = (n - 1 - k) + 1 := by omega
  have e2 : n - (k + 1) = n - 1 - k := by omega
  rw [List.set_append_left _ _ (by simp; omega), e2]
  have e3 : (List.replicate (n - k) (0 : Int)).set (n - 1 - k) (x / 256 ^ k % 256) = List.replicate (n - 1 - k) 0 ++ [x / 256 ^ k % 256] := by
    conv => lhs; rw [e1, List.replicate_succ']
    rw [List.set_append_right _ _ (by simp)]
    simp
  have hl : n - 1 - k < (be n x).length := by rw [be_length]; omega
  rw [e3, List.append_assoc, List.drop_eq_getElem_cons hl, e1]
  have e4 : (be n x)[n - 1 - k] = x / 256 ^ k % 256 := by
    have := be_getD n x (n - 1 - k) (by omega)
    rw [show n - 1 - (n - 1 - k) = k by omega] at this
    rw [← this]; simp [List.getD, hl]
  rw [e4]
  rfl
end Byts
end Go.Proofs.YtfgkbghagklacaaDoor
