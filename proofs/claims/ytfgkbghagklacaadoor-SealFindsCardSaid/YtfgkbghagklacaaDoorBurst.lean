/-
  Plain mathematics: some bytes laid over others by xor, from a place on; a sum sees a change of up to four bytes in a row.
-/
import Derived.Test.YtfgkbghagklacaaDoorCrcPlain
namespace Go.Proofs.YtfgkbghagklacaaDoor
namespace Crc
def xb (a b : Int) : Int := ((a.toNat ^^^ b.toNat : Nat) : Int)
/-- the first k of the bytes ys laid over zs from the place p on -/
def bst (zs : List Int) (p : Nat) (ys : List Int) (k : Nat) : List Int := zs.take p ++ (((List.range k).map fun j => xb (zs.getD (p + j) 0) (ys.getD j 0)) ++ zs.drop (p + k))
def sameB (ys : List Int) (k : Nat) : Bool := (List.range k).all fun j => ys.getD j 0 == 0
section
variable {zs ys : List Int} {p k : Nat}
theorem bst_zero : bst zs p ys 0 = zs := by simp [bst]
theorem bst_length (h : p + k ≤ zs.length) : (bst zs p ys k).length = zs.length := by
  simp [bst]; omega
theorem bst_at (h : p + k < zs.length) : (bst zs p ys k)[p + k]? = some (zs.getD (p + k) 0) := by
  unfold bst
  rw [List.getElem?_append_right (by simp; omega), List.getElem?_append_right (by simp; omega)]
  simp [List.getD, show min p zs.length = p by omega, h]
theorem bst_set (h : p + k < zs.length) : (bst zs p ys k).set (p + k) (xb (zs.getD (p + k) 0) (ys.getD k 0)) = bst zs p ys (k + 1) := by
  unfold bst
  rw [List.set_append_right _ _ (by simp; omega), List.set_append_right _ _ (by simp; omega)]
  have e1 : p + k - (zs.take p).length - ((List.range k).map fun j => xb (zs.getD (p + j) 0) (ys.getD j 0)).length = 0 := by simp; omega
  rw [e1, List.range_succ, List.map_append, List.append_assoc, List.drop_eq_getElem_cons h]
  rfl
theorem sameB_succ : sameB ys (k + 1) = (sameB ys k && (ys.getD k 0 == 0)) := by
  simp [sameB, List.range_succ, List.all_append]
theorem xb_lt {a b : Int} (ha : 0 ≤ a ∧ a < 256) (hb : 0 ≤ b ∧ b < 256) : 0 ≤ xb a b ∧ xb a b < 256 := by
  have : a.toNat ^^^ b.toNat < 2 ^ 8 := Nat.xor_lt_two_pow (by omega) (by omega)
  unfold xb; omega
theorem xb_same {a b : Int} (ha : 0 ≤ a) (hb : 0 ≤ b) (h : xb a b = a) : b = 0 := by
  have h1 : a.toNat ^^^ b.toNat = a.toNat := by unfold xb at h; omega
  have h2 := congrArg (a.toNat ^^^ ·) h1
  simp [← Nat.xor_assoc] at h2
  omega
theorem xb_zero {a : Int} (ha : 0 ≤ a) : xb a 0 = a := by unfold xb; simp; omega
theorem getD_byte (hz : ∀ z ∈ zs, 0 ≤ z ∧ z < 256) (i : Nat) : 0 ≤ zs.getD i 0 ∧ zs.getD i 0 < 256 := by
  rcases Nat.lt_or_ge i zs.length with h | h
  · have e : zs.getD i 0 = zs[i] := by simp [List.getD, h]
    rw [e]; exact hz _ (List.getElem_mem h)
  · have e : zs.getD i 0 = 0 := by simp [List.getD, List.getElem?_eq_none h]
    rw [e]; omega
theorem bst_bytes (hz : ∀ z ∈ zs, 0 ≤ z ∧ z < 256) (hy : ∀ z ∈ ys, 0 ≤ z ∧ z < 256) : ∀ z ∈ bst zs p ys k, 0 ≤ z ∧ z < 256 := by
  intro z h
  unfold bst at h
  simp only [List.mem_append, List.mem_map, List.mem_range] at h
  rcases h with h | ⟨j, _, rfl⟩ | h
  · exact hz z (List.mem_of_mem_take h)
  · exact xb_lt (getD_byte hz _) (getD_byte hy _)
  · exact hz z (List.mem_of_mem_drop h)
theorem mid_is (h : p + k ≤ zs.length) : (zs.drop p).take k = (List.range k).map fun j => zs.getD (p + j) 0 := by
  apply List.ext_getElem?
  intro i
  by_cases hi : i < k
  · simp [hi, List.getElem?_drop, List.getD, show p + i < zs.length by omega]
  · simp [hi]; omega
theorem split3 (h : p + k ≤ zs.length) : zs = zs.take p ++ (((List.range k).map fun j => zs.getD (p + j) 0) ++ zs.drop (p + k)) := by
  rw [← mid_is h, ← List.drop_drop, List.take_append_drop, List.take_append_drop]
theorem bst_same (hz : ∀ z ∈ zs, 0 ≤ z ∧ z < 256) (h : p + k ≤ zs.length) (hs : sameB ys k = true) : bst zs p ys k = zs := by
  conv => rhs; rw [split3 h]
  unfold bst
  congr 2
  apply List.map_congr_left
  intro j hj
  have h0 : ys.getD j 0 = 0 := by
    have := List.all_eq_true.1 hs j hj
    simpa using this
  rw [h0, xb_zero (getD_byte hz _).1]
theorem wd_byt {z : Int} (h : 0 ≤ z ∧ z < 256) : Byt (wd z) := by
  have := wd_toNat z h
  unfold Byt; omega
theorem wd_inj {a b : Int} (ha : 0 ≤ a ∧ a < 256) (hb : 0 ≤ b ∧ b < 256) (h : wd a = wd b) : a = b := by
  rw [← wd_toNat a ha, ← wd_toNat b hb, h]
/-- a change of up to four bytes in a row is seen by the sum -/
theorem bst_more (c : W32) (hz : ∀ z ∈ zs, 0 ≤ z ∧ z < 256) (hy : ∀ z ∈ ys, 0 ≤ z ∧ z < 256) (h : p + k ≤ zs.length) (h4 : k ≤ 4) : more c zs = more c (bst zs p ys k) ↔ sameB ys k = true := by
  constructor
  · intro he
    have h1 : run (~~~ c) (zs.map wd) = run (~~~ c) ((bst zs p ys k).map wd) := by
      have := congrArg (fun x => ~~~ x) he
      simpa [more] using this
    conv at h1 => lhs; rw [split3 h]
    unfold bst at h1
    simp only [List.map_append, ← List.append_assoc] at h1
    have h2 := run_burst _ _ _ _ _ (by
      intro x hx
      simp only [List.mem_map, List.map_map] at hx
      obtain ⟨j, _, rfl⟩ := hx
      exact wd_byt (getD_byte hz _)) (by
      intro x hx
      simp only [List.mem_map, List.map_map] at hx
      obtain ⟨j, _, rfl⟩ := hx
      exact wd_byt (xb_lt (getD_byte hz _) (getD_byte hy _))) (by simp) (by simpa using h4) h1
    unfold sameB
    rw [List.all_eq_true]
    intro j hj
    have hjk : j < k := List.mem_range.1 hj
    have h3 := congrArg (·[j]?) h2
    simp [hjk] at h3
    have h5 := wd_inj (getD_byte hz _) (xb_lt (getD_byte hz _) (getD_byte hy _)) h3
    rw [beq_iff_eq]
    exact xb_same (getD_byte hz (p + j)).1 (getD_byte hy j).1 h5.symm
  · intro hs
    rw [bst_same hz h hs]
end
end Crc
end Go.Proofs.YtfgkbghagklacaaDoor
