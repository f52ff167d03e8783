/-
  Plain mathematics: a sheet's sector.
-/
import Derived.Test.YtfgkbghagklacaaDoorBytes
namespace Go.Proofs.YtfgkbghagklacaaDoor
namespace Seal
open Byts
/-- a sheet's sector without its sum -/
def hd (k a b : Int) (zs : List Int) : List Int := [k] ++ (be 8 a ++ (be 8 b ++ (be 2 (zs.length : Int) ++ (zs ++ List.replicate (1001 - zs.length) 0))))
theorem hd_length (k a b : Int) (zs : List Int) (h : zs.length ≤ 1001) : (hd k a b zs).length = 1020 := by simp [hd, be_length]; omega
/-- what Put lays, one behind the other -/
def lay1 (k : Int) : List Int := (List.replicate 1024 0).set 0 k
def lay2 (k a : Int) : List Int := lay (lay1 k) 1 (be 8 a)
def lay3 (k a b : Int) : List Int := lay (lay2 k a) 9 (be 8 b)
def lay4 (k a b : Int) (n : Nat) : List Int := lay (lay3 k a b) 17 (be 2 (n : Int))
def lay5 (k a b : Int) (zs : List Int) : List Int := lay (lay4 k a b zs.length) 19 zs
theorem lay1_length (k : Int) : (lay1 k).length = 1024 := by unfold lay1; rw [List.length_set, List.length_replicate]
theorem lay2_length (k a : Int) : (lay2 k a).length = 1024 := by unfold lay2; rw [lay_length (by rw [be_length, lay1_length]; decide), lay1_length]
theorem lay3_length (k a b : Int) : (lay3 k a b).length = 1024 := by unfold lay3; rw [lay_length (by rw [be_length, lay2_length]; decide), lay2_length]
theorem lay4_length (k a b : Int) (n : Nat) : (lay4 k a b n).length = 1024 := by unfold lay4; rw [lay_length (by rw [be_length, lay3_length]; decide), lay3_length]
theorem lay5_length (k a b : Int) (zs : List Int) (h : zs.length ≤ 1001) : (lay5 k a b zs).length = 1024 := by unfold lay5; rw [lay_length (by rw [lay4_length]; omega), lay4_length]
theorem lay_app {k : Nat} (p q m : List Int) (bs : List Int) (hp : p.length = k) (hm : m.length = bs.length) : lay (p ++ (m ++ q)) k bs = p ++ (bs ++ q) := by
  subst hp
  unfold lay
  have e1 : List.drop (p.length + bs.length) p = [] := List.drop_of_length_le (by omega)
  have e2 : List.drop bs.length m = [] := List.drop_of_length_le (by omega)
  rw [List.take_left, List.drop_append, List.drop_append, hm]
  simp [e1, e2]
theorem lay5_is (k a b : Int) (zs : List Int) (h : zs.length ≤ 1001) : lay5 k a b zs = hd k a b zs ++ List.replicate 4 0 := by
  have s1 : lay1 k = [k] ++ (List.replicate 8 0 ++ List.replicate 1015 0) := by
    unfold lay1
    rw [show (1024 : Nat) = 1023 + 1 from rfl, List.replicate_succ, List.set_cons_zero, show (1023 : Nat) = 8 + 1015 from rfl, ← List.replicate_append_replicate]
    rfl
  have s2 : lay2 k a = ([k] ++ be 8 a) ++ (List.replicate 8 0 ++ List.replicate 1007 0) := by
    unfold lay2
    rw [s1, lay_app (k := 1) [k] _ _ _ rfl (by rw [be_length, List.length_replicate]), show (1015 : Nat) = 8 + 1007 from rfl, ← List.replicate_append_replicate, ← List.append_assoc]
  have s3 : lay3 k a b = ([k] ++ be 8 a ++ be 8 b) ++ (List.replicate 2 0 ++ List.replicate 1005 0) := by
    unfold lay3
    rw [s2, lay_app _ _ _ _ (by simp [be_length]) (by rw [be_length, List.length_replicate]), show (1007 : Nat) = 2 + 1005 from rfl, ← List.replicate_append_replicate, ← List.append_assoc]
  have s4 : lay4 k a b zs.length = ([k] ++ be 8 a ++ be 8 b ++ be 2 (zs.length : Int)) ++ (List.replicate zs.length 0 ++ List.replicate (1005 - zs.length) 0) := by
    unfold lay4
    rw [s3, lay_app _ _ _ _ (by simp [be_length]) (by rw [be_length, List.length_replicate]), List.replicate_append_replicate, show zs.length + (1005 - zs.length) = 1005 by omega, ← List.append_assoc]
  unfold lay5
  rw [s4, lay_app _ _ _ _ (by simp [be_length]) (by simp), show 1005 - zs.length = (1001 - zs.length) + 4 by omega, ← List.replicate_append_replicate]
  simp [hd, List.append_assoc]
/-- a sheet's sector -/
def sec (k a b : Int) (zs le : List Int) : List Int := hd k a b zs ++ le
theorem lay6_is (k a b : Int) (zs le : List Int) (h : zs.length ≤ 1001) (h4 : le.length = 4) : lay (lay5 k a b zs) 1020 le = sec k a b zs le := by
  rw [lay5_is k a b zs h]
  have := lay_app (k := 1020) (hd k a b zs) [] (List.replicate 4 0) le (hd_length k a b zs h) (by simp [h4])
  simpa [sec] using this
theorem lay5_take (k a b : Int) (zs : List Int) (h : zs.length ≤ 1001) : (lay5 k a b zs).take 1020 = hd k a b zs := by
  rw [lay5_is k a b zs h, List.take_append_of_le_length (by rw [hd_length k a b zs h]; exact Nat.le_refl _), List.take_of_length_le (by rw [hd_length k a b zs h]; exact Nat.le_refl _)]
theorem hd_bytes (k a b : Int) (zs : List Int) (hk : 0 ≤ k ∧ k < 256) (hz : ∀ z ∈ zs, 0 ≤ z ∧ z < 256) : ∀ z ∈ hd k a b zs, 0 ≤ z ∧ z < 256 := by
  intro z h
  simp only [hd, List.mem_append, List.mem_singleton] at h
  rcases h with rfl | h | h | h | h | h
  · exact hk
  · exact be_bytes _ _ z h
  · exact be_bytes _ _ z h
  · exact be_bytes _ _ z h
  · exact hz z h
  · rw [List.mem_replicate] at h; omega
end Seal
end Go.Proofs.YtfgkbghagklacaaDoor
