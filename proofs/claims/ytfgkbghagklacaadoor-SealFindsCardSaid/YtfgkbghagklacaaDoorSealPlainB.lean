/-
  Plain mathematics: the sheet of a sector.
-/
import Derived.Test.YtfgkbghagklacaaDoorSealPlain
namespace Go.Proofs.YtfgkbghagklacaaDoor
namespace Seal
open Byts
/-- how long the body is, as the bytes tell -/
def sN (zs : List Int) : Int := num ((zs.drop 17).take 2)
/-- the body's rest, up to the sum -/
def sT (zs : List Int) : List Int := (zs.drop (19 + (sN zs).toNat)).take (1001 - (sN zs).toNat)
/-- why there is no sheet; 0: there is one -/
def sE (sm : List Int → List Int) (zs : List Int) : Int :=
  if zs.length ≠ 1024 then 6 else if zs.drop 1020 ≠ sm (zs.take 1020) then 13 else if zs.getD 0 0 = 0 ∨ 1001 < sN zs then 6
  else if ∃ z ∈ sT zs, z ≠ 0 then 6 else 0
def sK (sm : List Int → List Int) (zs : List Int) : Int := if sE sm zs = 0 then zs.getD 0 0 else 0
def sA (sm : List Int → List Int) (zs : List Int) : Int := if sE sm zs = 0 then num ((zs.drop 1).take 8) else 0
def sB (sm : List Int → List Int) (zs : List Int) : Int := if sE sm zs = 0 then num ((zs.drop 9).take 8) else 0
def sV (sm : List Int → List Int) (zs : List Int) : List Int := if sE sm zs = 0 then (zs.drop 19).take (sN zs).toNat else []
theorem mid_bytes {zs : List Int} (hz : ∀ z ∈ zs, 0 ≤ z ∧ z < 256) (i n : Nat) : ∀ z ∈ (zs.drop i).take n, 0 ≤ z ∧ z < 256 :=
  fun z h => hz z (List.mem_of_mem_drop (List.mem_of_mem_take h))
theorem sV_bytes (sm : List Int → List Int) (zs : List Int) (hz : ∀ z ∈ zs, 0 ≤ z ∧ z < 256) : ∀ z ∈ sV sm zs, 0 ≤ z ∧ z < 256 := by
  intro z h
  unfold sV at h
  split at h
  · exact mid_bytes hz _ _ z h
  · cases h
theorem num_mid {zs : List Int} (hz : ∀ z ∈ zs, 0 ≤ z ∧ z < 256) (i n : Nat) (hn : n ≤ 8) : 0 ≤ num ((zs.drop i).take n) ∧ num ((zs.drop i).take n) ≤ 18446744073709551615 := by
  have h := num_lt _ (mid_bytes hz i n)
  refine ⟨h.1, ?_⟩
  have hl : ((zs.drop i).take n).length ≤ 8 := by simp; omega
  have h256 : ∀ m, m ≤ 8 → (256 : Int) ^ m ≤ 18446744073709551616 := by decide
  have := h256 _ hl
  omega
theorem sN_bd {zs : List Int} (hz : ∀ z ∈ zs, 0 ≤ z ∧ z < 256) : 0 ≤ sN zs ∧ sN zs < 65536 := by
  have h := num_lt _ (mid_bytes hz 17 2)
  refine ⟨h.1, ?_⟩
  have hl : ((zs.drop 17).take 2).length ≤ 2 := by simp; omega
  have h256 : ∀ m, m ≤ 2 → (256 : Int) ^ m ≤ 65536 := by decide
  have := h256 _ hl
  unfold sN
  omega
/-- the head of the sheet that the bytes tell is those bytes, but for the rest -/
theorem hd_of (zs : List Int) (hz : ∀ z ∈ zs, 0 ≤ z ∧ z < 256) (hl : zs.length = 1024) (hn : sN zs ≤ 1001) :
    hd (zs.getD 0 0) (num ((zs.drop 1).take 8)) (num ((zs.drop 9).take 8)) ((zs.drop 19).take (sN zs).toNat) = zs.take (19 + (sN zs).toNat) ++ List.replicate (1001 - (sN zs).toNat) 0 ∧
    zs.take 1020 = zs.take (19 + (sN zs).toNat) ++ sT zs := by
  obtain ⟨hn0, _⟩ := sN_bd hz
  have hlen : ((zs.drop 19).take (sN zs).toNat).length = (sN zs).toNat := by simp; omega
  have b8 : ∀ i, i + 8 ≤ 1024 → be 8 (num ((zs.drop i).take 8)) = (zs.drop i).take 8 := by
    intro i hi
    have := be_num _ (mid_bytes hz i 8)
    rwa [show ((zs.drop i).take 8).length = 8 by simp; omega] at this
  have b2 : be 2 (sN zs) = (zs.drop 17).take 2 := by
    have := be_num _ (mid_bytes hz 17 2)
    rwa [show ((zs.drop 17).take 2).length = 2 by simp; omega] at this
  have tk : ∀ i n, zs.take i ++ (zs.drop i).take n = zs.take (i + n) := by
    intro i n
    rw [← List.take_add]
  constructor
  · unfold hd
    rw [hlen, Int.toNat_of_nonneg hn0, b2, b8 1 (by omega), b8 9 (by omega)]
    have h1 : [zs.getD 0 0] = zs.take 1 := by
      rcases zs with _ | ⟨a, t⟩
      · simp at hl
      · rfl
    rw [h1]
    simp only [← List.append_assoc]
    rw [tk 1 8, tk 9 8, tk 17 2, tk 19]
  · unfold sT
    rw [tk, show 19 + (sN zs).toNat + (1001 - (sN zs).toNat) = 1020 by omega]
theorem hd_same (zs : List Int) (hz : ∀ z ∈ zs, 0 ≤ z ∧ z < 256) (hl : zs.length = 1024) (hn : sN zs ≤ 1001) :
    hd (zs.getD 0 0) (num ((zs.drop 1).take 8)) (num ((zs.drop 9).take 8)) ((zs.drop 19).take (sN zs).toNat) = zs.take 1020 ↔ ¬ ∃ z ∈ sT zs, z ≠ 0 := by
  obtain ⟨h1, h2⟩ := hd_of zs hz hl hn
  rw [h1, h2, List.append_cancel_left_eq]
  have hs : (sT zs).length = 1001 - (sN zs).toNat := by unfold sT; simp; omega
  constructor
  · intro h ⟨z, hz, h0⟩
    rw [← h] at hz
    exact h0 (List.eq_of_mem_replicate hz)
  · intro h
    symm
    rw [List.eq_replicate_iff]
    exact ⟨hs, fun z hz => Classical.byContradiction fun h0 => h ⟨z, hz, h0⟩⟩
/-- with the right sum: the sector of the sheet that the bytes tell is the bytes, or the rest is not clear -/
theorem sec_same (sm : List Int → List Int) (h4 : ∀ l, (sm l).length = 4) (zs : List Int) (hz : ∀ z ∈ zs, 0 ≤ z ∧ z < 256) (hl : zs.length = 1024) (hs : zs.drop 1020 = sm (zs.take 1020)) (hn : sN zs ≤ 1001) :
    sec (zs.getD 0 0) (num ((zs.drop 1).take 8)) (num ((zs.drop 9).take 8)) ((zs.drop 19).take (sN zs).toNat) (sm (hd (zs.getD 0 0) (num ((zs.drop 1).take 8)) (num ((zs.drop 9).take 8)) ((zs.drop 19).take (sN zs).toNat))) = zs ↔ ¬ ∃ z ∈ sT zs, z ≠ 0 := by
  rw [← hd_same zs hz hl hn]
  unfold sec
  generalize hd (zs.getD 0 0) (num ((zs.drop 1).take 8)) (num ((zs.drop 9).take 8)) ((zs.drop 19).take (sN zs).toNat) = H
  constructor
  · intro h
    have := congrArg List.length h
    rw [List.length_append, h4, hl] at this
    rw [← h, List.take_append_of_le_length (by omega), List.take_of_length_le (by omega)]
  · intro h
    rw [h, ← hs, List.take_append_drop]
/-- what was put is got -/
theorem sec_get (sm : List Int → List Int) (h4 : ∀ l, (sm l).length = 4) (k a b : Int) (zs : List Int) (hk : 1 ≤ k) (hl : zs.length ≤ 1001) (ha : 0 ≤ a) (ha1 : a ≤ 18446744073709551615) (hb : 0 ≤ b) (hb1 : b ≤ 18446744073709551615) :
    sE sm (sec k a b zs (sm (hd k a b zs))) = 0 ∧ sK sm (sec k a b zs (sm (hd k a b zs))) = k ∧ sA sm (sec k a b zs (sm (hd k a b zs))) = a ∧ sB sm (sec k a b zs (sm (hd k a b zs))) = b ∧ sV sm (sec k a b zs (sm (hd k a b zs))) = zs := by
  have hhl := hd_length k a b zs hl
  have hX : (sec k a b zs (sm (hd k a b zs))).length = 1024 := by unfold sec; rw [List.length_append, hhl, h4]
  have hT : (sec k a b zs (sm (hd k a b zs))).take 1020 = hd k a b zs := by unfold sec; rw [← hhl, List.take_left]
  have hD : (sec k a b zs (sm (hd k a b zs))).drop 1020 = sm (hd k a b zs) := by unfold sec; rw [← hhl, List.drop_left]
  have h0 : (sec k a b zs (sm (hd k a b zs))).getD 0 0 = k := rfl
  have hx : sec k a b zs (sm (hd k a b zs)) = [k] ++ (be 8 a ++ (be 8 b ++ (be 2 (zs.length : Int) ++ (zs ++ (List.replicate (1001 - zs.length) 0 ++ sm (hd k a b zs)))))) := by
    simp [sec, hd]
  have hA : ((sec k a b zs (sm (hd k a b zs))).drop 1).take 8 = be 8 a := by
    rw [hx, List.drop_left' (by rfl), List.take_left' (be_length _ _)]
  have hB : ((sec k a b zs (sm (hd k a b zs))).drop 9).take 8 = be 8 b := by
    rw [hx, ← List.append_assoc, List.drop_left' (by simp [be_length]), List.take_left' (be_length _ _)]
  have hN : ((sec k a b zs (sm (hd k a b zs))).drop 17).take 2 = be 2 (zs.length : Int) := by
    rw [hx, ← List.append_assoc, ← List.append_assoc, List.drop_left' (by simp [be_length]), List.take_left' (be_length _ _)]
  have hsN : sN (sec k a b zs (sm (hd k a b zs))) = zs.length := by
    unfold sN
    rw [hN, num_be 2 _ (by omega) (by omega)]
  have hV : ((sec k a b zs (sm (hd k a b zs))).drop 19).take zs.length = zs := by
    rw [hx, ← List.append_assoc, ← List.append_assoc, ← List.append_assoc, List.drop_left' (by simp [be_length]), List.take_left' rfl]
  have hS : sT (sec k a b zs (sm (hd k a b zs))) = List.replicate (1001 - zs.length) 0 := by
    unfold sT
    rw [hsN, Int.toNat_natCast, hx, ← List.append_assoc, ← List.append_assoc, ← List.append_assoc, ← List.append_assoc, List.drop_left' (by simp [be_length]; omega), List.take_left' (by simp)]
  have hE : sE sm (sec k a b zs (sm (hd k a b zs))) = 0 := by
    unfold sE
    rw [if_neg (by rw [hX]; simp), if_neg (by rw [hT, hD]; simp), if_neg (by rw [h0, hsN]; omega), if_neg]
    rw [hS]
    rintro ⟨z, hz, hne⟩
    exact hne (List.eq_of_mem_replicate hz)
  refine ⟨hE, ?_, ?_, ?_, ?_⟩
  · unfold sK; rw [if_pos hE, h0]
  · unfold sA; rw [if_pos hE, hA, num_be 8 _ ha (by omega)]
  · unfold sB; rw [if_pos hE, hB, num_be 8 _ hb (by omega)]
  · unfold sV; rw [if_pos hE, hsN, Int.toNat_natCast, hV]
end Seal
end Go.Proofs.YtfgkbghagklacaaDoor
