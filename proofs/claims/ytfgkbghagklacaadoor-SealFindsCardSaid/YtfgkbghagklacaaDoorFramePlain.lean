/-
  Plain mathematics: frames.
-/
import Derived.Test.YtfgkbghagklacaaDoorBytes
namespace Go.Proofs.YtfgkbghagklacaaDoor
namespace Fram
open Byts
/-- a frame ahead of its sum -/
def fhd (zs : List Int) : List Int := 181 :: (be 3 (zs.length : Int) ++ zs)
theorem fhd_length (zs : List Int) : (fhd zs).length = 4 + zs.length := by simp [fhd, be_length]; omega
theorem fhd_bytes (zs : List Int) (hz : ∀ z ∈ zs, 0 ≤ z ∧ z < 256) : ∀ z ∈ fhd zs, 0 ≤ z ∧ z < 256 := by
  intro z h
  simp only [fhd, List.mem_cons, List.mem_append] at h
  rcases h with rfl | h | h
  · decide
  · exact be_bytes _ _ z h
  · exact hz z h
/-- a frame; sm: the four bytes of a sum -/
def frm (sm : List Int → List Int) (zs : List Int) : List Int := fhd zs ++ sm (fhd zs)
theorem frm_length (sm : List Int → List Int) (h4 : ∀ l, (sm l).length = 4) (zs : List Int) : (frm sm zs).length = 8 + zs.length := by simp [frm, fhd_length, h4]; omega
/-- the length that the first bytes tell -/
def nZ (zs : List Int) : Int := (zs.getD 1 0 * 256 + zs.getD 2 0) * 256 + zs.getD 3 0
theorem getD_nn {zs : List Int} (hz : ∀ z ∈ zs, 0 ≤ z ∧ z < 256) (i : Nat) : 0 ≤ zs.getD i 0 ∧ zs.getD i 0 < 256 := by
  rcases Nat.lt_or_ge i zs.length with h | h
  · have e : zs.getD i 0 = zs[i] := by simp [List.getD, h]
    rw [e]; exact hz _ (List.getElem_mem h)
  · have e : zs.getD i 0 = 0 := by simp [List.getD, List.getElem?_eq_none h]
    rw [e]; omega
theorem nZ_nn {zs : List Int} (hz : ∀ z ∈ zs, 0 ≤ z ∧ z < 256) : 0 ≤ nZ zs ∧ nZ zs < 16777216 := by
  have h1 := getD_nn hz 1
  have h2 := getD_nn hz 2
  have h3 := getD_nn hz 3
  unfold nZ; omega
/-- why there is no body; 0: there is one -/
def gE (sm : List Int → List Int) (zs : List Int) : Int :=
  if zs.length ≠ 0 ∧ zs.getD 0 0 ≠ 181 then 6 else if 60000 < nZ zs then 6 else if (zs.length : Int) < 8 + nZ zs then 5
  else if (zs.drop (4 + (nZ zs).toNat)).take 4 ≠ sm (zs.take (4 + (nZ zs).toNat)) then 13 else 0
def gB (sm : List Int → List Int) (zs : List Int) : List Int := if gE sm zs = 0 then (zs.drop 4).take (nZ zs).toNat else []
def gN (sm : List Int → List Int) (zs : List Int) : Int := if gE sm zs = 0 then 8 + nZ zs else 0
theorem gB_bytes (sm : List Int → List Int) (zs : List Int) (hz : ∀ z ∈ zs, 0 ≤ z ∧ z < 256) : ∀ z ∈ gB sm zs, 0 ≤ z ∧ z < 256 := by
  intro z h
  unfold gB at h
  split at h
  · exact hz z (List.mem_of_mem_drop (List.mem_of_mem_take h))
  · cases h
/-- the head of bytes that are long enough, and begin right, is that of the body -/
theorem fhd_of (zs : List Int) (hz : ∀ z ∈ zs, 0 ≤ z ∧ z < 256) (h0 : zs.getD 0 0 = 181) (hl : 8 + nZ zs ≤ (zs.length : Int)) : fhd ((zs.drop 4).take (nZ zs).toNat) = zs.take (4 + (nZ zs).toNat) := by
  obtain ⟨hn0, hn1⟩ := nZ_nn hz
  have hlen : ((zs.drop 4).take (nZ zs).toNat).length = (nZ zs).toNat := by simp; omega
  unfold fhd
  rw [hlen, Int.toNat_of_nonneg hn0]
  rcases zs with _ | ⟨a, _ | ⟨b, _ | ⟨c, _ | ⟨d, t⟩⟩⟩⟩
  case nil => simp at h0
  case cons.nil => simp at hl; omega
  case cons.cons.nil => simp at hl; omega
  case cons.cons.cons.nil => simp at hl; omega
  case cons.cons.cons.cons =>
    have ha : a = 181 := by simpa using h0
    subst ha
    have hn : nZ (181 :: b :: c :: d :: t) = (b * 256 + c) * 256 + d := by simp [nZ]
    have hb := hz b (by simp)
    have hc := hz c (by simp)
    have hd := hz d (by simp)
    have hbe : be 3 (nZ (181 :: b :: c :: d :: t)) = [b, c, d] := by
      rw [hn]
      have e : be 3 ((b * 256 + c) * 256 + d) = [((b * 256 + c) * 256 + d) / 65536 % 256, ((b * 256 + c) * 256 + d) / 256 % 256, ((b * 256 + c) * 256 + d) / 1 % 256] := rfl
      rw [e]
      congr 1
      · omega
      · congr 1
        · omega
        · congr 1; omega
    rw [hbe, Nat.add_comm 4]
    simp
theorem gE_frm (sm : List Int → List Int) (h4 : ∀ l, (sm l).length = 4) (zs more : List Int) (hl : zs.length ≤ 60000) : nZ (frm sm zs ++ more) = zs.length ∧ gE sm (frm sm zs ++ more) = 0 := by
  have e1 : frm sm zs ++ more = 181 :: (be 3 (zs.length : Int) ++ (zs ++ (sm (fhd zs) ++ more))) := by simp [frm, fhd]
  have e2 : be 3 (zs.length : Int) = [(zs.length : Int) / 65536 % 256, (zs.length : Int) / 256 % 256, (zs.length : Int) / 1 % 256] := rfl
  have hn : nZ (frm sm zs ++ more) = zs.length := by
    rw [e1, e2]; simp [nZ]; omega
  refine ⟨hn, ?_⟩
  unfold gE
  have hlen : (frm sm zs ++ more).length = 8 + zs.length + more.length := by rw [List.length_append, frm_length sm h4]
  rw [if_neg (by rw [e1]; simp), hn, if_neg (by omega), if_neg (by rw [hlen]; omega), if_neg]
  have e3 : 4 + ((zs.length : Int)).toNat = (fhd zs).length := by rw [fhd_length, Int.toNat_natCast]
  have e4 : frm sm zs ++ more = fhd zs ++ (sm (fhd zs) ++ more) := by simp [frm]
  rw [e3, e4, List.take_left, List.drop_left, List.take_append_of_le_length (by rw [h4]; exact Nat.le_refl _), List.take_of_length_le (by rw [h4]; exact Nat.le_refl _)]
  simp
theorem gB_frm (sm : List Int → List Int) (h4 : ∀ l, (sm l).length = 4) (zs more : List Int) (hl : zs.length ≤ 60000) : gB sm (frm sm zs ++ more) = zs ∧ gN sm (frm sm zs ++ more) = 8 + zs.length := by
  obtain ⟨hn, he⟩ := gE_frm sm h4 zs more hl
  unfold gB gN
  rw [if_pos he, if_pos he, hn]
  refine ⟨?_, rfl⟩
  have e1 : frm sm zs ++ more = (181 :: be 3 (zs.length : Int)) ++ (zs ++ (sm (fhd zs) ++ more)) := by simp [frm, fhd]
  rw [e1, List.drop_left' (by simp [be_length]), Int.toNat_natCast, List.take_left]
end Fram
end Go.Proofs.YtfgkbghagklacaaDoor
