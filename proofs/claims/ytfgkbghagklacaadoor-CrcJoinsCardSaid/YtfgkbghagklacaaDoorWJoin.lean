/-
  Matrices of the CRC: of, twice, Join, walked.
-/
import Derived.Test.YtfgkbghagklacaaDoorWCrcC
import Derived.Test.YtfgkbghagklacaaDoorWSealA
import Derived.Deep.MidRow
import Derived.Outline
namespace Go.Proofs.YtfgkbghagklacaaDoor
open Go.RowKit
open Crc
set_option linter.unusedVariables false

def bitZ (n : Nat) : List Int := (bitT n).map fun x => (x.toNat : Int)
theorem bitZ_length (n : Nat) : (bitZ n).length = 32 := by simp [bitZ, bitT_len]
theorem bitZ_at (n i : Nat) (h : i < 32) : (bitZ n)[i]? = some ((((bitT n).getD i 0#32).toNat : Nat) : Int) := by
  have hl : i < (bitT n).length := by rw [bitT_len]; exact h
  simp [bitZ, List.getD, hl]
theorem u32_one : ((1#32 : W32).toNat : Int) = 1 := rfl
theorem of_bit (r : W32) : bits .and .u32 (r.toNat : Int) 1 = if r.getLsbD 0 then 1 else 0 := by
  have e := u32_and_bv r 1#32
  rw [u32_one] at e
  rw [e, BitVec.toNat_and, show (1#32 : W32).toNat = 2 ^ 1 - 1 from rfl, Nat.and_two_pow_sub_one_eq_mod]
  have hl : r.getLsbD 0 = decide (r.toNat % 2 = 1) := by simp [BitVec.getLsbD, Nat.testBit_zero]
  rw [hl]
  rcases Nat.mod_two_eq_zero_or_one r.toNat with h | h <;> simp [h]
theorem shr_bv (r : W32) : ((r.toNat : Nat) : Int) / (2 : Int) = (((r >>> 1).toNat : Nat) : Int) := by
  rw [BitVec.toNat_ushiftRight, Nat.shiftRight_eq_div_pow]; omega
set_option maxHeartbeats 400000 in
theorem of_any (b n : Nat) (r0 : W32) (w : World) (hb : Blk w b 65 (nums .u32 (bitZ n)).toArray) :
    Calls Tryd.prog 37 #[.pointer (some ⟨b, 0, none⟩), .int .u32 r0.toNat] w fun e w' => e = .returned (.int .u32 (stN n r0).toNat) ∧ w = w' := by
  have HB := Lib.hid hb
  clear hb
  go_enter Tryd.func37, Tryd.ntmps37
  go_wp2_with fail
  go_loop [1, 5, 6] (fun r out i => ∃ (k : Nat) (rr oo : W32), k ≤ 32 ∧ rr.toNat < 2 ^ (32 - k) ∧ i = .int .i64 k ∧ r = .int .u32 rr.toNat ∧ out = .int .u32 oo.toNat ∧ Hid (oo ^^^ stN n (rr <<< k) = stN n r0)) (fun _ _ i => 32 - (intOf i).toNat)
  case atStart => exact ⟨0, r0, 0#32, by omega, r0.isLt, rfl, rfl, rfl, Lib.hid (of_start n r0)⟩
  case round =>
    obtain ⟨k, rr, oo, hk, hlt, rfl, rfl, rfl, HI⟩ := hrel
    by_cases h0 : rr = 0#32
    · subst h0
      have hfin : oo = stN n r0 := by rw [← HI.out, of_end]
      have HF := Lib.hid hfin
      clear hfin hlt
      go_wp2_with fail
      go_ret
      exact ⟨by rw [HF.out]; rfl, rfl⟩
    · have hne : rr.toNat ≠ 0 := fun h => h0 (BitVec.eq_of_toNat_eq (by simpa using h))
      have hk32 : k < 32 := by
        rcases Nat.lt_or_ge k 32 with h | h
        · exact h
        · have e : 32 - k = 0 := by omega
          rw [e] at hlt; omega
      have ht : (((rr.toNat : Nat) : Int) != 0) = true := by rw [bne_iff_ne]; omega
      have hc : w.cell? ⟨b, k, none⟩ = some (.int .u32 (((bitT n).getD k 0#32).toNat : Nat)) := by
        rw [HB.out.cell, List.getElem?_toArray]
        exact nums_get (bitZ_at n k hk32)
      have hst := of_step n k hk32 rr oo
      rw [HI.out] at hst
      have hsh := shr_bv rr
      have hlt2 : (rr >>> 1).toNat < 2 ^ (32 - (k + 1)) := by
        rw [BitVec.toNat_ushiftRight, Nat.shiftRight_eq_div_pow]
        have e : 2 ^ (32 - k) = 2 * 2 ^ (32 - (k + 1)) := by rw [← Nat.pow_succ']; congr 1; omega
        rw [e] at hlt; omega
      generalize (bitT n).getD k 0#32 = mk at hc hst
      have hbit := of_bit rr
      have HS := Lib.hid hst
      have HL := Lib.hid hlt2
      generalize hr2 : rr >>> 1 = r2 at hsh HS HL
      clear hst hlt2 hlt hr2 HI h0
      cases hg : rr.getLsbD 0
      · rw [hg] at hbit
        have hbit' : bits .and .u32 (rr.toNat : Int) 1 = 0 := hbit
        have HG := Lib.hid hg
        clear hbit hg
        go_wp2_with fail
        go_round
        case rel => exact ⟨k + 1, r2, oo, by omega, HL.out, by go_num, rfl, rfl, Lib.hid (by have := HS.out; rw [HG.out] at this; exact this.symm)⟩
        case measure => simp [intOf]; omega
      · rw [hg] at hbit
        have hbit' : bits .and .u32 (rr.toNat : Int) 1 = 1 := hbit
        have HG := Lib.hid hg
        have HX := Lib.hid (u32_xor_bv oo mk)
        clear hbit hg
        go_wp2_with fail
        go_round
        case rel => exact ⟨k + 1, r2, oo ^^^ mk, by omega, HL.out, by go_num, rfl, by rw [HX.out], Lib.hid (by have := HS.out; rw [HG.out] at this; exact this.symm)⟩
        case measure => simp [intOf]; omega
/-- the cells of one block, all written anew -/
theorem Blk.setCells {t g : Nat} : ∀ (vs : List Value) (o : Nat) (cs : List Value) (w : World), o + vs.length ≤ cs.length → Blk w g t cs.toArray → Blk (w.setCells g o vs) g t (cs.take o ++ (vs ++ cs.drop (o + vs.length))).toArray
  | [], o, cs, w, _, h => by simpa [World.setCells] using h
  | v :: vs, o, cs, w, hl, h => by
    simp only [List.length_cons] at hl
    have h1 := h.set_ o v
    have e1 : cs.toArray.setIfInBounds o v = (cs.set o v).toArray := by simp
    rw [e1] at h1
    have h2 := Blk.setCells vs (o + 1) (cs.set o v) _ (by simp; omega) h1
    have e2 : (cs.set o v).take (o + 1) ++ (vs ++ (cs.set o v).drop (o + 1 + vs.length)) = cs.take o ++ ((v :: vs) ++ cs.drop (o + (v :: vs).length)) := by
      rw [List.take_succ_eq_append_getElem (by simp; omega), List.take_set_of_le (by omega), List.drop_set_of_lt (by omega)]
      simp [Nat.add_comm, Nat.add_left_comm]
    rw [e2] at h2
    exact h2
theorem Blk.setAll {w : World} {t g : Nat} {cs vs : List Value} (h : Blk w g t cs.toArray) (hl : vs.length = cs.length) : Blk (w.setCells g 0 vs) g t vs.toArray := by
  have := Blk.setCells vs 0 cs w (by omega) h
  rw [List.take_zero, List.drop_of_length_le (by omega)] at this
  simpa using this
theorem only_setCells {a : World} {g : Nat} : ∀ (vs : List Value) (o : Nat) (w : World), a.grownBy w (some g) → a.grownBy (w.setCells g o vs) (some g)
  | [], _, _, h => h
  | v :: vs, o, w, h => only_setCells vs (o + 1) _ (only_setCell h (.inl rfl) v)
theorem size_setCells (g : Nat) : ∀ (vs : List Value) (o : Nat) (w : World), (w.setCells g o vs).heap.size = w.heap.size
  | [], _, _ => rfl
  | v :: vs, o, w => by
    show (World.setCells _ g (o + 1) vs).heap.size = _
    rw [size_setCells]; simp [World.setCell]
theorem Blk.there {w : World} {t g : Nat} {cs : List Value} (h : Blk w g t cs.toArray) : w.there g 0 cs.length := by
  intro j hj
  rw [h.cell, h.frozen]
  simp; omega
theorem Blk.range {w : World} {t g : Nat} {cs : List Value} (h : Blk w g t cs.toArray) : w.rangeAt g 0 cs := by
  intro j v hv
  rw [h.cell]; simpa using hv
theorem below_setCells {B : Nat} {a : World} {g : Nat} (hB : B ≤ g) : ∀ (vs : List Value) (o : Nat) (w : World), Below B a w → Below B a (w.setCells g o vs)
  | [], _, _, h => h
  | v :: vs, o, w, h => below_setCells hB vs (o + 1) _ (h.setCell hB v)
/-- what twice has made after k rounds -/
def twZ (n k : Nat) : List Int := (bitZ (n + n)).take k ++ List.replicate (32 - k) 0
theorem twZ_set (n k : Nat) (h : k < 32) : (twZ n k).set k (((bitT (n + n)).getD k 0#32).toNat : Nat) = twZ n (k + 1) := by
  unfold twZ
  have hl := bitZ_length (n + n)
  rw [List.set_append_right _ _ (by simp; omega)]
  have e1 : k - ((bitZ (n + n)).take k).length = 0 := by simp; omega
  have e2 : (bitZ (n + n)).take (k + 1) = (bitZ (n + n)).take k ++ [((((bitT (n + n)).getD k 0#32).toNat : Nat) : Int)] := by
    rw [List.take_add_one, bitZ_at _ _ h]; rfl
  rw [e1, e2, show 32 - k = (32 - (k + 1)) + 1 by omega, List.replicate_succ]
  simp
theorem twZ_at (n k : Nat) (h : k < 32) : (twZ n k)[k]? = some 0 := by
  unfold twZ
  have hl := bitZ_length (n + n)
  rw [List.getElem?_append_right (by simp; omega), List.length_take, hl, List.getElem?_replicate, if_pos (by omega)]
theorem twZ_end (n : Nat) : twZ n 32 = bitZ (n + n) := by
  unfold twZ
  rw [List.take_of_length_le (by rw [bitZ_length]; exact Nat.le_refl _)]; simp
theorem Blk.new' (w : World) (g t : Nat) (cs : Array Value) (hg : g = w.heap.size) : Blk (w.alloc (.cells cs t)) g t cs := by subst hg; exact Blk.new w t cs
set_option maxHeartbeats 400000 in
theorem twice_any (b n : Nat) (w : World) (hb : Blk w b 65 (nums .u32 (bitZ n)).toArray) :
    Calls Tryd.prog 36 #[.pointer (some ⟨b, 0, none⟩)] w fun e w' => e = .returned (.agg (nums .u32 (bitZ (n + n))).toArray) ∧ Below w.heap.size w w' := by
  have hbl := hb.lt
  have HB := Lib.hid hb
  clear hb
  go_enter Tryd.func36, Tryd.ntmps36
  go_wp2_with fail
  go_loopw [4, 5] (fun _ i wr => ∃ k : Nat, k ≤ 32 ∧ i = .int .i64 k ∧ Blk wr (w.heap.size + 1) 65 (nums .u32 (twZ n k)).toArray ∧ Blk wr w.heap.size 65 (nums .u32 (List.replicate 32 0)).toArray ∧ Below w.heap.size w wr) (fun _ i _ => 32 - (intOf i).toNat)
  case atStart => exact ⟨0, by omega, rfl, Blk.new' _ _ _ _ (by simp), (Blk.new _ _ _).alloc _, ((Below.refl _ _).alloc (Nat.le_refl _) _).alloc (by simp) _⟩
  case round =>
    obtain ⟨k, hk, rfl, hb1, hb2, hbel⟩ := hrel
    have hbm := HB.out.below hbel hbl
    have B2 := Lib.hid hb2
    have BB := Lib.hid hbel
    clear hb2 hbel
    by_cases hlt : k < 32
    · have hc : wr.cell? ⟨b, k, none⟩ = some (.int .u32 (((bitT n).getD k 0#32).toNat : Nat)) := by
        rw [hbm.cell, List.getElem?_toArray]
        exact nums_get (bitZ_at n k hlt)
      have hc2 : wr.cell? ⟨w.heap.size + 1, k, none⟩ = some (.int .u32 0) := by
        rw [hb1.cell, List.getElem?_toArray]
        exact nums_get (twZ_at n k hlt)
      have hf2 : wr.frozen? ⟨w.heap.size + 1, k, none⟩ = false := hb1.frozen k
      have cf := of_any b n ((bitT n).getD k 0#32) wr hbm
      rw [twice_is n k hlt] at cf
      have hst := hb1.set_ k (.int .u32 (((bitT (n + n)).getD k 0#32).toNat : Nat))
      rw [nums_setArr, twZ_set n k hlt] at hst
      have HS := Lib.hid hst
      generalize (bitT n).getD k 0#32 = m1 at hc cf
      generalize (bitT (n + n)).getD k 0#32 = m2 at cf HS
      clear hst hbm hb1
      go_wp2_with fail
      refine cf.mono ?_
      rintro e w' ⟨rfl, rfl⟩
      go_wp2_with fail
      go_roundw
      case rel => exact ⟨k + 1, by omega, by go_num, HS.out, B2.out.far (by simp) _, BB.out.setCell (by simp) _⟩
      case measure => simp [intOf]; omega
    · obtain rfl : k = 32 := by omega
      rw [twZ_end] at hb1
      have B1 := Lib.hid hb1
      clear hb1 hbm
      go_wp2_with (first | (with_reducible refine wpList_load_mid rfl 65 (.tmp 3) rfl (w.heap.size + 1) 0 rfl (nums .u32 (bitZ (n + n))) _ B1.out.range Tryd.underlying65 rfl ?i1 ?_) | (with_reducible refine wpList_store_mid rfl 65 (.tmp 2) (.tmp 18) rfl w.heap.size 0 (nums .u32 (bitZ (n + n))).toArray rfl rfl ?i2 ?i3 ?i4 ?_))
      case i1 => rw [show (nums .u32 (bitZ (n + n))).length = 32 by rw [nums_length, bitZ_length]]; kernel_rfl
      case i2 =>
        have := B2.out.there
        simpa [nums, bitZ_length] using this
      case i3 => rw [show (nums .u32 (bitZ (n + n))).toArray.size = 32 by rw [List.size_toArray, nums_length, bitZ_length]]; kernel_rfl
      case i4 => exact all_oneCell_toArray (nums_one _ _)
      have hr := B2.out.setAll (vs := nums .u32 (bitZ (n + n))) (by simp [nums, bitZ_length])
      have hbb := below_setCells (Nat.le_refl _) (nums .u32 (bitZ (n + n))) 0 _ BB.out
      refine bodyPost_ret (v := .agg (nums .u32 (bitZ (n + n))).toArray) (results_cell_row rfl _ _ w.heap.size 65 _ (0, 0) _ rfl hr Tryd.underlying65 rfl ?_) rfl ⟨rfl, hbb⟩
      rw [show (nums .u32 (bitZ (n + n))).toArray.size = 32 by rw [List.size_toArray, nums_length, bitZ_length]]; kernel_rfl
end Go.Proofs.YtfgkbghagklacaaDoor
