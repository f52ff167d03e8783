/-
  Join, walked.
-/
import Derived.Test.YtfgkbghagklacaaDoorWJoin
import Derived.Deep.DeepCutAuto
namespace Go.Proofs.YtfgkbghagklacaaDoor
open Go.RowKit
open Crc
set_option linter.unusedVariables false
/-- the first k of 32 numbers, noughts behind them -/
def parZ (l : List Int) (k : Nat) : List Int := l.take k ++ List.replicate (32 - k) 0
theorem parZ_set (l : List Int) (hl : l.length = 32) (k : Nat) (h : k < 32) (z : Int) (hz : l[k]? = some z) : (parZ l k).set k z = parZ l (k + 1) := by
  unfold parZ
  rw [List.set_append_right _ _ (by simp; omega)]
  have e1 : k - (l.take k).length = 0 := by simp; omega
  rw [e1, List.take_add_one, hz, show 32 - k = (32 - (k + 1)) + 1 by omega, List.replicate_succ]
  simp
theorem parZ_at (l : List Int) (hl : l.length = 32) (k : Nat) (h : k < 32) : (parZ l k)[k]? = some 0 := by
  unfold parZ
  rw [List.getElem?_append_right (by simp; omega), List.length_take, hl, List.getElem?_replicate, if_pos (by omega)]
theorem parZ_end (l : List Int) (hl : l.length = 32) : parZ l 32 = l := by
  unfold parZ
  rw [List.take_of_length_le (by omega)]; simp
theorem parZ_length (l : List Int) (hl : l.length = 32) (k : Nat) (h : k ≤ 32) : (parZ l k).length = 32 := by
  unfold parZ
  simp; omega
theorem bit1_at : ∀ k, k < 32 → 1 ≤ k → (bitZ 1)[k]? = some (2 ^ (k - 1) % 4294967296) := by decide
theorem join_none (a b : W32) (n : Int) (w : World) (h : n ≤ 0) :
    Calls Tryd.prog 20 #[.int .u32 a.toNat, .int .u32 b.toNat, .int .i64 n] w fun e w' => e = .returned (.int .u32 (a ^^^ b).toNat) ∧ Below w.heap.size w w' := by
  have hx := u32_xor_bv a b
  generalize a ^^^ b = x at hx
  go_enter Tryd.func20, Tryd.ntmps20
  go_wp2_with fail
  go_ret
  exact ⟨rfl, Below.refl _ _⟩
set_option maxHeartbeats 1000000 in
theorem join_some (a b : W32) (n : Nat) (w : World) (hn : 0 < n) (hn1 : n ≤ 9223372036854775807) :
    Calls Tryd.prog 20 #[.int .u32 a.toNat, .int .u32 b.toNat, .int .i64 (n : Int)] w fun e w' => e = .returned (.int .u32 (stN (8 * n) a ^^^ b).toNat) ∧ Below w.heap.size w w' := by
  go_enter Tryd.func20, Tryd.ntmps20
  go_upto_region 4 with ((with_reducible refine wpList_store_mid rfl 65 (.tmp 7) (.tmp 14) rfl w.heap.size 0 _ rfl rfl ?i2 ?i3 ?i4 ?_))
  case i2 =>
    have h := (Blk.new w 65 (nums .u32 (List.replicate 32 0)).toArray).there
    exact h
  case i3 => kernel_rfl
  case i4 => exact all_oneCell_toArray (nums_one .u32 (2197175160 :: List.replicate 31 0))
  go_wp2_with fail
  go_loopw [8] (fun i wr => ∃ k : Nat, 1 ≤ k ∧ k ≤ 32 ∧ i = .int .i64 k ∧ Blk wr w.heap.size 65 (nums .u32 (parZ (bitZ 1) k)).toArray ∧ Below w.heap.size w wr) (fun i _ => 32 - (intOf i).toNat)
  case atStart =>
    refine ⟨1, by omega, by omega, rfl, ?_, below_setCells (Nat.le_refl _) _ _ _ ((Below.refl _ _).alloc (Nat.le_refl _) _)⟩
    have h := (Blk.new w 65 (nums .u32 (List.replicate 32 0)).toArray).setAll (vs := nums .u32 (2197175160 :: List.replicate 31 0)) (by simp [nums])
    have e : parZ (bitZ 1) 1 = 2197175160 :: List.replicate 31 0 := by decide
    rw [e]
    exact h
  case round =>
    obtain ⟨k, hk1, hk, rfl, hb1, hbel⟩ := hrel
    have BB := Lib.hid hbel
    clear hbel
    by_cases hlt : k < 32
    · have hc : wr.cell? ⟨w.heap.size, k, none⟩ = some (.int .u32 0) := by
        rw [hb1.cell, List.getElem?_toArray]
        exact nums_get (parZ_at _ (bitZ_length 1) k hlt)
      have hf : wr.frozen? ⟨w.heap.size, k, none⟩ = false := hb1.frozen k
      have hst := hb1.set_ k (.int .u32 (2 ^ (k - 1) % 4294967296))
      rw [nums_setArr, parZ_set _ (bitZ_length 1) k hlt _ (bit1_at k hlt hk1)] at hst
      have HS := Lib.hid hst
      clear hst hb1
      go_wp2_with fail
      go_roundw
      case rel => exact ⟨k + 1, by omega, by omega, by go_num, HS.out, BB.out.setCell (Nat.le_refl _) _⟩
      case measure => simp [intOf]; omega
    · obtain rfl : k = 32 := by omega
      rw [show ((32 : Nat) : Int) = 32 from rfl]
      rw [parZ_end _ (bitZ_length 1)] at hb1
      have B1 := Lib.hid hb1
      clear hb1
      go_wp2_with fail
      go_loopw [24] (fun i wr => ∃ k : Nat, k ≤ 3 ∧ i = .int .i64 k ∧ Blk wr w.heap.size 65 (nums .u32 (bitZ (2 ^ k))).toArray ∧ Below w.heap.size w wr) (fun i _ => 3 - (intOf i).toNat)
      case atStart => exact ⟨0, by omega, rfl, B1.out, BB.out⟩
      case round =>
        obtain ⟨k, hk, rfl, hb1, hbel⟩ := hrel
        have hbl := hb1.lt
        by_cases hlt : k < 3
        · have hd := Lib.hid (show 2 ^ k + 2 ^ k = 2 ^ (k + 1) by rw [Nat.pow_succ]; omega)
          have ct := twice_any w.heap.size (2 ^ k) _ hb1
          have B1 := Lib.hid hb1
          have BB := Lib.hid hbel
          generalize 2 ^ k + 2 ^ k = m at ct hd
          clear hb1 hbel
          go_wp2_with fail
          refine ct.mono ?_
          rintro e w1 ⟨rfl, hbt⟩
          have b1 := B1.out.below hbt hbl
          have BT := Lib.hid (BB.out.trans (hbt.mono (by omega)))
          have BX := Lib.hid b1
          clear hbt b1
          go_wp2_with ((with_reducible refine wpList_store_mid rfl 65 (.tmp 7) (.tmp 26) rfl w.heap.size 0 (nums .u32 (bitZ m)).toArray rfl rfl ?j2 ?j3 ?j4 ?_))
          case j2 =>
            have := BX.out.there
            simpa [nums, bitZ_length] using this
          case j3 => rw [show (nums .u32 (bitZ m)).toArray.size = 32 by rw [List.size_toArray, nums_length, bitZ_length]]; kernel_rfl
          case j4 => exact all_oneCell_toArray (nums_one _ _)
          go_roundw
          case rel => exact ⟨k + 1, by omega, by go_num, by rw [← hd.out]; exact BX.out.setAll (by simp [nums, bitZ_length]), below_setCells (Nat.le_refl _) _ _ _ BT.out⟩
          case measure => simp [intOf]; omega
        · obtain rfl : k = 3 := by omega
          rw [show ((3 : Nat) : Int) = 3 from rfl]
          have B1 := Lib.hid hb1
          have BB := Lib.hid hbel
          clear hb1 hbel hbl
          go_wp2_with fail
          go_loopw [0, 2] (fun av nv wr => ∃ (j q : Nat) (c : W32), q ≤ n ∧ av = .int .u32 c.toNat ∧ nv = .int .i64 (q : Int) ∧ Hid (stN (8 * (2 ^ j * q)) c = stN (8 * n) a) ∧ Blk wr w.heap.size 65 (nums .u32 (bitZ (8 * 2 ^ j))).toArray ∧ Below w.heap.size w wr) (fun _ nv _ => (intOf nv).toNat)
          case atStart => exact ⟨0, n, a, Nat.le_refl _, rfl, rfl, Lib.hid (by simp), B1.out, BB.out⟩
          case round =>
            obtain ⟨j, q, c, hq, rfl, rfl, HI, hb1, hbel⟩ := hrel
            have hbl := hb1.lt
            by_cases hq0 : q = 0
            · subst hq0
              have hfin : c = stN (8 * n) a := by rw [← HI.out]; simp [stN]
              have HF := Lib.hid hfin
              have HX := Lib.hid (u32_xor_bv c b)
              have BB := Lib.hid hbel
              clear hfin hb1 hbel hbl hq
              go_wp2_with fail
              go_ret
              exact ⟨ret_int (by rw [HX.out, HF.out]), BB.out⟩
            · have hq1 : 0 < q := by omega
              have hand := Lib.hid (i64_and_nat q 1 (by omega) (by decide))
              have ct := twice_any w.heap.size (8 * 2 ^ j) _ hb1
              have hd := Lib.hid (show 8 * 2 ^ j + 8 * 2 ^ j = 8 * 2 ^ (j + 1) by rw [Nat.pow_succ]; omega)
              have co := of_any w.heap.size (8 * 2 ^ j) c _ hb1
              have B1 := Lib.hid hb1
              have BB := Lib.hid hbel
              clear hb1 hbel
              rcases Nat.mod_two_eq_zero_or_one q with hm | hm
              · have hbit : bits .and .i64 (q : Int) 1 = 0 := by have := hand.out; rw [Nat.and_one_is_mod, hm] at this; exact this
                have HI2 : Hid (stN (8 * (2 ^ (j + 1) * (q / 2))) c = stN (8 * n) a) := Lib.hid (by
                  rw [← HI.out]; congr 1; rw [Nat.pow_succ, Nat.mul_assoc, show 2 * (q / 2) = q by omega])
                generalize 8 * 2 ^ j + 8 * 2 ^ j = m at ct hd
                clear co HI hm
                go_wp2_with fail
                refine ct.mono ?_
                rintro e w1 ⟨rfl, hbt⟩
                have b1 := B1.out.below hbt hbl
                have BT := Lib.hid (BB.out.trans (hbt.mono (by omega)))
                have BX := Lib.hid b1
                clear hbt b1
                go_wp2_with ((with_reducible refine wpList_store_mid rfl 65 (.tmp 7) (.tmp 37) rfl w.heap.size 0 (nums .u32 (bitZ m)).toArray rfl rfl ?k2 ?k3 ?k4 ?_))
                case k2 =>
                  have := BX.out.there
                  simpa [nums, bitZ_length] using this
                case k3 => rw [show (nums .u32 (bitZ m)).toArray.size = 32 by rw [List.size_toArray, nums_length, bitZ_length]]; kernel_rfl
                case k4 => exact all_oneCell_toArray (nums_one _ _)
                go_roundw
                case rel => exact ⟨j + 1, q / 2, c, by omega, rfl, by go_num, HI2, by rw [← hd.out]; exact BX.out.setAll (by simp [nums, bitZ_length]), below_setCells (Nat.le_refl _) _ _ _ BT.out⟩
                case measure => simp [intOf]; omega
              · have hbit : bits .and .i64 (q : Int) 1 = 1 := by have := hand.out; rw [Nat.and_one_is_mod, hm] at this; exact this
                have HI2 : Hid (stN (8 * (2 ^ (j + 1) * (q / 2))) (stN (8 * 2 ^ j) c) = stN (8 * n) a) := Lib.hid (by
                  rw [← HI.out, ← stN_add]; congr 1
                  have e : 2 ^ (j + 1) * (q / 2) = 2 ^ j * (q - 1) := by rw [Nat.pow_succ, Nat.mul_assoc, show 2 * (q / 2) = q - 1 by omega]
                  rw [e, ← Nat.mul_add]; congr 1
                  rw [Nat.mul_sub, Nat.mul_one]
                  have : 2 ^ j ≤ 2 ^ j * q := Nat.le_mul_of_pos_right _ hq1
                  omega)
                generalize 8 * 2 ^ j + 8 * 2 ^ j = m at ct hd
                generalize stN (8 * 2 ^ j) c = c2 at co HI2
                clear HI hm
                go_wp2_with fail
                refine co.mono ?_
                rintro e w0 ⟨rfl, rfl⟩
                go_wp2_with fail
                refine ct.mono ?_
                rintro e w1 ⟨rfl, hbt⟩
                have b1 := B1.out.below hbt hbl
                have BT := Lib.hid (BB.out.trans (hbt.mono (by omega)))
                have BX := Lib.hid b1
                clear hbt b1
                go_wp2_with ((with_reducible refine wpList_store_mid rfl 65 (.tmp 7) (.tmp 37) rfl w.heap.size 0 (nums .u32 (bitZ m)).toArray rfl rfl ?l2 ?l3 ?l4 ?_))
                case l2 =>
                  have := BX.out.there
                  simpa [nums, bitZ_length] using this
                case l3 => rw [show (nums .u32 (bitZ m)).toArray.size = 32 by rw [List.size_toArray, nums_length, bitZ_length]]; kernel_rfl
                case l4 => exact all_oneCell_toArray (nums_one _ _)
                go_roundw
                case rel => exact ⟨j + 1, q / 2, c2, by omega, rfl, by go_num, HI2, by rw [← hd.out]; exact BX.out.setAll (by simp [nums, bitZ_length]), below_setCells (Nat.le_refl _) _ _ _ BT.out⟩
                case measure => simp [intOf]; omega
end Go.Proofs.YtfgkbghagklacaaDoor
