/-
  A number's bytes, the highest first: the references' 'high', walked.
-/
import Derived.Test.YtfgkbghagklacaaDoorWSealA
namespace Go.Proofs.YtfgkbghagklacaaDoor
open Go.RowKit
open Byts
set_option linter.unusedVariables false

set_option maxHeartbeats 400000 in
theorem high20_any (n : Nat) (x : Int) (w : World) (hx : 0 ≤ x) (hx1 : x ≤ 18446744073709551615) (hn : n ≤ 8) :
    Calls Tryd.prog 45 #[.int .u64 x, .int .i64 (n : Int)] w fun e w' => e = .returned (.slice (some ⟨w.heap.size, 0, none⟩) n n) ∧ Blk w' w.heap.size 5 (nums .u8 (be n x)).toArray ∧ Below w.heap.size w w' ∧ w'.heap.size = w.heap.size + 1 := by
  have hmk := make_bytes n (by omega)
  go_enter Tryd.func45, Tryd.ntmps45
  go_wp2_with fail
  clear hmk
  go_loopw [0, 6] (fun x0 i wr => ∃ k : Nat, k ≤ n ∧ i = .int .i64 ((n : Int) - 1 - k) ∧ x0 = .int .u64 (x / 256 ^ k) ∧ Blk wr w.heap.size 5 (nums .u8 (fill n k x)).toArray ∧ Below w.heap.size w wr ∧ wr.heap.size = w.heap.size + 1) (fun _ i _ => (intOf i + 1).toNat)
  case atStart => exact ⟨0, Nat.zero_le _, by simp, by simp, by rw [fill_zero]; exact Blk.new _ _ _, (Below.refl _ _).alloc (Nat.le_refl _) _, by simp⟩
  case round =>
    obtain ⟨k, hk, rfl, rfl, hblk, hbel, hsz⟩ := hrel
    have hy0 : 0 ≤ x / 256 ^ k := Int.ediv_nonneg hx (Int.pow_nonneg (by decide))
    have hy1 : x / 256 ^ k ≤ 18446744073709551615 := Int.le_trans (Int.ediv_le_self _ hx) hx1
    have hys : Hid (x / 256 ^ k / 256 = x / 256 ^ (k + 1)) := Lib.hid (by rw [Int.ediv_ediv_of_nonneg (Int.pow_nonneg (by decide)), Int.pow_succ])
    by_cases hlt : k < n
    · have hc : wr.cell? ⟨w.heap.size, n - 1 - k, none⟩ = some (.int .u8 0) := by
        rw [hblk.cell, List.getElem?_toArray]
        exact nums_get (fill_at n k x hlt)
      have hf : wr.frozen? ⟨w.heap.size, n - 1 - k, none⟩ = false := hblk.frozen _
      have hst := hblk.set_ (n - 1 - k) (.int .u8 (x / 256 ^ k % 256))
      rw [nums_setArr, fill_set n k x hlt] at hst
      have HS := Lib.hid hst
      have HB := Lib.hid (hbel.setCell (p := ⟨w.heap.size, n - 1 - k, none⟩) (Nat.le_refl _) (.int .u8 (x / 256 ^ k % 256)))
      have HZ := Lib.hid hsz
      clear hst hblk hbel hsz
      generalize x / 256 ^ k = y at hy0 hy1 hys HS HB
      have i0 : (0 : Int) ≤ (n : Int) - 1 - (k : Int) := by omega
      have i1 : ((n : Int) - 1 - (k : Int)).toNat = n - 1 - k := by omega
      go_wp2_with fail
      clear i1
      go_roundw
      case rel => exact ⟨k + 1, by omega, by go_num, by rw [hys.out], HS.out, HB.out, by simp [World.setCell, HZ.out]⟩
      case measure => simp [intOf]; omega
    · obtain rfl : k = n := by omega
      rw [fill_all] at hblk
      have HS := Lib.hid hblk
      have HB := Lib.hid hbel
      have HZ := Lib.hid hsz
      clear hblk hbel hsz
      go_wp2_with fail
      go_ret
      exact ⟨rfl, HS.out, HB.out, HZ.out⟩
set_option maxHeartbeats 400000 in
theorem high09_any (n : Nat) (x : Int) (w : World) (hx : 0 ≤ x) (hx1 : x ≤ 4294967295) (hn : n ≤ 8) :
    Calls Tryd.prog 40 #[.int .u32 x, .int .i64 (n : Int)] w fun e w' => e = .returned (.slice (some ⟨w.heap.size, 0, none⟩) n n) ∧ Blk w' w.heap.size 5 (nums .u8 (be n x)).toArray ∧ Below w.heap.size w w' ∧ w'.heap.size = w.heap.size + 1 := by
  have hmk := make_bytes n (by omega)
  go_enter Tryd.func40, Tryd.ntmps40
  go_wp2_with fail
  clear hmk
  go_loopw [0, 6] (fun x0 i wr => ∃ k : Nat, k ≤ n ∧ i = .int .i64 ((n : Int) - 1 - k) ∧ x0 = .int .u32 (x / 256 ^ k) ∧ Blk wr w.heap.size 5 (nums .u8 (fill n k x)).toArray ∧ Below w.heap.size w wr ∧ wr.heap.size = w.heap.size + 1) (fun _ i _ => (intOf i + 1).toNat)
  case atStart => exact ⟨0, Nat.zero_le _, by simp, by simp, by rw [fill_zero]; exact Blk.new _ _ _, (Below.refl _ _).alloc (Nat.le_refl _) _, by simp⟩
  case round =>
    obtain ⟨k, hk, rfl, rfl, hblk, hbel, hsz⟩ := hrel
    have hy0 : 0 ≤ x / 256 ^ k := Int.ediv_nonneg hx (Int.pow_nonneg (by decide))
    have hy1 : x / 256 ^ k ≤ 4294967295 := Int.le_trans (Int.ediv_le_self _ hx) hx1
    have hys : Hid (x / 256 ^ k / 256 = x / 256 ^ (k + 1)) := Lib.hid (by rw [Int.ediv_ediv_of_nonneg (Int.pow_nonneg (by decide)), Int.pow_succ])
    by_cases hlt : k < n
    · have hc : wr.cell? ⟨w.heap.size, n - 1 - k, none⟩ = some (.int .u8 0) := by
        rw [hblk.cell, List.getElem?_toArray]
        exact nums_get (fill_at n k x hlt)
      have hf : wr.frozen? ⟨w.heap.size, n - 1 - k, none⟩ = false := hblk.frozen _
      have hst := hblk.set_ (n - 1 - k) (.int .u8 (x / 256 ^ k % 256))
      rw [nums_setArr, fill_set n k x hlt] at hst
      have HS := Lib.hid hst
      have HB := Lib.hid (hbel.setCell (p := ⟨w.heap.size, n - 1 - k, none⟩) (Nat.le_refl _) (.int .u8 (x / 256 ^ k % 256)))
      have HZ := Lib.hid hsz
      clear hst hblk hbel hsz
      generalize x / 256 ^ k = y at hy0 hy1 hys HS HB
      have i0 : (0 : Int) ≤ (n : Int) - 1 - (k : Int) := by omega
      have i1 : ((n : Int) - 1 - (k : Int)).toNat = n - 1 - k := by omega
      go_wp2_with fail
      clear i1
      go_roundw
      case rel => exact ⟨k + 1, by omega, by go_num, by rw [hys.out], HS.out, HB.out, by simp [World.setCell, HZ.out]⟩
      case measure => simp [intOf]; omega
    · obtain rfl : k = n := by omega
      rw [fill_all] at hblk
      have HS := Lib.hid hblk
      have HB := Lib.hid hbel
      have HZ := Lib.hid hsz
      clear hblk hbel hsz
      go_wp2_with fail
      go_ret
      exact ⟨rfl, HS.out, HB.out, HZ.out⟩
end Go.Proofs.YtfgkbghagklacaaDoor
