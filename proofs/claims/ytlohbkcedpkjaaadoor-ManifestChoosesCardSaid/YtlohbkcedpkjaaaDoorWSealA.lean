/-
  Numbers as bytes, read and written: package seal's and its reference's, walked.
-/
import Derived.Test.YtlohbkcedpkjaaaDoorBase
import Derived.Test.YtlohbkcedpkjaaaDoorTextP
namespace Go.Proofs.YtlohbkcedpkjaaaDoor
open Go.RowKit
open Byts
set_option linter.unusedVariables false

theorem nums_set (k : IntKind) (zs : List Int) (i : Nat) (z : Int) : (nums k zs).set i (.int k z) = nums k (zs.set i z) := by
  unfold nums
  rw [List.map_set]
theorem nums_get {k : IntKind} {zs : List Int} {i : Nat} {z : Int} (h : zs[i]? = some z) : (nums k zs)[i]? = some (.int k z) := by
  unfold nums
  rw [List.getElem?_map, h]; rfl
theorem nums_setArr (k : IntKind) (zs : List Int) (i : Nat) (z : Int) : (nums k zs).toArray.setIfInBounds i (.int k z) = (nums k (zs.set i z)).toArray := by
  rw [← nums_set]; simp
theorem Blk.reads {w : World} {g t : Nat} {zs : List Int} {k : IntKind} (hb : Blk w g t (nums k zs).toArray) (off n : Nat) (h : off + n ≤ zs.length) : Reads w w.heap.size 1 (some ⟨g, off, none⟩) n (nums k ((zs.drop off).take n)) := by
  refine ⟨by simp [nums]; omega, fun hn => ⟨_, rfl, hb.lt, fun j u hu => ?_⟩⟩
  obtain ⟨z, hz, rfl⟩ := nums_at hu
  have hj : j < n := by
    rcases Nat.lt_or_ge j n with h' | h'
    · exact h'
    · rw [List.getElem?_take, if_neg (by omega)] at hz; cases hz
  rw [List.getElem?_take, if_pos hj, List.getElem?_drop] at hz
  have e : (⟨g, off, none⟩ : Addr).add j = ⟨g, off + j, none⟩ := by unfold Addr.add; split <;> simp_all
  rw [e, hb.cell, List.getElem?_toArray]
  exact nums_get hz
theorem shr_is (x : Int) (j : Nat) (h0 : 0 ≤ x) : x / 2 ^ (8 * j) = x / 256 ^ j := by
  congr 1
  rw [Int.pow_mul]; rfl
/-- seal.number: a number's bytes laid into a row -/
theorem number_any (g off n cap : Nat) (zs : List Int) (x : Int) (w : World) (hb : Blk w g 5 (nums .u8 zs).toArray) (hn : off + n ≤ zs.length) (hx : 0 ≤ x) (hx1 : x ≤ 18446744073709551615) (hl : zs.length ≤ 1000000) (hpos : 0 < n) (h8 : n ≤ 8) :
    Calls Tryd.prog 59 #[.slice (some ⟨g, off, none⟩) n cap, .int .u64 x] w fun e w' => e = .returned (.tuple #[]) ∧ Blk w' g 5 (nums .u8 (lay zs off (be n x))).toArray ∧ w.grownBy w' (some g) ∧ w'.heap.size = w.heap.size := by
  have HB := Lib.hid hb
  clear hb
  go_enter Tryd.func59, Tryd.ntmps59
  go_wp2_with fail
  go_loopw [4, 7] (fun _ i wr => ∃ k : Nat, k ≤ n ∧ i = .int .i64 k ∧ Blk wr g 5 (nums .u8 (lay zs off ((be n x).take k))).toArray ∧ w.grownBy wr (some g) ∧ wr.heap.size = w.heap.size) (fun _ i _ => n - (intOf i).toNat)
  case atStart => exact ⟨0, Nat.zero_le _, rfl, by rw [List.take_zero, lay_nil]; exact HB.out, World.grownBy.refl _ _, rfl⟩
  case round =>
    obtain ⟨k, hk, rfl, hblk, hgr, hsz⟩ := hrel
    by_cases hlt : k < n
    · have e1 := lay_at (zs := zs) (bs := be n x) (off := off) (k := k) (by rw [be_length]; exact hlt) (by rw [be_length]; exact hn)
      have e2 := lay_set (zs := zs) (bs := be n x) (off := off) (k := k) (by rw [be_length]; exact hlt) (by rw [be_length]; exact hn)
      rw [be_getD n x k hlt] at e2
      have hc : wr.cell? ⟨g, off + k, none⟩ = some (.int .u8 (zs[off + k]'(by omega))) := by
        rw [hblk.cell, List.getElem?_toArray]
        exact nums_get (by rw [e1, List.getElem?_eq_getElem (by omega)])
      have hf : wr.frozen? ⟨g, off + k, none⟩ = false := hblk.frozen _
      have hst := hblk.set_ (off + k) (.int .u8 (x / 256 ^ (n - 1 - k) % 256))
      rw [nums_setArr, e2] at hst
      have HS := Lib.hid hst
      have HG := Lib.hid (only_setCell (p := ⟨g, off + k, none⟩) hgr (.inl rfl) (.int .u8 (x / 256 ^ (n - 1 - k) % 256)))
      have HZ := Lib.hid hsz
      generalize zs[off + k]'(by omega) = old at hc
      clear e1 e2 hst hblk hgr hsz
      go_wp2_with fail
      rw [shr_is x (n - 1 - k) hx]
      go_roundw
      case rel => exact ⟨k + 1, by omega, by go_num, HS.out, HG.out, by simp [World.setCell, HZ.out]⟩
      case measure => simp [intOf]; omega
    · obtain rfl : k = n := by omega
      have e1 : (be k x).take k = be k x := List.take_of_length_le (by rw [be_length]; exact Nat.le_refl _)
      rw [e1] at hblk
      have HBk := Lib.hid hblk
      have HG := Lib.hid hgr
      have HZ := Lib.hid hsz
      clear hblk hgr hsz e1
      go_wp2_with fail
      go_end0
      exact ⟨rfl, HBk.out, HG.out, HZ.out⟩
/-- seal.read, and its reference's: the number of bytes -/
theorem num_take (zs : List Int) (k : Nat) (h : k < zs.length) : num (zs.take (k + 1)) = 256 * num (zs.take k) + zs[k] := by
  rw [List.take_succ_eq_append_getElem h, num_snoc]
theorem num_bound (zs : List Int) (hz : ∀ z ∈ zs, 0 ≤ z ∧ z < 256) (k : Nat) (h8 : k < 8) : 0 ≤ num (zs.take k) ∧ num (zs.take k) < 72057594037927936 := by
  have h := num_lt (zs.take k) (fun z h => hz z (List.mem_of_mem_take h))
  refine ⟨h.1, Int.lt_of_lt_of_le h.2 ?_⟩
  have hl : (zs.take k).length ≤ 7 := by simp; omega
  have h256 : ∀ m, m ≤ 7 → (256 : Int) ^ m ≤ 72057594037927936 := by decide
  exact h256 _ hl
theorem or_low (a b : Int) (ha : 0 ≤ a) (ha1 : a < 72057594037927936) (hb : 0 ≤ b ∧ b < 256) : bits .or .u64 (256 * a) b = 256 * a + b := by
  rw [u64_or _ _ (by omega) (by omega) (by omega) (by omega)]
  have e : (256 * a).toNat = a.toNat * 2 ^ 8 := by omega
  rw [e, Nat.mul_comm, ← Nat.two_pow_add_eq_or_of_lt (show b.toNat < 2 ^ 8 by omega)]
  omega
set_option maxHeartbeats 400000 in
theorem read_any (A : Option Addr) (n cap : Nat) (zs : List Int) (w : World) (hr : Reads w w.heap.size 1 A n (nums .u8 zs)) (hz : ∀ z ∈ zs, 0 ≤ z ∧ z < 256) (h8 : n ≤ 8) :
    Calls Tryd.prog 47 #[.slice A n cap] w fun e w' => e = .returned (.int .u64 (num zs)) ∧ w = w' := by
  have hl : zs.length = n := by have := hr.1; simpa [nums] using this
  have HR := Lib.hid hr
  have HL := Lib.hid hl
  have HZ := Lib.hid hz
  clear hr hl hz
  go_enter Tryd.func47, Tryd.ntmps47
  go_wp2_with fail
  go_loop [3, 5, 8] (fun r _ i => ∃ k : Nat, k ≤ n ∧ i = .int .i64 k ∧ r = .int .u64 (num (zs.take k))) (fun _ _ i => n - (intOf i).toNat)
  case atStart => exact ⟨0, Nat.zero_le _, rfl, rfl⟩
  case round =>
    obtain ⟨k, hk, rfl, rfl⟩ := hrel
    by_cases hlt : k < n
    · obtain ⟨b, off, u, rfl, hb, hu, hc⟩ := HR.out.at_ hlt
      obtain ⟨z, hz, rfl⟩ := nums_at hu
      have hzb := HZ.out z (List.mem_of_getElem? hz)
      have hkl : k < zs.length := by rw [HL.out]; exact hlt
      have hzk : zs[k] = z := by rw [List.getElem?_eq_getElem hkl] at hz; injection hz
      have hnt := num_take zs k hkl
      rw [hzk] at hnt
      have hnb := num_bound zs HZ.out k (by omega)
      have HN := Lib.hid hnt
      clear hu hz hzk hnt
      generalize num (zs.take k) = x at hnb HN
      have hor := Lib.hid (or_low x z hnb.1 hnb.2 hzb)
      obtain ⟨z0, z1⟩ := hzb
      obtain ⟨x0, x1⟩ := hnb
      go_wp2_with fail
      go_round
      case rel => exact ⟨k + 1, by omega, by go_num, by rw [HN.out, Int.mul_comm x 256, hor.out]⟩
      case measure => simp [intOf]; omega
    · go_wp2_with fail
      go_ret
      have hfin : num (zs.take k) = num zs := by rw [List.take_of_length_le (by have := HL.out; omega)]
      exact ⟨ret_int hfin, rfl⟩
set_option maxHeartbeats 400000 in
theorem refnumber_any (A : Option Addr) (n cap : Nat) (zs : List Int) (w : World) (hr : Reads w w.heap.size 1 A n (nums .u8 zs)) (hz : ∀ z ∈ zs, 0 ≤ z ∧ z < 256) (h8 : n ≤ 8) :
    Calls Tryd.prog 54 #[.slice A n cap] w fun e w' => e = .returned (.int .u64 (num zs)) ∧ w = w' := by
  have hl : zs.length = n := by have := hr.1; simpa [nums] using this
  have HR := Lib.hid hr
  have HL := Lib.hid hl
  have HZ := Lib.hid hz
  clear hr hl hz
  go_enter Tryd.func54, Tryd.ntmps54
  go_wp2_with fail
  go_loop [3, 4] (fun r i => ∃ k : Nat, k ≤ n ∧ i = .int .i64 k ∧ r = .int .u64 (num (zs.take k))) (fun _ i => n - (intOf i).toNat)
  case atStart => exact ⟨0, Nat.zero_le _, rfl, rfl⟩
  case round =>
    obtain ⟨k, hk, rfl, rfl⟩ := hrel
    by_cases hlt : k < n
    · obtain ⟨b, off, u, rfl, hb, hu, hc⟩ := HR.out.at_ hlt
      obtain ⟨z, hz, rfl⟩ := nums_at hu
      have hzb := HZ.out z (List.mem_of_getElem? hz)
      have hkl : k < zs.length := by rw [HL.out]; exact hlt
      have hzk : zs[k] = z := by rw [List.getElem?_eq_getElem hkl] at hz; injection hz
      have hnt := num_take zs k hkl
      rw [hzk] at hnt
      have hnb := num_bound zs HZ.out k (by omega)
      have HN := Lib.hid hnt
      clear hu hz hzk hnt
      generalize num (zs.take k) = x at hnb HN
      obtain ⟨z0, z1⟩ := hzb
      obtain ⟨x0, x1⟩ := hnb
      go_wp2_with fail
      go_round
      case rel => exact ⟨k + 1, by omega, by go_num, by rw [HN.out]⟩
      case measure => simp [intOf]; omega
    · go_wp2_with fail
      go_ret
      have hfin : num (zs.take k) = num zs := by rw [List.take_of_length_le (by have := HL.out; omega)]
      exact ⟨ret_int hfin, rfl⟩
end Go.Proofs.YtlohbkcedpkjaaaDoor
