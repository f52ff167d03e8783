/-
  The walks of package crc and of its reference.
-/
import Derived.Test.YtfgkbghagklacaaDoorKit
import Derived.Test.YtfgkbghagklacaaDoorCrcPlain
namespace Go.Proofs.YtfgkbghagklacaaDoor
open Go.RowKit

theorem u32_xor_bv (a b : Crc.W32) : bits .xor .u32 (a.toNat : Int) (b.toNat : Int) = ((a ^^^ b).toNat : Int) := by
  rw [u32_xor_nat _ _ a.isLt b.isLt, BitVec.toNat_xor]
theorem u32_and_bv (a b : Crc.W32) : bits .and .u32 (a.toNat : Int) (b.toNat : Int) = ((a &&& b).toNat : Int) := by
  rw [u32_and_nat _ _ a.isLt b.isLt, BitVec.toNat_and]
theorem u32_not_bv (a : Crc.W32) : bits .xor .u32 IntKind.u32.max (a.toNat : Int) = ((~~~ a).toNat : Int) := by
  have h : IntKind.u32.max = ((BitVec.allOnes 32).toNat : Int) := by decide
  rw [h, u32_xor_bv, BitVec.allOnes_xor]
open Crc (wd wd_toNat)
theorem u32_xor_wd (a : Crc.W32) (z : Int) (h : 0 ≤ z ∧ z < 256) : bits .xor .u32 (a.toNat : Int) z = ((a ^^^ wd z).toNat : Int) := by
  rw [← u32_xor_bv, wd_toNat z h]
theorem take_wd (zs : List Int) (k : Nat) (z : Int) (h : zs[k]? = some z) : (zs.take (k + 1)).map wd = (zs.take k).map wd ++ [wd z] := by
  have hk : k < zs.length := by
    rcases Nat.lt_or_ge k zs.length with h' | h'
    · exact h'
    · rw [List.getElem?_eq_none h'] at h; cases h
  rw [List.take_succ_eq_append_getElem hk, List.map_append]
  rw [List.getElem?_eq_getElem hk] at h
  injection h with h
  simp [h]
/-- the table of the program lies in its variable -/
def Tab (w : World) : Prop := ∀ j, j < 16 → w.cell? ⟨0, j, none⟩ = some (.int .u32 (Crc.tab.getD j 0 : Nat))
theorem Tab.size {w : World} (h : Tab w) : 0 < w.heap.size := by
  have h0 := h 0 (by decide)
  rcases Nat.lt_or_ge 0 w.heap.size with h' | h'
  · exact h'
  · simp [World.cell?, Array.getElem?_eq_none h'] at h0
theorem Tab.below {w w' : World} {B : Nat} (h : Tab w) (hb : Below B w w') (hB : w.heap.size ≤ B) : Tab w' :=
  fun j hj => (hb.cell (p := ⟨0, j, none⟩) (Nat.lt_of_lt_of_le h.size hB)).trans (h j hj)
theorem Tab.alloc {w : World} (h : Tab w) (o : Obj) : Tab (w.alloc o) := fun j hj => (World.cell?_alloc_lt w o _ h.size).trans (h j hj)
theorem Tab.drew {w : World} (h : Tab w) : Tab w.drew := h
theorem Tab.drewN {w : World} (h : Tab w) (n : Nat) : Tab (w.drewN n) := h

/-- four bits: what the table's step makes -/
theorem four_bits (x : Crc.W32) (w : World) (ht : Tab w) : ∃ (j : Nat) (t : Int) (y : Crc.W32), j < 16 ∧ bits .and .u32 (x.toNat : Int) 15 = (j : Int) ∧ w.cell? ⟨0, j, none⟩ = some (.int .u32 t) ∧
    bits .xor .u32 ((x.toNat : Int) / 16) t = (y.toNat : Int) ∧ Hid (y = Crc.stN 4 x) := by
  have hj : (x &&& 15#32).toNat < 16 := by rw [BitVec.toNat_and]; exact Nat.lt_of_le_of_lt Nat.and_le_right (by decide)
  refine ⟨(x &&& 15#32).toNat, _, Crc.stN 4 x, hj, ?_, ht _ hj, ?_, Lib.hid rfl⟩
  · exact u32_and_bv x 15#32
  · have e1 : (((x.toNat : Nat) : Int) / (16 : Int)) = (((x >>> 4).toNat : Nat) : Int) := by
      rw [BitVec.toNat_ushiftRight, Nat.shiftRight_eq_div_pow]; omega
    have e2 := Crc.tab_is _ hj
    rw [← e2, e1, u32_xor_bv, Crc.stN_four x]
    simp

set_option maxHeartbeats 400000 in
theorem more_any (c : Crc.W32) (A : Option Addr) (n cap : Nat) (zs : List Int) (w : World) (ht : Tab w) (hr : Reads w w.heap.size 1 A n (nums .u8 zs)) (hz : ∀ z ∈ zs, 0 ≤ z ∧ z < 256) (hn : n ≤ 9223372036854775807) :
    Calls Tryd.prog 17 #[.int .u32 c.toNat, .slice A n cap] w fun e w' => e = .returned (.int .u32 (Crc.more c zs).toNat) ∧ w = w' := by
  have HR := Lib.hid hr
  have HZ := Lib.hid hz
  have HT := Lib.hid ht
  have HL : zs.length = n := by simpa [nums_length] using hr.1
  have HL' := Lib.hid HL
  clear hr hz ht HL
  obtain ⟨c0, e0, H0⟩ : ∃ c0 : Crc.W32, bits .xor .u32 IntKind.u32.max (c.toNat : Int) = (c0.toNat : Int) ∧ Hid (~~~ c = c0) := ⟨~~~ c, u32_not_bv c, rfl⟩
  go_enter Tryd.func17, Tryd.ntmps17
  go_wp2
  clear e0
  go_loop [5, 12] (fun r i => ∃ k : Nat, k ≤ n ∧ i = .int .i64 k ∧ r = .int .u32 (Crc.run c0 ((zs.take k).map wd)).toNat) (fun _ i => n - (intOf i).toNat)
  case atStart => exact ⟨0, Nat.zero_le _, rfl, rfl⟩
  case round =>
    obtain ⟨k, hk, rfl, rfl⟩ := hrel
    by_cases hlt : k < n
    · obtain ⟨b, off, u, rfl, hb, hu, hc⟩ := HR.out.at_ hlt
      obtain ⟨z, hz, rfl⟩ := nums_at hu
      have hzb := HZ.out z (List.mem_of_getElem? hz)
      have HK := Lib.hid (take_wd zs k z hz)
      clear hu hz
      obtain ⟨r, hr⟩ : ∃ r, Crc.run c0 ((zs.take k).map wd) = r := ⟨_, rfl⟩
      rw [hr]
      have HRun := Lib.hid hr
      clear hr
      obtain ⟨x1, e1, H1⟩ : ∃ x1 : Crc.W32, bits .xor .u32 (r.toNat : Int) z = (x1.toNat : Int) ∧ Hid (x1 = r ^^^ wd z) := ⟨_, u32_xor_wd r z hzb, rfl⟩
      obtain ⟨j1, t1, x2, hj1, a1, c1, b1, H2⟩ := four_bits x1 w HT.out
      obtain ⟨j2, t2, x3, hj2, a2, c2, b2, H3⟩ := four_bits x2 w HT.out
      obtain ⟨z0, z1⟩ := hzb
      go_wp2
      go_round
      case rel =>
        refine ⟨k + 1, by omega, by go_num, ?_⟩
        have e : x3 = Crc.run c0 ((zs.take (k + 1)).map wd) := by
          rw [HK.out, Crc.run_append, HRun.out, H3.out, H2.out, H1.out, ← Crc.stN_add]
          rfl
        rw [e]
      case measure => simp [intOf]; omega
    · obtain ⟨d, hd⟩ : ∃ d, Crc.run c0 ((zs.take k).map wd) = d := ⟨_, rfl⟩
      rw [hd]
      have HD := Lib.hid hd
      clear hd
      obtain ⟨d0, e0, HD0⟩ : ∃ d0 : Crc.W32, bits .xor .u32 IntKind.u32.max (d.toNat : Int) = (d0.toNat : Int) ∧ Hid (~~~ d = d0) := ⟨~~~ d, u32_not_bv d, rfl⟩
      go_wp2
      go_ret
      have hfin : (d0.toNat : Int) = ((Crc.more c zs).toNat : Int) := by
        unfold Crc.more
        rw [H0.out, ← HD0.out, ← HD.out, List.take_of_length_le (by have := HL'.out; omega)]
      exact ⟨ret_int hfin, rfl⟩

/-- one bit of the reference -/
theorem one_bit (x : Crc.W32) : (∃ y : Crc.W32, (((x.toNat : Int) % 2 == 1) = true) ∧ ∃ v : Int, (x.toNat : Int) / 2 = v ∧ bits .xor .u32 v 2197175160 = (y.toNat : Int) ∧ Hid (y = Crc.st1 x)) ∨
    ((((x.toNat : Int) % 2 == 1) = false) ∧ ∃ y : Crc.W32, (x.toNat : Int) / 2 = (y.toNat : Int) ∧ Hid (y = Crc.st1 x)) := by
  have hs : (((x.toNat : Nat) : Int) / (2 : Int)) = (((x >>> 1).toNat : Nat) : Int) := by
    rw [BitVec.toNat_ushiftRight, Nat.shiftRight_eq_div_pow]; omega
  have hl : x.getLsbD 0 = decide (x.toNat % 2 = 1) := by simp [BitVec.getLsbD, Nat.testBit_zero]
  rcases Nat.mod_two_eq_zero_or_one x.toNat with h | h
  · right
    refine ⟨by rw [beq_eq_false_iff_ne]; omega, x >>> 1, hs, ?_⟩
    have : x.getLsbD 0 = false := by rw [hl]; simp [h]
    exact Lib.hid (by unfold Crc.st1; rw [this]; rfl)
  · left
    refine ⟨(x >>> 1) ^^^ Crc.poly, by rw [beq_iff_eq]; omega, _, rfl, ?_, ?_⟩
    · rw [hs]; exact u32_xor_bv (x >>> 1) Crc.poly
    · have : x.getLsbD 0 = true := by rw [hl]; simp [h]
      exact Lib.hid (by unfold Crc.st1; rw [this]; rfl)
theorem u32_sub_not (a : Crc.W32) : (4294967295 : Int) - (a.toNat : Int) = ((~~~ a).toNat : Int) := by
  have := a.isLt
  rw [BitVec.toNat_not]; omega

set_option maxHeartbeats 400000 in
theorem refmore_any (c : Crc.W32) (A : Option Addr) (n cap : Nat) (zs : List Int) (w : World) (hr : Reads w w.heap.size 1 A n (nums .u8 zs)) (hz : ∀ z ∈ zs, 0 ≤ z ∧ z < 256) (hn : n ≤ 9223372036854775807) :
    Calls Tryd.prog 18 #[.int .u32 c.toNat, .slice A n cap] w fun e w' => e = .returned (.int .u32 (Crc.more c zs).toNat) ∧ w = w' := by
  have HR := Lib.hid hr
  have HZ := Lib.hid hz
  have HL : zs.length = n := by simpa [nums_length] using hr.1
  have HL' := Lib.hid HL
  clear hr hz HL
  have hlt := c.isLt
  obtain ⟨c0, e0, H0⟩ : ∃ c0 : Crc.W32, (4294967295 : Int) - (c.toNat : Int) = (c0.toNat : Int) ∧ Hid (~~~ c = c0) := ⟨~~~ c, u32_sub_not c, rfl⟩
  go_enter Tryd.func18, Tryd.ntmps18
  go_wp2
  clear e0
  go_loop [5, 6] (fun r i => ∃ k : Nat, k ≤ n ∧ i = .int .i64 k ∧ r = .int .u32 (Crc.run c0 ((zs.take k).map wd)).toNat) (fun _ i => n - (intOf i).toNat)
  case atStart => exact ⟨0, Nat.zero_le _, rfl, rfl⟩
  case round =>
    obtain ⟨k, hk, rfl, rfl⟩ := hrel
    by_cases hlt : k < n
    · obtain ⟨b, off, u, rfl, hb, hu, hc⟩ := HR.out.at_ hlt
      obtain ⟨z, hz, rfl⟩ := nums_at hu
      have hzb := HZ.out z (List.mem_of_getElem? hz)
      have HK := Lib.hid (take_wd zs k z hz)
      clear hu hz
      obtain ⟨r, hr⟩ : ∃ r, Crc.run c0 ((zs.take k).map wd) = r := ⟨_, rfl⟩
      rw [hr]
      have HRun := Lib.hid hr
      clear hr
      obtain ⟨x1, e1, H1⟩ : ∃ x1 : Crc.W32, bits .xor .u32 (r.toNat : Int) z = (x1.toNat : Int) ∧ Hid (x1 = r ^^^ wd z) := ⟨_, u32_xor_wd r z hzb, rfl⟩
      obtain ⟨z0, z1⟩ := hzb
      go_wp2
      clear e1
      go_loop [5, 7] (fun r i => ∃ j : Nat, j ≤ 8 ∧ i = .int .i64 j ∧ r = .int .u32 (Crc.stN j x1).toNat) (fun _ i => 8 - (intOf i).toNat)
      case atStart => exact ⟨0, Nat.zero_le _, rfl, rfl⟩
      case round =>
        obtain ⟨j, hj, rfl, rfl⟩ := hrel
        obtain ⟨y, hy⟩ : ∃ y, Crc.stN j x1 = y := ⟨_, rfl⟩
        rw [hy]
        have HY := Lib.hid hy
        clear hy
        have hyl := y.isLt
        by_cases hj8 : j < 8
        · rcases one_bit y with ⟨y2, ht, v, hv, hx, H2⟩ | ⟨ht, y2, hv, H2⟩
          · go_wp2
            go_round
            case rel => exact ⟨j + 1, by omega, by go_num, by rw [H2.out, ← HY.out, ← Crc.stN_succ]⟩
            case measure => simp [intOf]; omega
          · go_wp2
            go_round
            case rel => exact ⟨j + 1, by omega, by go_num, by rw [H2.out, ← HY.out, ← Crc.stN_succ]⟩
            case measure => simp [intOf]; omega
        · go_wp2
          go_round
          case rel =>
            refine ⟨k + 1, by omega, by go_num, ?_⟩
            have e : y = Crc.run c0 ((zs.take (k + 1)).map wd) := by
              obtain rfl : j = 8 := by omega
              rw [HK.out, Crc.run_append, HRun.out, ← HY.out, H1.out]
              rfl
            rw [e]
          case measure => simp [intOf]; omega
    · obtain ⟨d, hd⟩ : ∃ d, Crc.run c0 ((zs.take k).map wd) = d := ⟨_, rfl⟩
      rw [hd]
      have HD := Lib.hid hd
      clear hd
      have hdl := d.isLt
      obtain ⟨d0, e0, HD0⟩ : ∃ d0 : Crc.W32, (4294967295 : Int) - (d.toNat : Int) = (d0.toNat : Int) ∧ Hid (~~~ d = d0) := ⟨~~~ d, u32_sub_not d, rfl⟩
      go_wp2
      go_ret
      have hfin : (d0.toNat : Int) = ((Crc.more c zs).toNat : Int) := by
        unfold Crc.more
        rw [H0.out, ← HD0.out, ← HD.out, List.take_of_length_le (by have := HL'.out; omega)]
      exact ⟨ret_int hfin, rfl⟩
end Go.Proofs.YtfgkbghagklacaaDoor
