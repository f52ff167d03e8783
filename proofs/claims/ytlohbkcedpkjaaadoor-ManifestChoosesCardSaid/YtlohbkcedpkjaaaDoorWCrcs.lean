import Derived.Test.YtlohbkcedpkjaaaDoorBase
import Derived.Test.YtlohbkcedpkjaaaDoorSealP
import Derived.Lib.SlBytesConst
import Derived.Test.YtlohbkcedpkjaaaDoorAppB
import Derived.Test.YtlohbkcedpkjaaaDoorWSealA
/-
  The walks of package crc and of its reference.
-/
namespace Go.Proofs.YtlohbkcedpkjaaaDoor
open Go.RowKit

theorem u32_xor_bv (a b : Crc.W32) : bits .xor .u32 (a.toNat : Int) (b.toNat : Int) = ((a ^^^ b).toNat : Int) := by
  rw [u32_xor_nat _ _ a.isLt b.isLt, BitVec.toNat_xor]
theorem u32_and_bv (a b : Crc.W32) : bits .and .u32 (a.toNat : Int) (b.toNat : Int) = ((a &&& b).toNat : Int) := by
  rw [u32_and_nat _ _ a.isLt b.isLt, BitVec.toNat_and]
theorem u32_not_bv (a : Crc.W32) : bits .xor .u32 IntKind.u32.max (a.toNat : Int) = ((~~~ a).toNat : Int) := by
  have h : IntKind.u32.max = ((BitVec.allOnes 32).toNat : Int) := by decide
  rw [h, u32_xor_bv, BitVec.allOnes_xor]
open Crc (wd wd_toNat)
theorem u32_xor_wd (a : Crc.W32) (z : Int) (h : 0 ≤ z ∧ z < 256) : bits .xor .u32 (a.toNat : Int) z = ((a ^^^ wd z).toNat : Int) := by
  rw [← u32_xor_bv, wd_toNat z h]
theorem take_wd (zs : List Int) (k : Nat) (z : Int) (h : zs[k]? = some z) : (zs.take (k + 1)).map wd = (zs.take k).map wd ++ [wd z] := by
  have hk : k < zs.length := by
    rcases Nat.lt_or_ge k zs.length with h' | h'
    · exact h'
    · rw [List.getElem?_eq_none h'] at h; cases h
  rw [List.take_succ_eq_append_getElem hk, List.map_append]
  rw [List.getElem?_eq_getElem hk] at h
  injection h with h
  simp [h]
/-- the table of the program lies in its variable -/
def Tab (w : World) : Prop := ∀ j, j < 16 → w.cell? ⟨0, j, none⟩ = some (.int .u32 (Crc.tab.getD j 0 : Nat))
theorem Tab.size {w : World} (h : Tab w) : 0 < w.heap.size := by
  have h0 := h 0 (by decide)
  rcases Nat.lt_or_ge 0 w.heap.size with h' | h'
  · exact h'
  · simp [World.cell?, Array.getElem?_eq_none h'] at h0
theorem Tab.below {w w' : World} {B : Nat} (h : Tab w) (hb : Below B w w') (hB : w.heap.size ≤ B) : Tab w' :=
  fun j hj => (hb.cell (p := ⟨0, j, none⟩) (Nat.lt_of_lt_of_le h.size hB)).trans (h j hj)
theorem Tab.alloc {w : World} (h : Tab w) (o : Obj) : Tab (w.alloc o) := fun j hj => (World.cell?_alloc_lt w o _ h.size).trans (h j hj)
theorem Tab.drew {w : World} (h : Tab w) : Tab w.drew := h
theorem Tab.drewN {w : World} (h : Tab w) (n : Nat) : Tab (w.drewN n) := h

/-- four bits: what the table's step makes -/
theorem four_bits (x : Crc.W32) (w : World) (ht : Tab w) : ∃ (j : Nat) (t : Int) (y : Crc.W32), j < 16 ∧ bits .and .u32 (x.toNat : Int) 15 = (j : Int) ∧ w.cell? ⟨0, j, none⟩ = some (.int .u32 t) ∧
    bits .xor .u32 ((x.toNat : Int) / 16) t = (y.toNat : Int) ∧ Hid (y = Crc.stN 4 x) := by
  have hj : (x &&& 15#32).toNat < 16 := by rw [BitVec.toNat_and]; exact Nat.lt_of_le_of_lt Nat.and_le_right (by decide)
  refine ⟨(x &&& 15#32).toNat, _, Crc.stN 4 x, hj, ?_, ht _ hj, ?_, Lib.hid rfl⟩
  · exact u32_and_bv x 15#32
  · have e1 : (((x.toNat : Nat) : Int) / (16 : Int)) = (((x >>> 4).toNat : Nat) : Int) := by
      rw [BitVec.toNat_ushiftRight, Nat.shiftRight_eq_div_pow]; omega
    have e2 := Crc.tab_is _ hj
    rw [← e2, e1, u32_xor_bv, Crc.stN_four x]
    simp

set_option maxHeartbeats 400000 in
theorem more_any (c : Crc.W32) (A : Option Addr) (n cap : Nat) (zs : List Int) (w : World) (ht : Tab w) (hr : Reads w w.heap.size 1 A n (nums .u8 zs)) (hz : ∀ z ∈ zs, 0 ≤ z ∧ z < 256) (hn : n ≤ 9223372036854775807) :
    Calls Tryd.prog 60 #[.int .u32 c.toNat, .slice A n cap] w fun e w' => e = .returned (.int .u32 (Crc.more c zs).toNat) ∧ w = w' := by
  have HR := Lib.hid hr
  have HZ := Lib.hid hz
  have HT := Lib.hid ht
  have HL : zs.length = n := by simpa [nums_length] using hr.1
  have HL' := Lib.hid HL
  clear hr hz ht HL
  obtain ⟨c0, e0, H0⟩ : ∃ c0 : Crc.W32, bits .xor .u32 IntKind.u32.max (c.toNat : Int) = (c0.toNat : Int) ∧ Hid (~~~ c = c0) := ⟨~~~ c, u32_not_bv c, rfl⟩
  go_enter Tryd.func60, Tryd.ntmps60
  go_wp2
  clear e0
  go_loop [5, 12] (fun r i => ∃ k : Nat, k ≤ n ∧ i = .int .i64 k ∧ r = .int .u32 (Crc.run c0 ((zs.take k).map wd)).toNat) (fun _ i => n - (intOf i).toNat)
  case atStart => exact ⟨0, Nat.zero_le _, rfl, rfl⟩
  case round =>
    obtain ⟨k, hk, rfl, rfl⟩ := hrel
    by_cases hlt : k < n
    · obtain ⟨b, off, u, rfl, hb, hu, hc⟩ := HR.out.at_ hlt
      obtain ⟨z, hz, rfl⟩ := nums_at hu
      have hzb := HZ.out z (List.mem_of_getElem? hz)
      have HK := Lib.hid (take_wd zs k z hz)
      clear hu hz
      obtain ⟨r, hr⟩ : ∃ r, Crc.run c0 ((zs.take k).map wd) = r := ⟨_, rfl⟩
      rw [hr]
      have HRun := Lib.hid hr
      clear hr
      obtain ⟨x1, e1, H1⟩ : ∃ x1 : Crc.W32, bits .xor .u32 (r.toNat : Int) z = (x1.toNat : Int) ∧ Hid (x1 = r ^^^ wd z) := ⟨_, u32_xor_wd r z hzb, rfl⟩
      obtain ⟨j1, t1, x2, hj1, a1, c1, b1, H2⟩ := four_bits x1 w HT.out
      obtain ⟨j2, t2, x3, hj2, a2, c2, b2, H3⟩ := four_bits x2 w HT.out
      obtain ⟨z0, z1⟩ := hzb
      go_wp2
      go_round
      case rel =>
        refine ⟨k + 1, by omega, by go_num, ?_⟩
        have e : x3 = Crc.run c0 ((zs.take (k + 1)).map wd) := by
          rw [HK.out, Crc.run_append, HRun.out, H3.out, H2.out, H1.out, ← Crc.stN_add]
          rfl
        rw [e]
      case measure => simp [intOf]; omega
    · obtain ⟨d, hd⟩ : ∃ d, Crc.run c0 ((zs.take k).map wd) = d := ⟨_, rfl⟩
      rw [hd]
      have HD := Lib.hid hd
      clear hd
      obtain ⟨d0, e0, HD0⟩ : ∃ d0 : Crc.W32, bits .xor .u32 IntKind.u32.max (d.toNat : Int) = (d0.toNat : Int) ∧ Hid (~~~ d = d0) := ⟨~~~ d, u32_not_bv d, rfl⟩
      go_wp2
      go_ret
      have hfin : (d0.toNat : Int) = ((Crc.more c zs).toNat : Int) := by
        unfold Crc.more
        rw [H0.out, ← HD0.out, ← HD.out, List.take_of_length_le (by have := HL'.out; omega)]
      exact ⟨ret_int hfin, rfl⟩

/-- one bit of the reference -/
theorem one_bit (x : Crc.W32) : (∃ y : Crc.W32, (((x.toNat : Int) % 2 == 1) = true) ∧ ∃ v : Int, (x.toNat : Int) / 2 = v ∧ bits .xor .u32 v 2197175160 = (y.toNat : Int) ∧ Hid (y = Crc.st1 x)) ∨
    ((((x.toNat : Int) % 2 == 1) = false) ∧ ∃ y : Crc.W32, (x.toNat : Int) / 2 = (y.toNat : Int) ∧ Hid (y = Crc.st1 x)) := by
  have hs : (((x.toNat : Nat) : Int) / (2 : Int)) = (((x >>> 1).toNat : Nat) : Int) := by
    rw [BitVec.toNat_ushiftRight, Nat.shiftRight_eq_div_pow]; omega
  have hl : x.getLsbD 0 = decide (x.toNat % 2 = 1) := by simp [BitVec.getLsbD, Nat.testBit_zero]
  rcases Nat.mod_two_eq_zero_or_one x.toNat with h | h
  · right
    refine ⟨by rw [beq_eq_false_iff_ne]; omega, x >>> 1, hs, ?_⟩
    have : x.getLsbD 0 = false := by rw [hl]; simp [h]
    exact Lib.hid (by unfold Crc.st1; rw [this]; rfl)
  · left
    refine ⟨(x >>> 1) ^^^ Crc.poly, by rw [beq_iff_eq]; omega, _, rfl, ?_, ?_⟩
    · rw [hs]; exact u32_xor_bv (x >>> 1) Crc.poly
    · have : x.getLsbD 0 = true := by rw [hl]; simp [h]
      exact Lib.hid (by unfold Crc.st1; rw [this]; rfl)
theorem u32_sub_not (a : Crc.W32) : (4294967295 : Int) - (a.toNat : Int) = ((~~~ a).toNat : Int) := by
  have := a.isLt
  rw [BitVec.toNat_not]; omega

set_option maxHeartbeats 400000 in
theorem refmore_any (c : Crc.W32) (A : Option Addr) (n cap : Nat) (zs : List Int) (w : World) (hr : Reads w w.heap.size 1 A n (nums .u8 zs)) (hz : ∀ z ∈ zs, 0 ≤ z ∧ z < 256) (hn : n ≤ 9223372036854775807) :
    Calls Tryd.prog 46 #[.int .u32 c.toNat, .slice A n cap] w fun e w' => e = .returned (.int .u32 (Crc.more c zs).toNat) ∧ w = w' := by
  have HR := Lib.hid hr
  have HZ := Lib.hid hz
  have HL : zs.length = n := by simpa [nums_length] using hr.1
  have HL' := Lib.hid HL
  clear hr hz HL
  have hlt := c.isLt
  obtain ⟨c0, e0, H0⟩ : ∃ c0 : Crc.W32, (4294967295 : Int) - (c.toNat : Int) = (c0.toNat : Int) ∧ Hid (~~~ c = c0) := ⟨~~~ c, u32_sub_not c, rfl⟩
  go_enter Tryd.func46, Tryd.ntmps46
  go_wp2
  clear e0
  go_loop [5, 6] (fun r i => ∃ k : Nat, k ≤ n ∧ i = .int .i64 k ∧ r = .int .u32 (Crc.run c0 ((zs.take k).map wd)).toNat) (fun _ i => n - (intOf i).toNat)
  case atStart => exact ⟨0, Nat.zero_le _, rfl, rfl⟩
  case round =>
    obtain ⟨k, hk, rfl, rfl⟩ := hrel
    by_cases hlt : k < n
    · obtain ⟨b, off, u, rfl, hb, hu, hc⟩ := HR.out.at_ hlt
      obtain ⟨z, hz, rfl⟩ := nums_at hu
      have hzb := HZ.out z (List.mem_of_getElem? hz)
      have HK := Lib.hid (take_wd zs k z hz)
      clear hu hz
      obtain ⟨r, hr⟩ : ∃ r, Crc.run c0 ((zs.take k).map wd) = r := ⟨_, rfl⟩
      rw [hr]
      have HRun := Lib.hid hr
      clear hr
      obtain ⟨x1, e1, H1⟩ : ∃ x1 : Crc.W32, bits .xor .u32 (r.toNat : Int) z = (x1.toNat : Int) ∧ Hid (x1 = r ^^^ wd z) := ⟨_, u32_xor_wd r z hzb, rfl⟩
      obtain ⟨z0, z1⟩ := hzb
      go_wp2
      clear e1
      go_loop [5, 7] (fun r i => ∃ j : Nat, j ≤ 8 ∧ i = .int .i64 j ∧ r = .int .u32 (Crc.stN j x1).toNat) (fun _ i => 8 - (intOf i).toNat)
      case atStart => exact ⟨0, Nat.zero_le _, rfl, rfl⟩
      case round =>
        obtain ⟨j, hj, rfl, rfl⟩ := hrel
        obtain ⟨y, hy⟩ : ∃ y, Crc.stN j x1 = y := ⟨_, rfl⟩
        rw [hy]
        have HY := Lib.hid hy
        clear hy
        have hyl := y.isLt
        by_cases hj8 : j < 8
        · rcases one_bit y with ⟨y2, ht, v, hv, hx, H2⟩ | ⟨ht, y2, hv, H2⟩
          · go_wp2
            go_round
            case rel => exact ⟨j + 1, by omega, by go_num, by rw [H2.out, ← HY.out, ← Crc.stN_succ]⟩
            case measure => simp [intOf]; omega
          · go_wp2
            go_round
            case rel => exact ⟨j + 1, by omega, by go_num, by rw [H2.out, ← HY.out, ← Crc.stN_succ]⟩
            case measure => simp [intOf]; omega
        · go_wp2
          go_round
          case rel =>
            refine ⟨k + 1, by omega, by go_num, ?_⟩
            have e : y = Crc.run c0 ((zs.take (k + 1)).map wd) := by
              obtain rfl : j = 8 := by omega
              rw [HK.out, Crc.run_append, HRun.out, ← HY.out, H1.out]
              rfl
            rw [e]
          case measure => simp [intOf]; omega
    · obtain ⟨d, hd⟩ : ∃ d, Crc.run c0 ((zs.take k).map wd) = d := ⟨_, rfl⟩
      rw [hd]
      have HD := Lib.hid hd
      clear hd
      have hdl := d.isLt
      obtain ⟨d0, e0, HD0⟩ : ∃ d0 : Crc.W32, (4294967295 : Int) - (d.toNat : Int) = (d0.toNat : Int) ∧ Hid (~~~ d = d0) := ⟨~~~ d, u32_sub_not d, rfl⟩
      go_wp2
      go_ret
      have hfin : (d0.toNat : Int) = ((Crc.more c zs).toNat : Int) := by
        unfold Crc.more
        rw [H0.out, ← HD0.out, ← HD.out, List.take_of_length_le (by have := HL'.out; omega)]
      exact ⟨ret_int hfin, rfl⟩
end Go.Proofs.YtlohbkcedpkjaaaDoor
/-
  Sum, its reference, Patch, and the chapter's example.
-/
namespace Go.Proofs.YtlohbkcedpkjaaaDoor
open Go.RowKit
open Crc (wd)

theorem sum_any (A : Option Addr) (n cap : Nat) (zs : List Int) (w : World) (ht : Tab w) (hr : Reads w w.heap.size 1 A n (nums .u8 zs)) (hz : ∀ z ∈ zs, 0 ≤ z ∧ z < 256) (hn : n ≤ 9223372036854775807) :
    Calls Tryd.prog 43 #[.slice A n cap] w fun e w' => e = .returned (.int .u32 (Crc.more 0#32 zs).toNat) ∧ w = w' := by
  have c : Calls Tryd.prog 60 #[.int .u32 0, .slice A n cap] w fun e w' => e = .returned (.int .u32 (Crc.more 0#32 zs).toNat) ∧ w = w' := more_any 0#32 A n cap zs w ht hr hz hn
  clear ht hr hz
  go_enter Tryd.func43, Tryd.ntmps43
  go_wp2_with fail
  refine c.mono ?_
  rintro e w' ⟨rfl, rfl⟩
  go_wp2
  go_ret
  exact ⟨rfl, rfl⟩

theorem refsum_any (A : Option Addr) (n cap : Nat) (zs : List Int) (w : World) (hr : Reads w w.heap.size 1 A n (nums .u8 zs)) (hz : ∀ z ∈ zs, 0 ≤ z ∧ z < 256) (hn : n ≤ 9223372036854775807) :
    Calls Tryd.prog 25 #[.slice A n cap] w fun e w' => e = .returned (.int .u32 (Crc.more 0#32 zs).toNat) ∧ w = w' := by
  have c : Calls Tryd.prog 46 #[.int .u32 0, .slice A n cap] w fun e w' => e = .returned (.int .u32 (Crc.more 0#32 zs).toNat) ∧ w = w' := refmore_any 0#32 A n cap zs w hr hz hn
  clear hr hz
  go_enter Tryd.func25, Tryd.ntmps25
  go_wp2_with fail
  refine c.mono ?_
  rintro e w' ⟨rfl, rfl⟩
  go_wp2
  go_ret
  exact ⟨rfl, rfl⟩

theorem more_check : (Crc.more 0#32 [49, 50, 51, 52, 53, 54, 55, 56, 57]).toNat = 3808858755 := by decide +kernel
theorem more_none : (Crc.more 0#32 []).toNat = 0 := by decide +kernel

end Go.Proofs.YtlohbkcedpkjaaaDoor
/-
  Patch: four bytes that bring a register to another one.
-/
namespace Go.Proofs.YtlohbkcedpkjaaaDoor
open Go.RowKit
open Crc (wd)

/-- one step back -/
theorem back_bit (x : Crc.W32) :
    ((((x.toNat : Int) / 2147483648 == 1) = true) ∧ ∃ (a b : Int) (y : Crc.W32), bits .xor .u32 (x.toNat : Int) 2197175160 = a ∧ IntKind.u32.wrap (a * 2) = b ∧ bits .or .u32 b 1 = (y.toNat : Int) ∧ Hid (y = Crc.un1 x)) ∨
    ((((x.toNat : Int) / 2147483648 == 1) = false) ∧ ∃ y : Crc.W32, IntKind.u32.wrap ((x.toNat : Int) * 2) = (y.toNat : Int) ∧ Hid (y = Crc.un1 x)) := by
  have hl := x.isLt
  have hm : x.msb = decide (2 ^ 31 ≤ x.toNat) := by simp [BitVec.msb_eq_decide]
  have hw : ∀ u : Crc.W32, IntKind.u32.wrap ((u.toNat : Int) * 2) = ((u <<< 1).toNat : Int) := by
    intro u
    rw [BitVec.toNat_shiftLeft, Nat.shiftLeft_eq]
    simp [IntKind.wrap, IntKind.signed, IntKind.bits]
  by_cases h : 2 ^ 31 ≤ x.toNat
  · left
    refine ⟨by rw [beq_iff_eq]; omega, _, _, Crc.un1 x, rfl, rfl, ?_, Lib.hid rfl⟩
    have e : bits .xor .u32 (x.toNat : Int) 2197175160 = ((x ^^^ Crc.poly).toNat : Int) := u32_xor_bv x Crc.poly
    rw [e, hw]
    have o : bits .or .u32 (((x ^^^ Crc.poly) <<< 1).toNat : Int) ((1#32).toNat : Int) = ((((x ^^^ Crc.poly) <<< 1) ||| 1#32).toNat : Int) := by
      rw [u32_or_nat _ _ (BitVec.isLt _) (BitVec.isLt _), BitVec.toNat_or]
    unfold Crc.un1
    rw [hm, decide_eq_true h]
    exact o
  · right
    refine ⟨by rw [beq_eq_false_iff_ne]; omega, Crc.un1 x, ?_, Lib.hid rfl⟩
    rw [hw]
    unfold Crc.un1
    rw [hm, decide_eq_false h]
    rfl
/-- a word's bytes, the lowest first -/
def bytesZ (r : Crc.W32) : List Int := [(r.toNat : Int) % 256, (r.toNat : Int) / 256 % 256, (r.toNat : Int) / 65536 % 256, (r.toNat : Int) / 16777216]
theorem bytesZ_lt (r : Crc.W32) : ∀ z ∈ bytesZ r, 0 ≤ z ∧ z < 256 := by
  have hr := r.isLt
  intro z hz
  simp only [bytesZ, List.mem_cons, List.mem_nil_iff, or_false] at hz
  rcases hz with rfl | rfl | rfl | rfl <;> omega
theorem wd_b0 (r : Crc.W32) (z : Int) (h : z = ((r.toNat % 256 : Nat) : Int)) : wd z = Crc.b0 r := by
  subst h
  apply BitVec.eq_of_toNat_eq
  unfold Crc.b0 Crc.wd
  rw [BitVec.toNat_and, show (255#32).toNat = 2 ^ 8 - 1 from rfl, Nat.and_two_pow_sub_one_eq_mod, BitVec.toNat_ofNat, Int.toNat_natCast]
  omega
theorem bytesZ_wd (r : Crc.W32) : (bytesZ r).map wd = Crc.bytes4 r := by
  have hr := r.isLt
  have e : ∀ k, (r >>> k).toNat = r.toNat / 2 ^ k := fun k => by rw [BitVec.toNat_ushiftRight, Nat.shiftRight_eq_div_pow]
  have e8 := e 8
  have e16 := e 16
  have e24 := e 24
  simp only [bytesZ, List.map_cons, List.map_nil, Crc.bytes4]
  rw [wd_b0 r _ (by omega), wd_b0 (r >>> 8) _ (by omega), wd_b0 (r >>> 16) _ (by omega), wd_b0 (r >>> 24) _ (by omega)]
theorem bytesZ_shr (r : Crc.W32) (k : Nat) (h : k < 4) : (bytesZ r).getD k 0 = (r.toNat : Int) / 2 ^ (8 * k) % 256 := by
  have hr := r.isLt
  have hk : k = 0 ∨ k = 1 ∨ k = 2 ∨ k = 3 := by omega
  rcases hk with rfl | rfl | rfl | rfl
  · simp [bytesZ]
  · simp [bytesZ]
  · simp [bytesZ]
  · simp [bytesZ]; omega
/-- what Patch leaves: four new bytes -/
def PatchPost (c wnt : Crc.W32) (w : World) (e : Ending) (w' : World) : Prop :=
  ∃ zs : List Int, zs.length = 4 ∧ (∀ z ∈ zs, 0 ≤ z ∧ z < 256) ∧ zs.map wd = Crc.bytes4 (Crc.unN 32 (~~~ wnt) ^^^ ~~~ c) ∧ e = .returned (.slice (some ⟨w.heap.size, 0, none⟩) 4 4) ∧ w' = w.alloc (.cells (nums .u8 zs).toArray 5)
end Go.Proofs.YtlohbkcedpkjaaaDoor
/-
  A number's bytes, the highest first: the references' 'high', walked.
-/
namespace Go.Proofs.YtlohbkcedpkjaaaDoor
open Go.RowKit
open Byts
set_option linter.unusedVariables false

set_option maxHeartbeats 400000 in
theorem high20_any (n : Nat) (x : Int) (w : World) (hx : 0 ≤ x) (hx1 : x ≤ 18446744073709551615) (hn : n ≤ 8) :
    Calls Tryd.prog 24 #[.int .u64 x, .int .i64 (n : Int)] w fun e w' => e = .returned (.slice (some ⟨w.heap.size, 0, none⟩) n n) ∧ Blk w' w.heap.size 5 (nums .u8 (be n x)).toArray ∧ Below w.heap.size w w' ∧ w'.heap.size = w.heap.size + 1 := by
  have hmk := make_bytes n (by omega)
  go_enter Tryd.func24, Tryd.ntmps24
  go_wp2_with fail
  clear hmk
  go_loopw [0, 6] (fun x0 i wr => ∃ k : Nat, k ≤ n ∧ i = .int .i64 ((n : Int) - 1 - k) ∧ x0 = .int .u64 (x / 256 ^ k) ∧ Blk wr w.heap.size 5 (nums .u8 (fill n k x)).toArray ∧ Below w.heap.size w wr ∧ wr.heap.size = w.heap.size + 1) (fun _ i _ => (intOf i + 1).toNat)
  case atStart => exact ⟨0, Nat.zero_le _, by simp, by simp, by rw [fill_zero]; exact Blk.new _ _ _, (Below.refl _ _).alloc (Nat.le_refl _) _, by simp⟩
  case round =>
    obtain ⟨k, hk, rfl, rfl, hblk, hbel, hsz⟩ := hrel
    have hy0 : 0 ≤ x / 256 ^ k := Int.ediv_nonneg hx (Int.pow_nonneg (by decide))
    have hy1 : x / 256 ^ k ≤ 18446744073709551615 := Int.le_trans (Int.ediv_le_self _ hx) hx1
    have hys : Hid (x / 256 ^ k / 256 = x / 256 ^ (k + 1)) := Lib.hid (by rw [Int.ediv_ediv_of_nonneg (Int.pow_nonneg (by decide)), Int.pow_succ])
    by_cases hlt : k < n
    · have hc : wr.cell? ⟨w.heap.size, n - 1 - k, none⟩ = some (.int .u8 0) := by
        rw [hblk.cell, List.getElem?_toArray]
        exact nums_get (fill_at n k x hlt)
      have hf : wr.frozen? ⟨w.heap.size, n - 1 - k, none⟩ = false := hblk.frozen _
      have hst := hblk.set_ (n - 1 - k) (.int .u8 (x / 256 ^ k % 256))
      rw [nums_setArr, fill_set n k x hlt] at hst
      have HS := Lib.hid hst
      have HB := Lib.hid (hbel.setCell (p := ⟨w.heap.size, n - 1 - k, none⟩) (Nat.le_refl _) (.int .u8 (x / 256 ^ k % 256)))
      have HZ := Lib.hid hsz
      clear hst hblk hbel hsz
      generalize x / 256 ^ k = y at hy0 hy1 hys HS HB
      have i0 : (0 : Int) ≤ (n : Int) - 1 - (k : Int) := by omega
      have i1 : ((n : Int) - 1 - (k : Int)).toNat = n - 1 - k := by omega
      go_wp2_with fail
      clear i1
      go_roundw
      case rel => exact ⟨k + 1, by omega, by go_num, by rw [hys.out], HS.out, HB.out, by simp [World.setCell, HZ.out]⟩
      case measure => simp [intOf]; omega
    · obtain rfl : k = n := by omega
      rw [fill_all] at hblk
      have HS := Lib.hid hblk
      have HB := Lib.hid hbel
      have HZ := Lib.hid hsz
      clear hblk hbel hsz
      go_wp2_with fail
      go_ret
      exact ⟨rfl, HS.out, HB.out, HZ.out⟩
set_option maxHeartbeats 400000 in
theorem high09_any (n : Nat) (x : Int) (w : World) (hx : 0 ≤ x) (hx1 : x ≤ 4294967295) (hn : n ≤ 8) :
    Calls Tryd.prog 61 #[.int .u32 x, .int .i64 (n : Int)] w fun e w' => e = .returned (.slice (some ⟨w.heap.size, 0, none⟩) n n) ∧ Blk w' w.heap.size 5 (nums .u8 (be n x)).toArray ∧ Below w.heap.size w w' ∧ w'.heap.size = w.heap.size + 1 := by
  have hmk := make_bytes n (by omega)
  go_enter Tryd.func61, Tryd.ntmps61
  go_wp2_with fail
  clear hmk
  go_loopw [0, 6] (fun x0 i wr => ∃ k : Nat, k ≤ n ∧ i = .int .i64 ((n : Int) - 1 - k) ∧ x0 = .int .u32 (x / 256 ^ k) ∧ Blk wr w.heap.size 5 (nums .u8 (fill n k x)).toArray ∧ Below w.heap.size w wr ∧ wr.heap.size = w.heap.size + 1) (fun _ i _ => (intOf i + 1).toNat)
  case atStart => exact ⟨0, Nat.zero_le _, by simp, by simp, by rw [fill_zero]; exact Blk.new _ _ _, (Below.refl _ _).alloc (Nat.le_refl _) _, by simp⟩
  case round =>
    obtain ⟨k, hk, rfl, rfl, hblk, hbel, hsz⟩ := hrel
    have hy0 : 0 ≤ x / 256 ^ k := Int.ediv_nonneg hx (Int.pow_nonneg (by decide))
    have hy1 : x / 256 ^ k ≤ 4294967295 := Int.le_trans (Int.ediv_le_self _ hx) hx1
    have hys : Hid (x / 256 ^ k / 256 = x / 256 ^ (k + 1)) := Lib.hid (by rw [Int.ediv_ediv_of_nonneg (Int.pow_nonneg (by decide)), Int.pow_succ])
    by_cases hlt : k < n
    · have hc : wr.cell? ⟨w.heap.size, n - 1 - k, none⟩ = some (.int .u8 0) := by
        rw [hblk.cell, List.getElem?_toArray]
        exact nums_get (fill_at n k x hlt)
      have hf : wr.frozen? ⟨w.heap.size, n - 1 - k, none⟩ = false := hblk.frozen _
      have hst := hblk.set_ (n - 1 - k) (.int .u8 (x / 256 ^ k % 256))
      rw [nums_setArr, fill_set n k x hlt] at hst
      have HS := Lib.hid hst
      have HB := Lib.hid (hbel.setCell (p := ⟨w.heap.size, n - 1 - k, none⟩) (Nat.le_refl _) (.int .u8 (x / 256 ^ k % 256)))
      have HZ := Lib.hid hsz
      clear hst hblk hbel hsz
      generalize x / 256 ^ k = y at hy0 hy1 hys HS HB
      have i0 : (0 : Int) ≤ (n : Int) - 1 - (k : Int) := by omega
      have i1 : ((n : Int) - 1 - (k : Int)).toNat = n - 1 - k := by omega
      go_wp2_with fail
      clear i1
      go_roundw
      case rel => exact ⟨k + 1, by omega, by go_num, by rw [hys.out], HS.out, HB.out, by simp [World.setCell, HZ.out]⟩
      case measure => simp [intOf]; omega
    · obtain rfl : k = n := by omega
      rw [fill_all] at hblk
      have HS := Lib.hid hblk
      have HB := Lib.hid hbel
      have HZ := Lib.hid hsz
      clear hblk hbel hsz
      go_wp2_with fail
      go_ret
      exact ⟨rfl, HS.out, HB.out, HZ.out⟩
end Go.Proofs.YtlohbkcedpkjaaaDoor
