/-
  Patch: four bytes that bring a register to another one.
-/
import Derived.Test.YtfgkbghagklacaaDoorWCrcB
import Derived.Test.YtfgkbghagklacaaDoorWords
namespace Go.Proofs.YtfgkbghagklacaaDoor
open Go.RowKit
open Crc (wd)

/-- one step back -/
theorem back_bit (x : Crc.W32) :
    ((((x.toNat : Int) / 2147483648 == 1) = true) ∧ ∃ (a b : Int) (y : Crc.W32), bits .xor .u32 (x.toNat : Int) 2197175160 = a ∧ IntKind.u32.wrap (a * 2) = b ∧ bits .or .u32 b 1 = (y.toNat : Int) ∧ Hid (y = Crc.un1 x)) ∨
    ((((x.toNat : Int) / 2147483648 == 1) = false) ∧ ∃ y : Crc.W32, IntKind.u32.wrap ((x.toNat : Int) * 2) = (y.toNat : Int) ∧ Hid (y = Crc.un1 x)) := by
  have hl := x.isLt
  have hm : x.msb = decide (2 ^ 31 ≤ x.toNat) := by simp [BitVec.msb_eq_decide]
  have hw : ∀ u : Crc.W32, IntKind.u32.wrap ((u.toNat : Int) * 2) = ((u <<< 1).toNat : Int) := by
    intro u
    rw [BitVec.toNat_shiftLeft, Nat.shiftLeft_eq]
    simp [IntKind.wrap, IntKind.signed, IntKind.bits]
  by_cases h : 2 ^ 31 ≤ x.toNat
  · left
    refine ⟨by rw [beq_iff_eq]; omega, _, _, Crc.un1 x, rfl, rfl, ?_, Lib.hid rfl⟩
    have e : bits .xor .u32 (x.toNat : Int) 2197175160 = ((x ^^^ Crc.poly).toNat : Int) := u32_xor_bv x Crc.poly
    rw [e, hw]
    have o : bits .or .u32 (((x ^^^ Crc.poly) <<< 1).toNat : Int) ((1#32).toNat : Int) = ((((x ^^^ Crc.poly) <<< 1) ||| 1#32).toNat : Int) := by
      rw [u32_or_nat _ _ (BitVec.isLt _) (BitVec.isLt _), BitVec.toNat_or]
    unfold Crc.un1
    rw [hm, decide_eq_true h]
    exact o
  · right
    refine ⟨by rw [beq_eq_false_iff_ne]; omega, Crc.un1 x, ?_, Lib.hid rfl⟩
    rw [hw]
    unfold Crc.un1
    rw [hm, decide_eq_false h]
    rfl
/-- a word's bytes, the lowest first -/
def bytesZ (r : Crc.W32) : List Int := [(r.toNat : Int) % 256, (r.toNat : Int) / 256 % 256, (r.toNat : Int) / 65536 % 256, (r.toNat : Int) / 16777216]
theorem bytesZ_lt (r : Crc.W32) : ∀ z ∈ bytesZ r, 0 ≤ z ∧ z < 256 := by
  have hr := r.isLt
  intro z hz
  simp only [bytesZ, List.mem_cons, List.mem_nil_iff, or_false] at hz
  rcases hz with rfl | rfl | rfl | rfl <;> omega
theorem wd_b0 (r : Crc.W32) (z : Int) (h : z = ((r.toNat % 256 : Nat) : Int)) : wd z = Crc.b0 r := by
  subst h
  apply BitVec.eq_of_toNat_eq
  unfold Crc.b0 Crc.wd
  rw [BitVec.toNat_and, show (255#32).toNat = 2 ^ 8 - 1 from rfl, Nat.and_two_pow_sub_one_eq_mod, BitVec.toNat_ofNat, Int.toNat_natCast]
  omega
theorem bytesZ_wd (r : Crc.W32) : (bytesZ r).map wd = Crc.bytes4 r := by
  have hr := r.isLt
  have e : ∀ k, (r >>> k).toNat = r.toNat / 2 ^ k := fun k => by rw [BitVec.toNat_ushiftRight, Nat.shiftRight_eq_div_pow]
  have e8 := e 8
  have e16 := e 16
  have e24 := e 24
  simp only [bytesZ, List.map_cons, List.map_nil, Crc.bytes4]
  rw [wd_b0 r _ (by omega), wd_b0 (r >>> 8) _ (by omega), wd_b0 (r >>> 16) _ (by omega), wd_b0 (r >>> 24) _ (by omega)]
theorem bytesZ_shr (r : Crc.W32) (k : Nat) (h : k < 4) : (bytesZ r).getD k 0 = (r.toNat : Int) / 2 ^ (8 * k) % 256 := by
  have hr := r.isLt
  have hk : k = 0 ∨ k = 1 ∨ k = 2 ∨ k = 3 := by omega
  rcases hk with rfl | rfl | rfl | rfl
  · simp [bytesZ]
  · simp [bytesZ]
  · simp [bytesZ]
  · simp [bytesZ]; omega
/-- what Patch leaves: four new bytes -/
def PatchPost (c wnt : Crc.W32) (w : World) (e : Ending) (w' : World) : Prop :=
  ∃ zs : List Int, zs.length = 4 ∧ (∀ z ∈ zs, 0 ≤ z ∧ z < 256) ∧ zs.map wd = Crc.bytes4 (Crc.unN 32 (~~~ wnt) ^^^ ~~~ c) ∧ e = .returned (.slice (some ⟨w.heap.size, 0, none⟩) 4 4) ∧ w' = w.alloc (.cells (nums .u8 zs).toArray 5)
theorem patch_any (c wnt : Crc.W32) (w : World) :
    Calls Tryd.prog 19 #[.int .u32 c.toNat, .int .u32 wnt.toNat] w (PatchPost c wnt w) := by
  obtain ⟨r0, e0, H0⟩ : ∃ r0 : Crc.W32, bits .xor .u32 IntKind.u32.max (wnt.toNat : Int) = (r0.toNat : Int) ∧ Hid (~~~ wnt = r0) := ⟨~~~ wnt, u32_not_bv wnt, rfl⟩
  obtain ⟨c0, e1, H1⟩ : ∃ c0 : Crc.W32, bits .xor .u32 IntKind.u32.max (c.toNat : Int) = (c0.toNat : Int) ∧ Hid (~~~ c = c0) := ⟨~~~ c, u32_not_bv c, rfl⟩
  go_enter Tryd.func19, Tryd.ntmps19
  go_wp2
  clear e0
  go_loop [5, 8] (fun r i => ∃ k : Nat, k ≤ 32 ∧ i = .int .i64 k ∧ r = .int .u32 (Crc.unN k r0).toNat) (fun _ i => 32 - (intOf i).toNat)
  case atStart => exact ⟨0, Nat.zero_le _, rfl, rfl⟩
  case round =>
    obtain ⟨k, hk, rfl, rfl⟩ := hrel
    obtain ⟨y, hy⟩ : ∃ y, Crc.unN k r0 = y := ⟨_, rfl⟩
    rw [hy]
    have HY := Lib.hid hy
    clear hy
    have hyl := y.isLt
    by_cases hlt : k < 32
    · rcases back_bit y with ⟨ht, a, b, y2, ha, hb, hx, H2⟩ | ⟨ht, y2, hv, H2⟩
      · go_wp2
        go_round
        case rel => exact ⟨k + 1, by omega, by go_num, by rw [H2.out, ← HY.out, ← Crc.unN_succ]⟩
        case measure => simp [intOf]; omega
      · go_wp2
        go_round
        case rel => exact ⟨k + 1, by omega, by go_num, by rw [H2.out, ← HY.out, ← Crc.unN_succ]⟩
        case measure => simp [intOf]; omega
    · obtain ⟨r1, e2, H2⟩ : ∃ r1 : Crc.W32, bits .xor .u32 (y.toNat : Int) (c0.toNat : Int) = (r1.toNat : Int) ∧ Hid (y ^^^ c0 = r1) := ⟨_, u32_xor_bv y c0, rfl⟩
      go_wp2
      go_ret
      have hr := r1.isLt
      refine ⟨bytesZ r1, rfl, bytesZ_lt r1, ?_, rfl, rfl⟩
      obtain rfl : k = 32 := by omega
      rw [bytesZ_wd, ← H2.out, ← HY.out, ← H1.out, ← H0.out]
end Go.Proofs.YtfgkbghagklacaaDoor
