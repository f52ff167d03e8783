/-
  Package frame: length and Get, walked; its reference's Get.
-/
import Derived.Test.YtfgkbghagklacaaDoorWFrameR
namespace Go.Proofs.YtfgkbghagklacaaDoor
open Go.RowKit
open Byts Fram
set_option linter.unusedVariables false
/-- the length, as far as it has been read -/
def pz (zs : List Int) (k : Nat) : Int := if k ≤ 1 then 0 else if k = 2 then zs.getD 1 0 else if k = 3 then zs.getD 1 0 * 256 + zs.getD 2 0 else nZ zs
theorem pz_succ (zs : List Int) (k : Nat) (h1 : 1 ≤ k) (h : k < 4) : pz zs (k + 1) = pz zs k * 256 + zs.getD k 0 := by
  have hk : k = 1 ∨ k = 2 ∨ k = 3 := by omega
  rcases hk with rfl | rfl | rfl <;> simp [pz, nZ]
theorem pz_bd (zs : List Int) (hz : ∀ z ∈ zs, 0 ≤ z ∧ z < 256) (k : Nat) (h : k < 4) : 0 ≤ pz zs k ∧ pz zs k < 65536 := by
  have b1 := getD_nn hz 1
  have b2 := getD_nn hz 2
  unfold pz
  split
  · omega
  · split
    · omega
    · split
      · omega
      · omega
theorem or64_low (a b : Int) (ha : 0 ≤ a) (ha1 : a < 65536) (hb : 0 ≤ b ∧ b < 256) : bits .or .i64 (a * 256) b = a * 256 + b := by
  obtain ⟨a, rfl⟩ := Int.eq_ofNat_of_zero_le ha
  obtain ⟨b, rfl⟩ := Int.eq_ofNat_of_zero_le hb.1
  have h := i64_or_nat (a * 256) b (by omega) (by omega)
  rw [show (((a * 256 : Nat) : Nat) : Int) = (a : Int) * 256 by omega] at h
  rw [h, show a * 256 = 2 ^ 8 * a by omega, ← Nat.two_pow_add_eq_or_of_lt (show b < 2 ^ 8 by omega)]
  omega
theorem getD_cell {w : World} {B n cap : Nat} {A : Option Addr} {zs : List Int} (hr : Reads w B 1 A n (nums .u8 zs)) {k : Nat} (hk : k < n) : ∃ b off, A = some ⟨b, off, none⟩ ∧ w.cell? ⟨b, off + k, none⟩ = some (.int .u8 (zs.getD k 0)) := by
  obtain ⟨b, off, u, rfl, _, hu, hc⟩ := hr.at_ hk
  obtain ⟨z, hz, rfl⟩ := nums_at hu
  exact ⟨b, off, rfl, by rw [hc]; simp [List.getD, hz]⟩
set_option maxHeartbeats 400000 in
theorem length_bad (A : Option Addr) (n c : Nat) (zs : List Int) (w : World) (hr : Reads w w.heap.size 1 A n (nums .u8 zs)) (hn : n ≤ 9223372036854775807) (h0 : n ≠ 0) (h1 : zs.getD 0 0 ≠ 181) :
    Calls Tryd.prog 41 #[.slice A n c] w fun e w' => e = .returned (.tuple #[.int .i64 0, .bool false]) ∧ w = w' := by
  obtain ⟨b, off, rfl, hc⟩ := getD_cell (cap := c) hr (k := 0) (by omega)
  have ht : (zs.getD 0 0 != 181) = true := by rw [bne_iff_ne]; exact h1
  have h0' : 0 < n := by omega
  generalize zs.getD 0 0 = z at hc ht
  rw [Nat.add_zero] at hc
  clear h1 hr h0
  go_enter Tryd.func41, Tryd.ntmps41
  go_wp2_with fail
  go_ret2
  exact ⟨rfl, rfl⟩
set_option maxHeartbeats 400000 in
theorem length_good (A : Option Addr) (n c : Nat) (zs : List Int) (w : World) (hr : Reads w w.heap.size 1 A n (nums .u8 zs)) (hz : ∀ z ∈ zs, 0 ≤ z ∧ z < 256) (hn : n ≤ 9223372036854775807) (h1 : n = 0 ∨ zs.getD 0 0 = 181) :
    Calls Tryd.prog 41 #[.slice A n c] w fun e w' => e = .returned (.tuple #[.int .i64 (nZ zs), .bool (decide (nZ zs ≤ 60000))]) ∧ w = w' := by
  have hl : zs.length = n := by have := hr.1; simpa [nums] using this
  have HR := Lib.hid hr
  have HZ := Lib.hid hz
  have HL := Lib.hid hl
  clear hr hz hl
  have key : ∀ (pre : Hid True), Calls Tryd.prog 41 #[.slice A n c] w fun e w' => e = .returned (.tuple #[.int .i64 (pz zs 4), .bool (decide (pz zs 4 ≤ 60000))]) ∧ w = w' := by
    intro _
    go_enter Tryd.func41, Tryd.ntmps41
    go_upto_region 1 with fail
    go_cut [14] (fun v wx => v = .bool false ∧ w = wx)
    case first =>
      rcases Nat.eq_zero_or_pos n with h0 | h0
      · subst h0
        go_wp2_with fail
        go_meet
        exact ⟨rfl, rfl⟩
      · have h2 := h1.resolve_left (by omega)
        obtain ⟨b, off, rfl, hc⟩ := getD_cell (cap := c) HR.out (k := 0) h0
        rw [h2, Nat.add_zero] at hc
        clear h1 h2
        go_wp2_with fail
        go_meet
        exact ⟨rfl, rfl⟩
    case rest =>
      obtain ⟨rfl, rfl⟩ := hcut
      go_wp2_with fail
      go_loop [4, 5] (fun v i => ∃ k : Nat, 1 ≤ k ∧ k ≤ 4 ∧ i = .int .i64 k ∧ v = .int .i64 (pz zs k)) (fun _ i => 4 - (intOf i).toNat)
      case atStart => exact ⟨1, by omega, by omega, rfl, rfl⟩
      case round =>
        obtain ⟨k, hk1, hk, rfl, rfl⟩ := hrel
        by_cases hlt : k < 4
        · obtain ⟨b0, b1⟩ := pz_bd zs HZ.out k hlt
          have hs := Lib.hid (pz_succ zs k hk1 hlt)
          generalize pz zs k = x at b0 b1 hs
          by_cases hkn : k < n
          · obtain ⟨b, off, rfl, hc⟩ := getD_cell (cap := c) HR.out hkn
            have hzb := getD_nn HZ.out k
            generalize zs.getD k 0 = z at hc hzb hs
            have ho := Lib.hid (or64_low x z b0 b1 hzb)
            obtain ⟨z0, z1⟩ := hzb
            go_wp2_with fail
            go_round
            case rel => exact ⟨k + 1, by omega, by omega, by go_num, by rw [hs.out, ho.out]⟩
            case measure => simp [intOf]; omega
          · have hz0 : zs.getD k 0 = 0 := by simp [List.getD, List.getElem?_eq_none (show zs.length ≤ k by rw [HL.out]; omega)]
            have hs2 := Lib.hid (show pz zs (k + 1) = x * 256 by rw [hs.out, hz0]; omega)
            clear hz0
            go_wp2_with fail
            go_round
            case rel => exact ⟨k + 1, by omega, by omega, by go_num, by rw [hs2.out]⟩
            case measure => simp [intOf]; omega
        · obtain rfl : k = 4 := by omega
          obtain ⟨x, hx⟩ : ∃ x, pz zs 4 = x := ⟨_, rfl⟩
          rw [hx]
          have HX := Lib.hid hx
          clear hx
          go_wp2_with fail
          go_ret2
          exact ⟨by rw [HX.out]; rfl, rfl⟩
  exact key (Lib.hid trivial)
/-- what Get leaves -/
def FGet (zs : List Int) (w : World) (e : Ending) (w' : World) : Prop :=
  ∃ A c, e = .returned (.tuple #[.slice A (gB smZ zs).length c, .int .i64 (gN smZ zs), .int .i64 (gE smZ zs)]) ∧ Reads w' w'.heap.size 1 A (gB smZ zs).length (nums .u8 (gB smZ zs)) ∧ Below w.heap.size w w'
theorem FGet_bad {zs : List Int} {w w' : World} {c : Int} (hc : c ≠ 0) (he : gE smZ zs = c) (hb : Below w.heap.size w w') : FGet zs w (.returned (.tuple #[.slice none 0 0, .int .i64 0, .int .i64 c])) w' := by
  have e1 : gB smZ zs = [] := by unfold gB; rw [if_neg (by rw [he]; exact hc)]
  have e2 : gN smZ zs = 0 := by unfold gN; rw [if_neg (by rw [he]; exact hc)]
  refine ⟨none, 0, ?_, ?_, hb⟩
  · rw [e1, e2, he]; rfl
  · rw [e1]; exact Reads.none_
set_option maxHeartbeats 400000 in
theorem fget_form (A : Option Addr) (n c : Nat) (zs : List Int) (w : World) (hr : Reads w w.heap.size 1 A n (nums .u8 zs)) (hz : ∀ z ∈ zs, 0 ≤ z ∧ z < 256) (hn : n ≤ 9223372036854775807) (h : (n ≠ 0 ∧ zs.getD 0 0 ≠ 181) ∨ ((n = 0 ∨ zs.getD 0 0 = 181) ∧ 60000 < nZ zs)) :
    Calls Tryd.prog 28 #[.slice A n c] w (FGet zs w) := by
  have hl : zs.length = n := by have := hr.1; simpa [nums] using this
  have he : gE smZ zs = 6 := by
    unfold gE
    rcases h with h | h
    · rw [if_pos (by rw [hl]; exact h)]
    · rw [if_neg (by rw [hl]; intro h'; rcases h.1 with h1 | h1; exact h'.1 h1; exact h'.2 h1), if_pos h.2]
  have HE := Lib.hid he
  rcases h with h | h
  · have hc := length_bad A n c zs w hr hn h.1 h.2
    clear hr hz h he hl
    go_enter Tryd.func28, Tryd.ntmps28
    go_wp2_with fail
    refine hc.mono ?_
    rintro e w' ⟨rfl, rfl⟩
    go_wp2_with fail
    go_ret3
    exact FGet_bad (by decide) HE.out (Below.refl _ _)
  · have hc := length_good A n c zs w hr hz hn h.1
    have hd : decide (nZ zs ≤ 60000) = false := by simp; exact h.2
    rw [hd] at hc
    generalize nZ zs = x at hc
    clear hr hz h he hl hd
    go_enter Tryd.func28, Tryd.ntmps28
    go_wp2_with fail
    refine hc.mono ?_
    rintro e w' ⟨rfl, rfl⟩
    go_wp2_with fail
    go_ret3
    exact FGet_bad (by decide) HE.out (Below.refl _ _)
set_option maxHeartbeats 400000 in
theorem fget_short (A : Option Addr) (n c : Nat) (zs : List Int) (w : World) (hr : Reads w w.heap.size 1 A n (nums .u8 zs)) (hz : ∀ z ∈ zs, 0 ≤ z ∧ z < 256) (hn : n ≤ 9223372036854775807) (h1 : n = 0 ∨ zs.getD 0 0 = 181) (h2 : nZ zs ≤ 60000) (h3 : (n : Int) < 8 + nZ zs) :
    Calls Tryd.prog 28 #[.slice A n c] w (FGet zs w) := by
  have hl : zs.length = n := by have := hr.1; simpa [nums] using this
  have he : gE smZ zs = 5 := by
    unfold gE
    rw [if_neg (by rw [hl]; intro h'; rcases h1 with h1 | h1; exact h'.1 h1; exact h'.2 h1), if_neg (by omega), if_pos (by rw [hl]; exact h3)]
  have HE := Lib.hid he
  have hc := length_good A n c zs w hr hz hn h1
  have hd : decide (nZ zs ≤ 60000) = true := by simp; exact h2
  rw [hd] at hc
  obtain ⟨x0, x1⟩ := nZ_nn hz
  generalize nZ zs = x at hc h2 h3 x0 x1
  have hs := size_in x w x0 h2
  clear hr hz h1 he hl hd
  by_cases h4 : n < 4
  · go_enter Tryd.func28, Tryd.ntmps28
    go_wp2_with fail
    refine hc.mono ?_
    rintro e w' ⟨rfl, rfl⟩
    go_wp2_with fail
    go_ret3
    exact FGet_bad (by decide) HE.out (Below.refl _ _)
  · go_enter Tryd.func28, Tryd.ntmps28
    go_wp2_with fail
    refine hc.mono ?_
    rintro e w' ⟨rfl, rfl⟩
    go_wp2_with fail
    refine hs.mono ?_
    rintro e w' ⟨rfl, rfl⟩
    go_wp2_with fail
    go_ret3
    exact FGet_bad (by decide) HE.out (Below.refl _ _)
end Go.Proofs.YtfgkbghagklacaaDoor
