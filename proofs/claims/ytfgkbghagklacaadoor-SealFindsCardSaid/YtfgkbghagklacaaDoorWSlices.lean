/-
  Go's slices.Equal and slices.Clone at bytes, walked.
-/
import Derived.Test.YtfgkbghagklacaaDoorLat
namespace Go.Proofs.YtfgkbghagklacaaDoor
open Go.RowKit
set_option linter.unusedVariables false
/-- slices.Equal at bytes -/
theorem equal_any (A1 A2 : Option Addr) (n1 c1 n2 c2 : Nat) (xs ys : List Int) (w : World) (h1 : Reads w w.heap.size 1 A1 n1 (nums .u8 xs)) (h2 : Reads w w.heap.size 1 A2 n2 (nums .u8 ys)) (hn1 : n1 ≤ 9223372036854775807) (hn2 : n2 ≤ 9223372036854775807) :
    Calls Tryd.prog 39 #[.slice A1 n1 c1, .slice A2 n2 c2] w fun e w' => e = .returned (.bool (xs == ys)) ∧ Below w.heap.size w w' := by
  have l1 : xs.length = n1 := by have := h1.1; simpa [nums] using this
  have l2 : ys.length = n2 := by have := h2.1; simpa [nums] using this
  have H1 := Lib.hid h1
  have H2 := Lib.hid h2
  clear h1 h2
  by_cases hne : n1 = n2
  · subst hne
    have L1 := Lib.hid l1
    have L2 := Lib.hid l2
    clear l1 l2
    go_enter Tryd.func39, Tryd.ntmps39
    go_wp2_with fail
    go_loopw [5, 13] (fun _ i wr => ∃ k : Nat, k ≤ n1 ∧ i = .int .i64 k ∧ xs.take k = ys.take k ∧ Below w.heap.size w wr) (fun _ i _ => n1 - (intOf i).toNat)
    case atStart => exact ⟨0, Nat.zero_le _, rfl, by simp, Below.refl _ _⟩
    case round =>
      obtain ⟨k, hk, rfl, hpre, hbel⟩ := hrel
      have HP := Lib.hid hpre
      have HB := Lib.hid hbel
      clear hpre hbel
      by_cases hlt : k < n1
      · obtain ⟨b1, o1, u1, rfl, hb1, hu1, hc1⟩ := (H1.out.below HB.out).at_ hlt
        obtain ⟨b2, o2, u2, rfl, hb2, hu2, hc2⟩ := (H2.out.below HB.out).at_ hlt
        obtain ⟨x, hx, rfl⟩ := nums_at hu1
        obtain ⟨y, hy, rfl⟩ := nums_at hu2
        have HX := Lib.hid hx
        have HY := Lib.hid hy
        clear hu1 hu2 hx hy
        have k0 : (0 : Int) ≤ (k : Int) := by omega
        have k1 : (k : Int) < (n1 : Int) := by omega
        by_cases he : x = y
        · subst he
          have htest : ((x : Int) != x) = false := by simp
          go_wp2_with fail
          go_quiet (fail)
          go_wp2_with fail
          go_roundw
          case rel =>
            refine ⟨k + 1, by omega, by go_num, ?_, below_drewN HB.out _⟩
            rw [List.take_add_one, List.take_add_one, HP.out, HX.out, HY.out]
          case measure => simp [intOf]; omega
        · have htest : ((x : Int) != y) = true := by simpa using he
          go_wp2_with fail
          go_quiet (fail)
          go_wp2_with fail
          go_ret
          have hf : (xs == ys) = false := by
            rw [beq_eq_false_iff_ne]
            intro h
            have := HX.out
            rw [h, HY.out] at this
            injection this with this
            exact he this.symm
          exact ⟨by rw [hf]; rfl, below_drewN HB.out _⟩
      · go_wp2_with fail
        go_ret
        have hf : (xs == ys) = true := by
          rw [beq_iff_eq]
          have := HP.out
          rwa [List.take_of_length_le (by have := L1.out; omega), List.take_of_length_le (by have := L2.out; omega)] at this
        exact ⟨by rw [hf]; rfl, HB.out⟩
  · have hf : (xs == ys) = false := by
      rw [beq_eq_false_iff_ne]
      intro h
      apply hne
      rw [← l1, ← l2, h]
    have htest : ((n1 : Int) != (n2 : Int)) = true := by rw [bne_iff_ne]; omega
    have HF := Lib.hid hf
    clear hf hne l1 l2
    go_enter Tryd.func39, Tryd.ntmps39
    go_wp2_with fail
    go_ret
    exact ⟨by rw [HF.out]; rfl, Below.refl _ _⟩
end Go.Proofs.YtfgkbghagklacaaDoor
