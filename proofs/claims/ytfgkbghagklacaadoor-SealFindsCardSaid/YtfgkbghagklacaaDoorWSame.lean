/-
  Whether two sheets are the same: package seal's and its reference's, walked.
-/
import Derived.Test.YtfgkbghagklacaaDoorWSlices
namespace Go.Proofs.YtfgkbghagklacaaDoor
open Go.RowKit
set_option linter.unusedVariables false
theorem same_any (k1 a1 b1 k2 a2 b2 : Int) (A1 A2 : Option Addr) (n1 c1 n2 c2 : Nat) (xs ys : List Int) (w : World) (h1 : Reads w w.heap.size 1 A1 n1 (nums .u8 xs)) (h2 : Reads w w.heap.size 1 A2 n2 (nums .u8 ys)) (hz1 : ∀ z ∈ xs, 0 ≤ z ∧ z < 256) (hz2 : ∀ z ∈ ys, 0 ≤ z ∧ z < 256) (hn1 : n1 ≤ 9223372036854775807) (hn2 : n2 ≤ 9223372036854775807) :
    Calls Tryd.prog 22 #[.agg #[.int .i64 k1, .int .u64 a1, .int .u64 b1, .slice A1 n1 c1], .agg #[.int .i64 k2, .int .u64 a2, .int .u64 b2, .slice A2 n2 c2]] w fun e w' => e = .returned (.bool (k1 == k2 && (a1 == a2 && (b1 == b2 && xs == ys)))) ∧ Below w.heap.size w w' := by
  have bx : Below w.heap.size w ((w.alloc (.cells #[.int .i64 k1, .int .u64 a1, .int .u64 b1, .slice A1 n1 c1] 35)).alloc (.cells #[.int .i64 k2, .int .u64 a2, .int .u64 b2, .slice A2 n2 c2] 35)) := ((Below.refl _ _).alloc (Nat.le_refl _) _).alloc (by simp) _
  have r1 := (h1.below bx).more bx.size
  have r2 := (h2.below bx).more bx.size
  have cq := equal_any A1 A2 n1 c1 n2 c2 xs ys _ r1 r2 hn1 hn2
  have BX := Lib.hid bx
  clear h1 h2 bx r1 r2 hz1 hz2
  by_cases t0 : k1 = k2
  case neg =>
    have t0' : (k1 == k2) = false := by rw [beq_eq_false_iff_ne]; exact t0
    clear t0
    go_enter Tryd.func22, Tryd.ntmps22
    go_wp2_with fail
    go_ret
    exact ⟨by simp [t0'], BX.out⟩
  have t0' : (k1 == k2) = true := by rw [beq_iff_eq]; exact t0
  clear t0
  by_cases t1 : a1 = a2
  case neg =>
    have t1' : (a1 == a2) = false := by rw [beq_eq_false_iff_ne]; exact t1
    clear t1
    go_enter Tryd.func22, Tryd.ntmps22
    go_wp2_with fail
    go_ret
    exact ⟨by simp [t0', t1'], BX.out⟩
  have t1' : (a1 == a2) = true := by rw [beq_iff_eq]; exact t1
  clear t1
  by_cases t2 : b1 = b2
  case neg =>
    have t2' : (b1 == b2) = false := by rw [beq_eq_false_iff_ne]; exact t2
    clear t2
    go_enter Tryd.func22, Tryd.ntmps22
    go_wp2_with fail
    go_ret
    exact ⟨by simp [t0', t1', t2'], BX.out⟩
  have t2' : (b1 == b2) = true := by rw [beq_iff_eq]; exact t2
  clear t2
  go_enter Tryd.func22, Tryd.ntmps22
  go_wp2_with fail
  refine cq.mono ?_
  rintro e w' ⟨rfl, hb⟩
  go_wp2_with fail
  go_ret
  exact ⟨by simp [t0', t1', t2'], BX.out.trans (hb.mono BX.out.size)⟩
theorem refsame_any (k1 a1 b1 k2 a2 b2 : Int) (A1 A2 : Option Addr) (n1 c1 n2 c2 : Nat) (xs ys : List Int) (w : World) (h1 : Reads w w.heap.size 1 A1 n1 (nums .u8 xs)) (h2 : Reads w w.heap.size 1 A2 n2 (nums .u8 ys)) (hz1 : ∀ z ∈ xs, 0 ≤ z ∧ z < 256) (hz2 : ∀ z ∈ ys, 0 ≤ z ∧ z < 256) (hn1 : n1 ≤ 9223372036854775807) (hn2 : n2 ≤ 9223372036854775807) :
    Calls Tryd.prog 23 #[.agg #[.int .i64 k1, .int .u64 a1, .int .u64 b1, .slice A1 n1 c1], .agg #[.int .i64 k2, .int .u64 a2, .int .u64 b2, .slice A2 n2 c2]] w fun e w' => e = .returned (.bool (k1 == k2 && (a1 == a2 && (b1 == b2 && xs == ys)))) ∧ Below w.heap.size w w' := by
  have bx : Below w.heap.size w ((w.alloc (.cells #[.int .i64 k1, .int .u64 a1, .int .u64 b1, .slice A1 n1 c1] 35)).alloc (.cells #[.int .i64 k2, .int .u64 a2, .int .u64 b2, .slice A2 n2 c2] 35)) := ((Below.refl _ _).alloc (Nat.le_refl _) _).alloc (by simp) _
  have r1 := (h1.below bx).more bx.size
  have r2 := (h2.below bx).more bx.size
  have k1' := r1.conv (P := Tryd.prog) (c := c1) (src := 22) (dst := 9) Tryd.underlying22 Tryd.underlying5 Tryd.underlying9
  have k2' := r2.conv (P := Tryd.prog) (c := c2) (src := 22) (dst := 9) Tryd.underlying22 Tryd.underlying5 Tryd.underlying9
  have hs := Lib.hid (str_eq hz1 hz2)
  have BX := Lib.hid bx
  clear h1 h2 bx r1 r2 hz1 hz2
  by_cases t0 : k1 = k2
  case neg =>
    have t0' : (k1 == k2) = false := by rw [beq_eq_false_iff_ne]; exact t0
    clear t0
    go_enter Tryd.func23, Tryd.ntmps23
    go_wp2_with fail
    go_ret
    exact ⟨by simp [t0'], BX.out⟩
  have t0' : (k1 == k2) = true := by rw [beq_iff_eq]; exact t0
  clear t0
  by_cases t1 : a1 = a2
  case neg =>
    have t1' : (a1 == a2) = false := by rw [beq_eq_false_iff_ne]; exact t1
    clear t1
    go_enter Tryd.func23, Tryd.ntmps23
    go_wp2_with fail
    go_ret
    exact ⟨by simp [t0', t1'], BX.out⟩
  have t1' : (a1 == a2) = true := by rw [beq_iff_eq]; exact t1
  clear t1
  by_cases t2 : b1 = b2
  case neg =>
    have t2' : (b1 == b2) = false := by rw [beq_eq_false_iff_ne]; exact t2
    clear t2
    go_enter Tryd.func23, Tryd.ntmps23
    go_wp2_with fail
    go_ret
    exact ⟨by simp [t0', t1', t2'], BX.out⟩
  have t2' : (b1 == b2) = true := by rw [beq_iff_eq]; exact t2
  clear t2
  go_enter Tryd.func23, Tryd.ntmps23
  go_wp2_with fail
  go_ret
  exact ⟨by simp [t0', t1', t2', hs.out], BX.out⟩
end Go.Proofs.YtfgkbghagklacaaDoor
