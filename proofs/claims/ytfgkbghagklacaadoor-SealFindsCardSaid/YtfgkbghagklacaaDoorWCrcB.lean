/-
  Sum, its reference, Patch, and the chapter's example.
-/
import Derived.Test.YtfgkbghagklacaaDoorWCrc
import Derived.Lib.SlBytesConst
namespace Go.Proofs.YtfgkbghagklacaaDoor
open Go.RowKit
open Crc (wd)

theorem sum_any (A : Option Addr) (n cap : Nat) (zs : List Int) (w : World) (ht : Tab w) (hr : Reads w w.heap.size 1 A n (nums .u8 zs)) (hz : ∀ z ∈ zs, 0 ≤ z ∧ z < 256) (hn : n ≤ 9223372036854775807) :
    Calls Tryd.prog 15 #[.slice A n cap] w fun e w' => e = .returned (.int .u32 (Crc.more 0#32 zs).toNat) ∧ w = w' := by
  have c : Calls Tryd.prog 17 #[.int .u32 0, .slice A n cap] w fun e w' => e = .returned (.int .u32 (Crc.more 0#32 zs).toNat) ∧ w = w' := more_any 0#32 A n cap zs w ht hr hz hn
  clear ht hr hz
  go_enter Tryd.func15, Tryd.ntmps15
  go_wp2_with fail
  refine c.mono ?_
  rintro e w' ⟨rfl, rfl⟩
  go_wp2
  go_ret
  exact ⟨rfl, rfl⟩

theorem refsum_any (A : Option Addr) (n cap : Nat) (zs : List Int) (w : World) (hr : Reads w w.heap.size 1 A n (nums .u8 zs)) (hz : ∀ z ∈ zs, 0 ≤ z ∧ z < 256) (hn : n ≤ 9223372036854775807) :
    Calls Tryd.prog 16 #[.slice A n cap] w fun e w' => e = .returned (.int .u32 (Crc.more 0#32 zs).toNat) ∧ w = w' := by
  have c : Calls Tryd.prog 18 #[.int .u32 0, .slice A n cap] w fun e w' => e = .returned (.int .u32 (Crc.more 0#32 zs).toNat) ∧ w = w' := refmore_any 0#32 A n cap zs w hr hz hn
  clear hr hz
  go_enter Tryd.func16, Tryd.ntmps16
  go_wp2_with fail
  refine c.mono ?_
  rintro e w' ⟨rfl, rfl⟩
  go_wp2
  go_ret
  exact ⟨rfl, rfl⟩

theorem more_check : (Crc.more 0#32 [49, 50, 51, 52, 53, 54, 55, 56, 57]).toNat = 3808858755 := by decide +kernel
theorem more_none : (Crc.more 0#32 []).toNat = 0 := by decide +kernel

theorem awake06 (w : World) (ht : Tab w) : Calls Tryd.prog 14 #[] w fun e w' => e = .returned (.bool true) ∧ Below w.heap.size w w' := by
  have kc := fun (w : World) (C : Array Value) (n c : Nat) => Lib.run_convert_bytes_const (P := Tryd.prog) w 22 5 C n c Tryd.underlying22 Tryd.underlying5
  go_enter Tryd.func14, Tryd.ntmps14
  go_wp2_with fail
  refine (sum_any _ _ _ [49, 50, 51, 52, 53, 54, 55, 56, 57] _ (ht.alloc _) (Reads.new w (nums .u8 [49, 50, 51, 52, 53, 54, 55, 56, 57]) _ _ 9 rfl |>.more (by simp)) (by decide) (by decide)).mono ?_
  rintro e w' ⟨rfl, rfl⟩
  rw [more_check]
  go_wp2_with fail
  refine (sum_any _ _ _ [] _ (ht.alloc _) Reads.none_ (by decide) (by decide)).mono ?_
  rintro e w' ⟨rfl, rfl⟩
  rw [more_none]
  go_wp2_with fail
  go_ret
  exact ⟨rfl, (Below.refl _ _).alloc (Nat.le_refl _) _⟩
end Go.Proofs.YtfgkbghagklacaaDoor
