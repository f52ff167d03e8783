/-
  The law CrcSums, walked.
-/
import Derived.Test.YtfgkbghagklacaaDoorWCrcB
import Derived.Test.YtfgkbghagklacaaDoorOpen
namespace Go.Proofs.YtfgkbghagklacaaDoor
open Go.RowKit
set_option linter.unusedVariables false
theorem nm_wd (x : Nm .u32) : ∃ c : Crc.W32, x.z = (c.toNat : Int) := by
  have := x.u32
  refine ⟨BitVec.ofNat 32 x.z.toNat, ?_⟩
  rw [BitVec.toNat_ofNat]; omega
theorem law_CrcSums (w : World) (ht : Tab w) (A0 : Option Addr) (n0 c0 : Nat) (xs0 : List (Nm .u8)) (hn0 : n0 ≤ c0) (hc0 : c0 ≤ maxLen) (_hA0 : A0 = none → c0 = 0) (hl0 : LiesSlice w w.heap.size A0 n0 xs0) (x1 : Nm .u32) :
    Calls Tryd.prog 3 #[.slice A0 n0 c0, .int .u32 x1.z] w fun e w' => e = .returned (.bool true) ∧ Below w.heap.size w w' := by
  obtain ⟨c, hc⟩ := nm_wd x1
  rw [hc]
  unfold maxLen at hc0
  have hn : n0 ≤ 9223372036854775807 := by omega
  have hr := hl0.reads
  have hz := zsOf_u8 xs0
  generalize zsOf xs0 = zs at hr hz
  have c1 := sum_any A0 n0 c0 zs w ht hr hz hn
  have c2 := refsum_any A0 n0 c0 zs w hr hz hn
  have c3 := more_any c A0 n0 c0 zs w ht hr hz hn
  have c4 := refmore_any c A0 n0 c0 zs w hr hz hn
  have c5 := awake06 w ht
  clear hr hz hl0 hc _hA0 ht
  by_cases hlt : 5000 < n0
  · go_enter Tryd.func3, Tryd.ntmps3
    go_wp2_with fail
    refine c5.mono ?_
    rintro e w' ⟨rfl, hb⟩
    go_wp2
    go_ret
    exact ⟨rfl, hb⟩
  · go_enter Tryd.func3, Tryd.ntmps3
    go_wp2_with fail
    refine c1.mono ?_
    rintro e w' ⟨rfl, rfl⟩
    go_wp2_with fail
    refine c2.mono ?_
    rintro e w' ⟨rfl, rfl⟩
    go_wp2_with fail
    refine c3.mono ?_
    rintro e w' ⟨rfl, rfl⟩
    go_wp2_with fail
    refine c4.mono ?_
    rintro e w' ⟨rfl, rfl⟩
    go_wp2_with fail
    refine c5.mono ?_
    rintro e w' ⟨rfl, hb⟩
    go_wp2
    go_ret
    exact ⟨rfl, hb⟩
end Go.Proofs.YtfgkbghagklacaaDoor
