/-
  Package frame: Size, Put and length, walked; its reference's Put.
-/
import Derived.Test.YtfgkbghagklacaaDoorWHigh
import Derived.Test.YtfgkbghagklacaaDoorWCrcC
import Derived.Test.YtfgkbghagklacaaDoorFramePlain
import Derived.Deep.DeepCutAuto
import Derived.Deep.RegionHeld3
import Derived.Outline
namespace Go.Proofs.YtfgkbghagklacaaDoor
open Go.RowKit
open Byts Fram
set_option linter.unusedVariables false
/-- a sum's four bytes -/
def smZ (l : List Int) : List Int := bytesZ (Crc.more 0#32 l)
theorem smZ_length (l : List Int) : (smZ l).length = 4 := rfl
theorem smZ_bytes (l : List Int) : ∀ z ∈ smZ l, 0 ≤ z ∧ z < 256 := bytesZ_lt _
theorem frm_bytes (zs : List Int) (hz : ∀ z ∈ zs, 0 ≤ z ∧ z < 256) : ∀ z ∈ frm smZ zs, 0 ≤ z ∧ z < 256 := by
  intro z h
  unfold frm at h
  rw [List.mem_append] at h
  rcases h with h | h
  · exact fhd_bytes zs hz z h
  · exact smZ_bytes _ z h
theorem size_in (n : Int) (w : World) (h0 : 0 ≤ n) (h1 : n ≤ 60000) :
    Calls Tryd.prog 25 #[.int .i64 n] w fun e w' => e = .returned (.int .i64 (4 + n + 4)) ∧ w = w' := by
  go_enter Tryd.func25, Tryd.ntmps25
  go_wp2_with fail
  go_ret
  exact ⟨rfl, rfl⟩
theorem size_out (n : Int) (w : World) (h : n < 0 ∨ 60000 < n) :
    Calls Tryd.prog 25 #[.int .i64 n] w fun e w' => e = .returned (.int .i64 0) ∧ w = w' := by
  rcases h with h | h
  · go_enter Tryd.func25, Tryd.ntmps25
    go_wp2_with fail
    go_ret
    exact ⟨rfl, rfl⟩
  · have h' : ¬ n < 0 := by omega
    go_enter Tryd.func25, Tryd.ntmps25
    go_wp2_with fail
    go_ret
    exact ⟨rfl, rfl⟩
theorem fput_long (A : Option Addr) (n c : Nat) (w : World) (hn : 60000 < n) (hn1 : n ≤ 9223372036854775807) :
    Calls Tryd.prog 26 #[.slice A n c] w fun e w' => e = .returned (.tuple #[.slice none 0 0, .int .i64 4]) ∧ w = w' := by
  go_enter Tryd.func26, Tryd.ntmps26
  go_wp2_with fail
  go_ret2
  exact ⟨rfl, rfl⟩
theorem be3_head (n : Nat) (h : n ≤ 60000) : [(181 : Int), (n : Int) / 65536, (n : Int) / 256, (n : Int) % 256] = 181 :: be 3 (n : Int) := by
  have e : be 3 (n : Int) = [(n : Int) / 65536 % 256, (n : Int) / 256 % 256, (n : Int) / 1 % 256] := rfl
  rw [e, Int.ediv_one, show (n : Int) / 65536 % 256 = (n : Int) / 65536 by omega, show (n : Int) / 256 % 256 = (n : Int) / 256 by omega]
/-- what Put leaves -/
def FPut (zs : List Int) (w : World) (e : Ending) (w' : World) : Prop :=
  ∃ A c, e = .returned (.tuple #[.slice A (8 + zs.length) c, .int .i64 0]) ∧ Reads w' w'.heap.size 1 A (8 + zs.length) (nums .u8 (frm smZ zs)) ∧ Below w.heap.size w w' ∧ 8 + zs.length ≤ c ∧ c ≤ maxLen
set_option maxHeartbeats 400000 in
theorem fput_ok (A : Option Addr) (n c : Nat) (zs : List Int) (w : World) (ht : Tab w) (hn : n ≤ 60000) (hr : Reads w w.heap.size 1 A n (nums .u8 zs)) (hz : ∀ z ∈ zs, 0 ≤ z ∧ z < 256) :
    Calls Tryd.prog 26 #[.slice A n c] w (FPut zs w) := by
  have hl : zs.length = n := by have := hr.1; simpa [nums] using this
  have HR := Lib.hid hr
  have HZ := Lib.hid hz
  have HL := Lib.hid hl
  have HT := Lib.hid ht
  clear hr hz hl ht
  have hsz := size_in (n : Int) w (by omega) (by omega)
  have hmk : ∀ w, (Instr.makeSlice 22 (.int .i64 0) (.int .i64 (4 + (n : Int) + 4))).run Tryd.prog w = .ok (.slice (some ⟨w.heap.size, 0, none⟩) 0 (n + 8)) (w.alloc (.cells (nums .u8 (List.replicate (n + 8) 0)).toArray 5)) := by
    intro w
    have := make_cap (n + 8) (by omega) w
    rw [show (4 + (n : Int) + 4) = ((n + 8 : Nat) : Int) by omega]
    exact this
  go_enter Tryd.func26, Tryd.ntmps26
  go_wp2_with fail
  refine hsz.mono ?_
  rintro e w' ⟨rfl, rfl⟩
  go_wp2_with (at_builtin; refine wpl_bytes rfl (.tmp 14) (.tmp 23) rfl w.heap.size _ 0 [] rfl ?o1 (w.heap.size + 2) _ 4 4 (181 :: be 3 (n : Int)) rfl ?r1 ?c1 ?c2 ?_)
  case o1 => exact (own_cap w w.heap.size 5 .u8 (List.replicate (n + 8) 0) (n + 8) _ rfl (Nat.le_refl _) (by simp) (by unfold maxLen; omega)).alloc _
  case r1 =>
    have := reads_new (w.alloc (.cells (nums .u8 (List.replicate (n + 8) 0)).toArray 5)) (nums .u8 [181, (n : Int) / 65536, (n : Int) / 256, (n : Int) % 256]) 5 (0, 0) 4 (w.heap.size + 1) (w.heap.size + 2) (by simp) rfl (by omega)
    rw [← be3_head n hn]
    exact this
  case c1 => omega
  case c2 => simp; omega
  intro A1 c1 w1 hown1 hgr1 hb1 hor1
  try simp only [Nat.zero_add, List.nil_append] at hown1
  have hbA : Below w.heap.size w w1 := (((Below.refl _ _).alloc (Nat.le_refl _) _).alloc (by simp) _).trans hb1
  have hr1 := HR.out.below hbA
  have hs1 := hbA.size
  clear hgr1 hor1 hmk hb1
  have HBA := Lib.hid hbA
  clear hbA
  go_wp2_with (at_builtin; refine wpl_bytes rfl (.tmp 25) (.tmp 26) rfl w.heap.size _ 4 (181 :: be 3 (n : Int)) rfl hown1 w.heap.size A n c zs rfl hr1 ?c3 ?c4 ?_)
  case c3 => omega
  case c4 => exact hs1
  intro A2 c2 w2 hown2 hgr2 hb2 hor2
  have hbB := HBA.out.trans hb2
  have e2 : 181 :: (be 3 (n : Int) ++ zs) = fhd zs := by rw [← HL.out]; rfl
  rw [e2] at hown2
  have cs := sum_any A2 (4 + n) c2 (fhd zs) w2 (HT.out.below hbB (Nat.le_refl _)) (own_reads hown2) (fhd_bytes zs HZ.out) (by omega)
  have hs2 := hbB.size
  obtain ⟨r, hr⟩ : ∃ r, Crc.more 0#32 (fhd zs) = r := ⟨_, rfl⟩
  rw [hr] at cs
  have HRR := Lib.hid hr
  have HBB := Lib.hid hbB
  have HO2 := Lib.hid hown2
  have hrl := r.isLt
  clear hgr2 hor2 hb2 hbB e2 hown1 hown2 hr1 hr
  go_wp2_with fail
  refine cs.mono ?_
  rintro e w' ⟨rfl, rfl⟩
  go_wp2_with (at_builtin; refine wpl_bytes rfl (.tmp 30) (.tmp 42) rfl w.heap.size _ (4 + n) (fhd zs) rfl ?o3 (w2.heap.size + 1) _ 4 4 (bytesZ r) rfl ?r3 ?c5 ?c6 ?_)
  case o3 => exact HO2.out.alloc _
  case r3 => exact reads_new w2 (nums .u8 (bytesZ r)) 5 (0, 0) 4 _ _ rfl rfl (by omega)
  case c5 => omega
  case c6 => simp; omega
  intro A3 c3 w3 hown3 hgr3 hb3 hor3
  have hbC := HBB.out.trans (((Below.refl _ _).alloc hs2 _).trans hb3)
  have e3 : fhd zs ++ bytesZ r = frm smZ zs := by rw [← HRR.out]; rfl
  rw [e3] at hown3
  have e4 : 4 + n + 4 = 8 + zs.length := by rw [HL.out]; omega
  rw [e4] at hown3
  have HC := Lib.hid hbC
  have HO3 := Lib.hid hown3
  have E4 := Lib.hid e4
  clear hgr3 hor3 hb3 hbC e3 e4 hown3
  go_wp2
  rw [E4.out]
  go_ret2
  exact ⟨A3, c3, rfl, own_reads HO3.out, HC.out, own_bd HO3.out⟩
end Go.Proofs.YtfgkbghagklacaaDoor
