/-
  The reference's Put of package frame, walked.
-/
import Derived.Test.YtfgkbghagklacaaDoorWFrame
namespace Go.Proofs.YtfgkbghagklacaaDoor
open Go.RowKit
open Byts Fram
set_option linter.unusedVariables false
theorem div256 (r : Crc.W32) (j : Nat) : (r.toNat : Int) / 256 ^ j / 256 = (r.toNat : Int) / 256 ^ (j + 1) := by
  rw [Int.ediv_ediv_of_nonneg (Int.pow_nonneg (by decide)), Int.pow_succ]
theorem bytesZ_shr' (r : Crc.W32) (k : Nat) (h : k < 4) : (bytesZ r).getD k 0 = (r.toNat : Int) / 256 ^ k % 256 := by
  have hr := r.isLt
  have hk : k = 0 ∨ k = 1 ∨ k = 2 ∨ k = 3 := by omega
  rcases hk with rfl | rfl | rfl | rfl
  · simp [bytesZ]
  · simp [bytesZ]
  · simp [bytesZ]
  · simp [bytesZ]; omega
theorem bytesZ_succ (r : Crc.W32) (j : Nat) (h : j < 4) : (bytesZ r).take (j + 1) = (bytesZ r).take j ++ [(r.toNat : Int) / 256 ^ j % 256] := by
  have e := bytesZ_shr' r j h
  have hl : j < (bytesZ r).length := h
  rw [List.take_add_one, List.getElem?_eq_getElem hl]
  have : (bytesZ r)[j] = (bytesZ r).getD j 0 := by simp [List.getD, hl]
  rw [this, e]
  rfl
/-- what the reference's Put leaves: a row of its own -/
def FRef (zs : List Int) (w : World) (e : Ending) (w' : World) : Prop :=
  ∃ A c, e = .returned (.slice A (8 + zs.length) c) ∧ w'.ownsRow w.heap.size 5 1 (.slice A (8 + zs.length) c) (8 + zs.length) (nums .u8 (frm smZ zs)) ∧ Below w.heap.size w w'
set_option maxHeartbeats 800000 in
theorem frefput_any (A : Option Addr) (n c : Nat) (zs : List Int) (w : World) (hn : n ≤ 60000) (hr : Reads w w.heap.size 1 A n (nums .u8 zs)) (hz : ∀ z ∈ zs, 0 ≤ z ∧ z < 256) :
    Calls Tryd.prog 27 #[.slice A n c] w (FRef zs w) := by
  have hl : zs.length = n := by have := hr.1; simpa [nums] using this
  have HR := Lib.hid hr
  have HZ := Lib.hid hz
  have HL := Lib.hid hl
  clear hr hz hl
  go_enter Tryd.func27, Tryd.ntmps27
  go_wp2_with fail
  refine (high09_any 3 (n : Int) _ (by omega) (by omega) (by omega)).mono ?_
  rintro e w1 ⟨rfl, hb1, hbe1, hs1⟩
  have hbA : Below w.heap.size w w1 := ((Below.refl _ _).alloc (Nat.le_refl _) _).trans (hbe1.mono (by simp))
  have hz1 : w1.heap.size = w.heap.size + 2 := by rw [hs1]; simp
  have ho1 : w1.ownsRow w.heap.size 5 1 (.slice (some ⟨w.heap.size, 0, none⟩) 1 1) 1 (nums .u8 [181]) :=
    (own_new w w.heap.size 5 .u8 [181] 1 _ rfl (Nat.le_refl _) rfl (by decide)).kept (row := none) ⟨hbe1.os, hbe1.tape, hbe1.output, hbe1.size, fun k hk _ => hbe1.block k hk⟩ (.inr (by simp [Value.ownBlock]))
  have hrd := hb1.reads 0 3 (by rw [be_length]; omega)
  rw [List.drop_zero, List.take_of_length_le (by rw [be_length]; exact Nat.le_refl _)] at hrd
  have HBA := Lib.hid hbA
  have HZ1 := Lib.hid hz1
  clear hb1 hbe1 hs1 hbA hz1
  go_wp2_with (at_builtin; refine wpl_bytes rfl (.tmp 6) (.tmp 10) rfl w.heap.size _ 1 [181] rfl ho1 w1.heap.size (some ⟨w.heap.size + 1, 0, none⟩) 3 3 (be 3 (n : Int)) rfl ?r1 ?c1 ?c2 ?_)
  case r1 => simpa using hrd
  case c1 => omega
  case c2 => have := HZ1.out; omega
  intro A1 c1 w2 hown1 hgr1 hb2 hor1
  have hbB := HBA.out.trans hb2
  have hs2 := hbB.size
  have hr2 := HR.out.below hbB
  have HBB := Lib.hid hbB
  clear hgr1 hor1 hb2 hbB ho1 hrd
  go_wp2_with (at_builtin; refine wpl_bytes rfl (.tmp 11) (.tmp 12) rfl w.heap.size _ (1 + 3) ([181] ++ be 3 (n : Int)) rfl ?o2 w.heap.size A n c zs rfl hr2 ?c3 ?c4 ?_)
  case o2 => exact hown1
  case c3 => omega
  case c4 => exact hs2
  intro A2 c2 w3 hown2 hgr2 hb3 hor2
  have hbC := HBB.out.trans hb3
  have hs3 := hbC.size
  have e2 : nums .u8 ([181] ++ be 3 (n : Int) ++ zs) = nums .u8 (fhd zs) := by rw [← HL.out]; rfl
  have hown3 : w3.ownsRow w.heap.size 5 1 (.slice A2 (4 + n) c2) (4 + n) (nums .u8 (fhd zs)) := by rw [← e2]; exact hown2
  have cs := refsum_any A2 (4 + n) c2 (fhd zs) w3 (own_reads hown3) (fhd_bytes zs HZ.out) (by omega)
  obtain ⟨r, hr⟩ : ∃ r, Crc.more 0#32 (fhd zs) = r := ⟨_, rfl⟩
  rw [hr] at cs
  have HRR := Lib.hid hr
  have HBC := Lib.hid hbC
  have HO3 := Lib.hid hown3
  have hrl := r.isLt
  clear hgr2 hor2 hb3 hbC e2 hown1 hown2 hown3 hr2 hr
  go_wp2_with fail
  refine cs.mono ?_
  rintro e w' ⟨rfl, rfl⟩
  go_wp2_with fail
  go_loopw [3, 4, 5] (fun s x i wr => ∃ (j : Nat) (A3 : Option Addr) (c3 : Nat), j ≤ 4 ∧ i = .int .i64 j ∧ x = .int .u32 ((r.toNat : Int) / 256 ^ j) ∧ s = .slice A3 (4 + n + j) c3 ∧ wr.ownsRow w.heap.size 5 1 (.slice A3 (4 + n + j) c3) (4 + n + j) (nums .u8 (fhd zs ++ (bytesZ r).take j)) ∧ Below w.heap.size w wr) (fun _ _ i _ => 4 - (intOf i).toNat)
  case atStart => exact ⟨0, A2, c2, by omega, rfl, by simp, rfl, by simpa using HO3.out, HBC.out⟩
  case round =>
    obtain ⟨j, A3, c3, hj, rfl, rfl, rfl, hown, hbel⟩ := hrel
    have hsz := hbel.size
    by_cases hlt : j < 4
    · have hd := Lib.hid (div256 r j)
      have y0 : 0 ≤ (r.toNat : Int) / 256 ^ j := Int.ediv_nonneg (by omega) (Int.pow_nonneg (by decide))
      have y1 : (r.toNat : Int) / 256 ^ j ≤ 4294967295 := Int.le_trans (Int.ediv_le_self _ (by omega)) (by omega)
      have hbs := Lib.hid (bytesZ_succ r j hlt)
      have HB := Lib.hid hbel
      clear hbel
      generalize (r.toNat : Int) / 256 ^ j = y at y0 y1 hd hbs
      go_wp2_with (at_builtin; refine wpl_bytes rfl (.tmp 20) (.tmp 24) rfl w.heap.size _ (4 + n + j) (fhd zs ++ (bytesZ r).take j) rfl ?o4 (wr.heap.size + 1) (some ⟨wr.heap.size, 0, none⟩) 1 1 [y % 256] rfl ?r4 ?c7 ?c8 ?_)
      case o4 => exact hown.alloc _
      case r4 => exact reads_new wr (nums .u8 [y % 256]) 5 (0, 0) 1 _ _ rfl rfl (by omega)
      case c7 => omega
      case c8 => simp; omega
      intro A4 c4 w4 hown4 hgr4 hb4 hor4
      try rw [List.append_assoc] at hown4
      rw [← hbs.out] at hown4
      have hbD := Lib.hid (HB.out.trans (((Below.refl _ _).alloc hsz _).trans hb4))
      have HO4 := Lib.hid hown4
      clear hgr4 hor4 hb4 hown4 hown
      go_wp2_with fail
      go_roundw
      case rel => exact ⟨j + 1, A4, c4, by omega, by go_num, by rw [hd.out], rfl, HO4.out, hbD.out⟩
      case measure => simp [intOf]; omega
    · obtain rfl : j = 4 := by omega
      have e3 : nums .u8 (fhd zs ++ (bytesZ r).take 4) = nums .u8 (frm smZ zs) := by
        rw [show (bytesZ r).take 4 = bytesZ r from rfl, ← HRR.out]; rfl
      rw [e3, show 4 + n + 4 = 8 + zs.length by rw [HL.out]; omega] at hown
      have HO4 := Lib.hid hown
      have HB := Lib.hid hbel
      have E4 := Lib.hid (show 4 + n + 4 = 8 + zs.length by rw [HL.out]; omega)
      clear hown hbel e3
      go_wp2
      rw [E4.out]
      go_ret
      exact ⟨A3, c3, rfl, HO4.out, HB.out⟩
end Go.Proofs.YtfgkbghagklacaaDoor
