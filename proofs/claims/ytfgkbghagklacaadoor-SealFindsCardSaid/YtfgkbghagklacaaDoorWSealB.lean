/-
  seal.Put, walked.
-/
import Derived.Test.YtfgkbghagklacaaDoorWHigh
import Derived.Test.YtfgkbghagklacaaDoorWCrcC
import Derived.Test.YtfgkbghagklacaaDoorSealPlain
import Derived.StillTailTactics
import Derived.Outline
import Derived.Deep.DeepCutAuto
import Derived.Laws.CopyOwn
import Derived.Deep.RegionLaw
import Derived.Deep.AppendLies
namespace Go.Proofs.YtfgkbghagklacaaDoor
open Go.RowKit
open Byts Seal
set_option linter.unusedVariables false

theorem put_range (k a b : Int) (A : Option Addr) (n c : Nat) (w : World) (h : k < 1 ∨ 255 < k) :
    Calls Tryd.prog 35 #[.agg #[.int .i64 k, .int .u64 a, .int .u64 b, .slice A n c]] w fun e w' => e = .returned (.tuple #[.slice none 0 0, .int .i64 2]) ∧ Below w.heap.size w w' := by
  rcases h with h | h
  · go_enter Tryd.func35, Tryd.ntmps35
    go_wp2_with fail
    go_ret2
    exact ⟨rfl, (Below.refl _ _).alloc (Nat.le_refl _) _⟩
  · have h' : ¬ k < 1 := by omega
    go_enter Tryd.func35, Tryd.ntmps35
    go_wp2_with fail
    go_ret2
    exact ⟨rfl, (Below.refl _ _).alloc (Nat.le_refl _) _⟩
theorem put_long (k a b : Int) (A : Option Addr) (n c : Nat) (w : World) (h1 : 1 ≤ k) (h2 : k ≤ 255) (hn : 1001 < n) :
    Calls Tryd.prog 35 #[.agg #[.int .i64 k, .int .u64 a, .int .u64 b, .slice A n c]] w fun e w' => e = .returned (.tuple #[.slice none 0 0, .int .i64 4]) ∧ Below w.heap.size w w' := by
  go_enter Tryd.func35, Tryd.ntmps35
  go_wp2_with fail
  go_ret2
  exact ⟨rfl, (Below.refl _ _).alloc (Nat.le_refl _) _⟩
theorem splice_nums (k : IntKind) (zs bs : List Int) (off : Nat) : splice (nums k zs) off (nums k bs) = nums k (lay zs off bs) := by
  simp [splice, lay, nums]
set_option maxHeartbeats 1000000 in
theorem put_ok (k a b : Int) (A : Option Addr) (n c : Nat) (zs : List Int) (w : World) (ht : Tab w) (h1 : 1 ≤ k) (h2 : k ≤ 255) (ha : 0 ≤ a) (ha1 : a ≤ 18446744073709551615) (hb : 0 ≤ b) (hb1 : b ≤ 18446744073709551615) (hn : n ≤ 1001)
    (hr : Reads w w.heap.size 1 A n (nums .u8 zs)) (hz : ∀ z ∈ zs, 0 ≤ z ∧ z < 256) :
    Calls Tryd.prog 35 #[.agg #[.int .i64 k, .int .u64 a, .int .u64 b, .slice A n c]] w fun e w' => e = .returned (.tuple #[.slice (some ⟨w.heap.size + 1, 0, none⟩) 1024 1024, .int .i64 0]) ∧
      Blk w' (w.heap.size + 1) 5 (nums .u8 (sec k a b zs (bytesZ (Crc.more 0#32 (hd k a b zs))))).toArray ∧ Below w.heap.size w w' := by
  have hl : zs.length = n := by have := hr.1; simpa [nums] using this
  have HR := Lib.hid hr
  have HZ := Lib.hid hz
  have HL := Lib.hid hl
  have HT := Lib.hid ht
  clear hr hz hl ht
  have hmk : ∀ w, (Instr.makeSlice 22 (.int .i64 1024) (.int .i64 1024)).run Tryd.prog w = .ok (.slice (some ⟨w.heap.size, 0, none⟩) 1024 1024) (w.alloc (.cells (nums .u8 (List.replicate 1024 0)).toArray 5)) := make_bytes 1024 (by decide)
  obtain ⟨l0, hl0⟩ : ∃ l0, List.replicate 1024 (0 : Int) = l0 := ⟨_, rfl⟩
  rw [hl0] at hmk
  have HL0 := Lib.hid hl0
  clear hl0
  go_enter Tryd.func35, Tryd.ntmps35
  go_upto_region 6 with fail
  go_cut [1, 4] (fun p s wx => p = .pointer (some ⟨w.heap.size, 0, none⟩) ∧ s = .slice (some ⟨w.heap.size + 1, 0, none⟩) 1024 1024 ∧ Blk wx w.heap.size 35 #[.int .i64 k, .int .u64 a, .int .u64 b, .slice A n c] ∧ Blk wx (w.heap.size + 1) 5 (nums .u8 (lay1 k)).toArray ∧ Below w.heap.size w wx ∧ wx.heap.size = w.heap.size + 2)
  case first =>
    obtain ⟨wz, hwz⟩ : ∃ wz, (w.alloc (.cells #[.int .i64 k, .int .u64 a, .int .u64 b, .slice A n c] 35)).alloc (.cells (nums .u8 l0).toArray 5) = wz := ⟨_, rfl⟩
    have b1 : Blk wz w.heap.size 35 #[.int .i64 k, .int .u64 a, .int .u64 b, .slice A n c] := by rw [← hwz]; exact (Blk.new _ _ _).alloc _
    have b2 : Blk wz (w.heap.size + 1) 5 (nums .u8 l0).toArray := by
      rw [← hwz]
      have := Blk.new (w.alloc (.cells #[.int .i64 k, .int .u64 a, .int .u64 b, .slice A n c] 35)) 5 (nums .u8 l0).toArray
      simpa using this
    have b3 : Below w.heap.size w wz := by rw [← hwz]; exact ((Below.refl _ _).alloc (Nat.le_refl _) _).alloc (by simp) _
    have b4 : wz.heap.size = w.heap.size + 2 := by rw [← hwz]; simp
    rw [hwz]
    clear hwz hmk
    have h00 : l0[0]? = some 0 := by rw [← HL0.out]; rfl
    have c1 : wz.cell? ⟨w.heap.size, 0, none⟩ = some (.int .i64 k) := b1.cell 0
    have c2 : wz.cell? ⟨w.heap.size + 1, 0, none⟩ = some (.int .u8 0) := by rw [b2.cell, List.getElem?_toArray]; exact nums_get h00
    have c3 : wz.frozen? ⟨w.heap.size + 1, 0, none⟩ = false := b2.frozen 0
    have b5 := b2.set_ 0 (.int .u8 k)
    rw [nums_setArr, ← HL0.out] at b5
    have B5 := Lib.hid b5
    have B4 := Lib.hid b4
    have B3 := Lib.hid b3
    have B1 := Lib.hid b1
    clear b1 b2 b3 b4 b5 h00
    go_wp2_with fail
    go_meet
    exact ⟨rfl, rfl, B1.out.far (by simp) _, B5.out, B3.out.setCell (by simp) _, by simp [World.setCell, B4.out]⟩
  case rest =>
    obtain ⟨rfl, rfl, b1, b2, b3, b4⟩ := hcut
    have c1 : wc.cell? ⟨w.heap.size, 1, none⟩ = some (.int .u64 a) := b1.cell 1
    have B1 := Lib.hid b1
    have B2 := Lib.hid b2
    have B3 := Lib.hid b3
    have B4 := Lib.hid b4
    clear b1 b2 b3 b4 hmk
    go_wp2_with fail
    go_still_tail 4, (by kernel_rfl)
    go_wp2_with fail
    refine (number_any _ _ _ _ (lay1 k) a _ B2.out.drew (by rw [lay1_length]; omega) ha ha1 (by rw [lay1_length]; omega) (by omega) (by omega)).mono ?_
    rintro e w2 ⟨rfl, b2, hg, hs⟩
    have b1 := B1.out.drew.grown hg (by simp)
    have bb2 := B3.out.drew.grown hg (show w.heap.size ≤ wc.heap.size by have := B4.out; omega) (by intro k hk; injection hk with hk; omega)
    have s2 : w2.heap.size = w.heap.size + 2 := by rw [hs]; exact B4.out
    have c2 : w2.cell? ⟨w.heap.size, 2, none⟩ = some (.int .u64 b) := b1.cell 2
    clear c1 hg hs B1 B2 B3 B4
    have B1 := Lib.hid b1
    have B2 := Lib.hid b2
    have B3 := Lib.hid bb2
    have B4 := Lib.hid s2
    clear b1 b2 bb2 s2
    go_wp2_with fail
    go_still_tail 4, (by kernel_rfl)
    go_wp2_with fail
    refine (number_any _ _ _ _ (lay2 k a) b _ B2.out.drew (by rw [lay2_length]; omega) hb hb1 (by rw [lay2_length]; omega) (by omega) (by omega)).mono ?_
    rintro e w3 ⟨rfl, b2, hg, hs⟩
    have b1 := B1.out.drew.grown hg (by simp)
    have bb2 := B3.out.drew.grown hg (show w.heap.size ≤ w2.heap.size by have := B4.out; omega) (by intro k hk; injection hk with hk; omega)
    have s2 : w3.heap.size = w.heap.size + 2 := by rw [hs]; exact B4.out
    have c3 : w3.cell? ⟨w.heap.size, 3, none⟩ = some (.slice A n c) := b1.cell 3
    clear c2 hg hs B1 B2 B3 B4
    have B1 := Lib.hid b1
    have B2 := Lib.hid b2
    have B3 := Lib.hid bb2
    have B4 := Lib.hid s2
    clear b1 b2 bb2 s2
    go_wp2_with fail
    go_still_tail 6, (by kernel_rfl)
    go_wp2_with fail
    refine (number_any _ _ _ _ (lay3 k a b) (n : Int) _ B2.out.drew (by rw [lay3_length]; omega) (by omega) (by omega) (by rw [lay3_length]; omega) (by omega) (by omega)).mono ?_
    rintro e w4 ⟨rfl, b2, hg, hs⟩
    have b1 := B1.out.drew.grown hg (by simp)
    have bb2 := B3.out.drew.grown hg (show w.heap.size ≤ w3.heap.size by have := B4.out; omega) (by intro k hk; injection hk with hk; omega)
    have s2 : w4.heap.size = w.heap.size + 2 := by rw [hs]; exact B4.out
    have c4 : w4.cell? ⟨w.heap.size, 3, none⟩ = some (.slice A n c) := b1.cell 3
    clear c3 hg hs B1 B2 B3 B4
    have B1 := Lib.hid b1
    have B2 := Lib.hid b2
    have B3 := Lib.hid bb2
    have B4 := Lib.hid s2
    clear b1 b2 bb2 s2
    go_wp2_with fail
    go_still_tail 4, (by kernel_rfl)
    go_wp2_with (with_reducible refine wpList_copy_splice rfl (.tmp 43) (.tmp 45) 22 22 rfl 5 Tryd.underlying22 (by kernel_rfl) (some ⟨w.heap.size + 1, 19, none⟩) A 1005 1005 n c rfl rfl (w.heap.size + 1) 19 (nums .u8 (lay4 k a b n)) 5 ?g1 (nums .u8 zs) ?g2 ?g3 ?g4 ?g5 w.heap.size w ?g6 ?g7 ?_)
    case g1 => exact B2.out
    case g2 => rw [show Nat.min n 1005 = n from Nat.min_eq_left (by omega)]; simp [nums, HL.out]
    case g3 =>
      intro hpos
      obtain ⟨ad, hA, _, hc⟩ := (HR.out.below B3.out).2 (by simpa [nums, HL.out] using hpos)
      first | exact ⟨ad, hA, hc⟩ | exact ⟨rfl, ad, hA, hc⟩
    case g4 => simp [nums, lay4_length, HL.out]; omega
    case g5 => exact nums_one _ _
    case g6 => exact B3.out.drew
    case g7 => omega
    intro w5 h5 hb5
    rw [splice_nums] at h5
    have hzl : zs.length ≤ 1001 := by rw [HL.out]; exact hn
    have b5 : Blk w5 (w.heap.size + 1) 5 (nums .u8 (lay5 k a b zs)).toArray := by
      have := h5.out
      rw [← HL.out] at this
      exact this
    have hrs := b5.reads 0 1020 (by rw [lay5_length k a b zs hzl]; omega)
    rw [List.drop_zero, lay5_take k a b zs hzl] at hrs
    have cs := sum_any (some ⟨w.heap.size + 1, 0, none⟩) 1020 1024 (hd k a b zs) w5 (HT.out.below hb5 (Nat.le_refl _)) hrs (hd_bytes k a b zs (by omega) HZ.out) (by omega)
    obtain ⟨r, hr⟩ : ∃ r, Crc.more 0#32 (hd k a b zs) = r := ⟨_, rfl⟩
    rw [hr] at cs
    have HRR := Lib.hid hr
    have B5 := Lib.hid b5
    have HB5 := Lib.hid hb5
    have hrl := r.isLt
    clear hr b5 hb5 hrs h5 B1 B2 B3 B4 c4
    go_wp2_with fail
    refine cs.mono ?_
    rintro e w' ⟨rfl, rfl⟩
    go_wp2_with fail
    go_loopw [6, 50] (fun _ i wr => ∃ j : Nat, j ≤ 4 ∧ i = .int .i64 j ∧ Blk wr (w.heap.size + 1) 5 (nums .u8 (lay (lay5 k a b zs) 1020 ((bytesZ r).take j))).toArray ∧ Below w.heap.size w wr) (fun _ i _ => 4 - (intOf i).toNat)
    case atStart => exact ⟨0, by omega, rfl, by rw [List.take_zero, lay_nil]; exact B5.out, HB5.out⟩
    case round =>
      obtain ⟨j, hj, rfl, hblk, hbel⟩ := hrel
      by_cases hlt : j < 4
      · have e1 := lay_at (zs := lay5 k a b zs) (bs := bytesZ r) (off := 1020) (k := j) hlt (by rw [lay5_length k a b zs hzl]; exact Nat.le_refl 1024)
        have e2 := lay_set (zs := lay5 k a b zs) (bs := bytesZ r) (off := 1020) (k := j) hlt (by rw [lay5_length k a b zs hzl]; exact Nat.le_refl 1024)
        rw [bytesZ_shr r j hlt] at e2
        have hjl : 1020 + j < (lay5 k a b zs).length := by rw [lay5_length k a b zs hzl]; omega
        have hc : wr.cell? ⟨w.heap.size + 1, 1020 + j, none⟩ = some (.int .u8 ((lay5 k a b zs)[1020 + j])) := by
          rw [hblk.cell, List.getElem?_toArray]
          exact nums_get (by rw [e1, List.getElem?_eq_getElem hjl])
        generalize (lay5 k a b zs)[1020 + j] = old at hc
        have hf : wr.frozen? ⟨w.heap.size + 1, 1020 + j, none⟩ = false := hblk.frozen _
        have hst := hblk.set_ (1020 + j) (.int .u8 ((r.toNat : Int) / 2 ^ (8 * j) % 256))
        rw [nums_setArr, e2] at hst
        have HS := Lib.hid hst
        have HG := Lib.hid (hbel.setCell (p := ⟨w.heap.size + 1, 1020 + j, none⟩) (by simp) (.int .u8 ((r.toNat : Int) / 2 ^ (8 * j) % 256)))
        clear e1 e2 hst hblk hbel hjl
        go_wp2_with fail
        go_roundw
        case rel => exact ⟨j + 1, by omega, by go_num, HS.out, HG.out⟩
        case measure => simp [intOf]; omega
      · obtain rfl : j = 4 := by omega
        rw [List.take_of_length_le (by exact Nat.le_refl _), lay6_is k a b zs (bytesZ r) hzl rfl] at hblk
        have HS := Lib.hid hblk
        have HG := Lib.hid hbel
        clear hblk hbel
        go_wp2_with fail
        go_ret2
        exact ⟨rfl, by rw [HRR.out]; exact HS.out, HG.out⟩
end Go.Proofs.YtfgkbghagklacaaDoor
