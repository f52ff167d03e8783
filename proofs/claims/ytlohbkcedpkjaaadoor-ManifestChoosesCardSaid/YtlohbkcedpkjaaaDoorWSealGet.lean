import Derived.Test.YtlohbkcedpkjaaaDoorAppB
import Derived.Test.YtlohbkcedpkjaaaDoorBase
import Derived.Test.YtlohbkcedpkjaaaDoorWCrcs
import Derived.Test.YtlohbkcedpkjaaaDoorSealP
import Derived.StillTailTactics
import Derived.Outline
import Derived.Deep.DeepCutAuto
import Derived.Laws.CopyOwn
import Derived.Deep.RegionLaw
import Derived.Deep.AppendLies
import Derived.Test.YtlohbkcedpkjaaaDoorWFrames
import Derived.Handy
import Derived.Lib.BufferMore
import Derived.BigQuiet
import Derived.Deep.RegionHeld3
/-
  seal.Put, walked.
-/
namespace Go.Proofs.YtlohbkcedpkjaaaDoor
open Go.RowKit
set_option maxRecDepth 100000
open Byts Seal
set_option linter.unusedVariables false

theorem put_range (k a b : Int) (A : Option Addr) (n c : Nat) (w : World) (h : k < 1 ∨ 255 < k) :
    Calls Tryd.prog 37 #[.agg #[.int .i64 k, .int .u64 a, .int .u64 b, .slice A n c]] w fun e w' => e = .returned (.tuple #[.slice none 0 0, .int .i64 2]) ∧ Below w.heap.size w w' := by
  rcases h with h | h
  · go_enter Tryd.func37, Tryd.ntmps37
    go_wp2_with fail
    go_ret2
    exact ⟨rfl, (Below.refl _ _).alloc (Nat.le_refl _) _⟩
  · have h' : ¬ k < 1 := by omega
    go_enter Tryd.func37, Tryd.ntmps37
    go_wp2_with fail
    go_ret2
    exact ⟨rfl, (Below.refl _ _).alloc (Nat.le_refl _) _⟩
theorem put_long (k a b : Int) (A : Option Addr) (n c : Nat) (w : World) (h1 : 1 ≤ k) (h2 : k ≤ 255) (hn : 1001 < n) :
    Calls Tryd.prog 37 #[.agg #[.int .i64 k, .int .u64 a, .int .u64 b, .slice A n c]] w fun e w' => e = .returned (.tuple #[.slice none 0 0, .int .i64 4]) ∧ Below w.heap.size w w' := by
  go_enter Tryd.func37, Tryd.ntmps37
  go_wp2_with fail
  go_ret2
  exact ⟨rfl, (Below.refl _ _).alloc (Nat.le_refl _) _⟩
theorem splice_nums (k : IntKind) (zs bs : List Int) (off : Nat) : splice (nums k zs) off (nums k bs) = nums k (lay zs off bs) := by
  simp [splice, lay, nums]
set_option maxHeartbeats 1000000 in
theorem put_ok (k a b : Int) (A : Option Addr) (n c : Nat) (zs : List Int) (w : World) (ht : Tab w) (h1 : 1 ≤ k) (h2 : k ≤ 255) (ha : 0 ≤ a) (ha1 : a ≤ 18446744073709551615) (hb : 0 ≤ b) (hb1 : b ≤ 18446744073709551615) (hn : n ≤ 1001)
    (hr : Reads w w.heap.size 1 A n (nums .u8 zs)) (hz : ∀ z ∈ zs, 0 ≤ z ∧ z < 256) :
    Calls Tryd.prog 37 #[.agg #[.int .i64 k, .int .u64 a, .int .u64 b, .slice A n c]] w fun e w' => e = .returned (.tuple #[.slice (some ⟨w.heap.size + 1, 0, none⟩) 1024 1024, .int .i64 0]) ∧
      Blk w' (w.heap.size + 1) 5 (nums .u8 (sec k a b zs (bytesZ (Crc.more 0#32 (hd k a b zs))))).toArray ∧ Below w.heap.size w w' := by
  have hl : zs.length = n := by have := hr.1; simpa [nums] using this
  have HR := Lib.hid hr
  have HZ := Lib.hid hz
  have HL := Lib.hid hl
  have HT := Lib.hid ht
  clear hr hz hl ht
  have hmk : ∀ w, (Instr.makeSlice 23 (.int .i64 1024) (.int .i64 1024)).run Tryd.prog w = .ok (.slice (some ⟨w.heap.size, 0, none⟩) 1024 1024) (w.alloc (.cells (nums .u8 (List.replicate 1024 0)).toArray 5)) := make_bytes 1024 (by decide)
  obtain ⟨l0, hl0⟩ : ∃ l0, List.replicate 1024 (0 : Int) = l0 := ⟨_, rfl⟩
  rw [hl0] at hmk
  have HL0 := Lib.hid hl0
  clear hl0
  go_enter Tryd.func37, Tryd.ntmps37
  go_upto_region 6 with fail
  go_cut [1, 4] (fun p s wx => p = .pointer (some ⟨w.heap.size, 0, none⟩) ∧ s = .slice (some ⟨w.heap.size + 1, 0, none⟩) 1024 1024 ∧ Blk wx w.heap.size 25 #[.int .i64 k, .int .u64 a, .int .u64 b, .slice A n c] ∧ Blk wx (w.heap.size + 1) 5 (nums .u8 (lay1 k)).toArray ∧ Below w.heap.size w wx ∧ wx.heap.size = w.heap.size + 2)
  case first =>
    obtain ⟨wz, hwz⟩ : ∃ wz, (w.alloc (.cells #[.int .i64 k, .int .u64 a, .int .u64 b, .slice A n c] 25)).alloc (.cells (nums .u8 l0).toArray 5) = wz := ⟨_, rfl⟩
    have b1 : Blk wz w.heap.size 25 #[.int .i64 k, .int .u64 a, .int .u64 b, .slice A n c] := by rw [← hwz]; exact (Blk.new _ _ _).alloc _
    have b2 : Blk wz (w.heap.size + 1) 5 (nums .u8 l0).toArray := by
      rw [← hwz]
      have := Blk.new (w.alloc (.cells #[.int .i64 k, .int .u64 a, .int .u64 b, .slice A n c] 25)) 5 (nums .u8 l0).toArray
      simpa using this
    have b3 : Below w.heap.size w wz := by rw [← hwz]; exact ((Below.refl _ _).alloc (Nat.le_refl _) _).alloc (by simp) _
    have b4 : wz.heap.size = w.heap.size + 2 := by rw [← hwz]; simp
    rw [hwz]
    clear hwz hmk
    have h00 : l0[0]? = some 0 := by rw [← HL0.out]; rfl
    have c1 : wz.cell? ⟨w.heap.size, 0, none⟩ = some (.int .i64 k) := b1.cell 0
    have c2 : wz.cell? ⟨w.heap.size + 1, 0, none⟩ = some (.int .u8 0) := by rw [b2.cell, List.getElem?_toArray]; exact nums_get h00
    have c3 : wz.frozen? ⟨w.heap.size + 1, 0, none⟩ = false := b2.frozen 0
    have b5 := b2.set_ 0 (.int .u8 k)
    rw [nums_setArr, ← HL0.out] at b5
    have B5 := Lib.hid b5
    have B4 := Lib.hid b4
    have B3 := Lib.hid b3
    have B1 := Lib.hid b1
    clear b1 b2 b3 b4 b5 h00
    go_wp2_with fail
    go_meet
    exact ⟨rfl, rfl, B1.out.far (by simp) _, B5.out, B3.out.setCell (by simp) _, by simp [World.setCell, B4.out]⟩
  case rest =>
    obtain ⟨rfl, rfl, b1, b2, b3, b4⟩ := hcut
    have c1 : wc.cell? ⟨w.heap.size, 1, none⟩ = some (.int .u64 a) := b1.cell 1
    have B1 := Lib.hid b1
    have B2 := Lib.hid b2
    have B3 := Lib.hid b3
    have B4 := Lib.hid b4
    clear b1 b2 b3 b4 hmk
    go_wp2_with fail
    go_still_tail 4, (by kernel_rfl)
    go_wp2_with fail
    refine (number_any _ _ _ _ (lay1 k) a _ B2.out.drew (by rw [lay1_length]; omega) ha ha1 (by rw [lay1_length]; omega) (by omega) (by omega)).mono ?_
    rintro e w2 ⟨rfl, b2, hg, hs⟩
    have b1 := B1.out.drew.grown hg (by simp)
    have bb2 := B3.out.drew.grown hg (show w.heap.size ≤ wc.heap.size by have := B4.out; omega) (by intro k hk; injection hk with hk; omega)
    have s2 : w2.heap.size = w.heap.size + 2 := by rw [hs]; exact B4.out
    have c2 : w2.cell? ⟨w.heap.size, 2, none⟩ = some (.int .u64 b) := b1.cell 2
    clear c1 hg hs B1 B2 B3 B4
    have B1 := Lib.hid b1
    have B2 := Lib.hid b2
    have B3 := Lib.hid bb2
    have B4 := Lib.hid s2
    clear b1 b2 bb2 s2
    go_wp2_with fail
    go_still_tail 4, (by kernel_rfl)
    go_wp2_with fail
    refine (number_any _ _ _ _ (lay2 k a) b _ B2.out.drew (by rw [lay2_length]; omega) hb hb1 (by rw [lay2_length]; omega) (by omega) (by omega)).mono ?_
    rintro e w3 ⟨rfl, b2, hg, hs⟩
    have b1 := B1.out.drew.grown hg (by simp)
    have bb2 := B3.out.drew.grown hg (show w.heap.size ≤ w2.heap.size by have := B4.out; omega) (by intro k hk; injection hk with hk; omega)
    have s2 : w3.heap.size = w.heap.size + 2 := by rw [hs]; exact B4.out
    have c3 : w3.cell? ⟨w.heap.size, 3, none⟩ = some (.slice A n c) := b1.cell 3
    clear c2 hg hs B1 B2 B3 B4
    have B1 := Lib.hid b1
    have B2 := Lib.hid b2
    have B3 := Lib.hid bb2
    have B4 := Lib.hid s2
    clear b1 b2 bb2 s2
    go_wp2_with fail
    go_still_tail 6, (by kernel_rfl)
    go_wp2_with fail
    refine (number_any _ _ _ _ (lay3 k a b) (n : Int) _ B2.out.drew (by rw [lay3_length]; omega) (by omega) (by omega) (by rw [lay3_length]; omega) (by omega) (by omega)).mono ?_
    rintro e w4 ⟨rfl, b2, hg, hs⟩
    have b1 := B1.out.drew.grown hg (by simp)
    have bb2 := B3.out.drew.grown hg (show w.heap.size ≤ w3.heap.size by have := B4.out; omega) (by intro k hk; injection hk with hk; omega)
    have s2 : w4.heap.size = w.heap.size + 2 := by rw [hs]; exact B4.out
    have c4 : w4.cell? ⟨w.heap.size, 3, none⟩ = some (.slice A n c) := b1.cell 3
    clear c3 hg hs B1 B2 B3 B4
    have B1 := Lib.hid b1
    have B2 := Lib.hid b2
    have B3 := Lib.hid bb2
    have B4 := Lib.hid s2
    clear b1 b2 bb2 s2
    go_wp2_with fail
    go_still_tail 4, (by kernel_rfl)
    go_wp2_with (with_reducible refine wpList_copy_splice rfl (.tmp 43) (.tmp 45) 23 23 rfl 5 Tryd.underlying23 (by kernel_rfl) (some ⟨w.heap.size + 1, 19, none⟩) A 1005 1005 n c rfl rfl (w.heap.size + 1) 19 (nums .u8 (lay4 k a b n)) 5 ?g1 (nums .u8 zs) ?g2 ?g3 ?g4 ?g5 w.heap.size w ?g6 ?g7 ?_)
    case g1 => exact B2.out
    case g2 => rw [show Nat.min n 1005 = n from Nat.min_eq_left (by omega)]; simp [nums, HL.out]
    case g3 =>
      intro hpos
      obtain ⟨ad, hA, _, hc⟩ := (HR.out.below B3.out).2 (by simpa [nums, HL.out] using hpos)
      first | exact ⟨ad, hA, hc⟩ | exact ⟨rfl, ad, hA, hc⟩
    case g4 => simp [nums, lay4_length, HL.out]; omega
    case g5 => exact nums_one _ _
    case g6 => exact B3.out.drew
    case g7 => omega
    intro w5 h5 hb5
    rw [splice_nums] at h5
    have hzl : zs.length ≤ 1001 := by rw [HL.out]; exact hn
    have b5 : Blk w5 (w.heap.size + 1) 5 (nums .u8 (lay5 k a b zs)).toArray := by
      have := h5.out
      rw [← HL.out] at this
      exact this
    have hrs := b5.reads 0 1020 (by rw [lay5_length k a b zs hzl]; omega)
    rw [List.drop_zero, lay5_take k a b zs hzl] at hrs
    have cs := sum_any (some ⟨w.heap.size + 1, 0, none⟩) 1020 1024 (hd k a b zs) w5 (HT.out.below hb5 (Nat.le_refl _)) hrs (hd_bytes k a b zs (by omega) HZ.out) (by omega)
    obtain ⟨r, hr⟩ : ∃ r, Crc.more 0#32 (hd k a b zs) = r := ⟨_, rfl⟩
    rw [hr] at cs
    have HRR := Lib.hid hr
    have B5 := Lib.hid b5
    have HB5 := Lib.hid hb5
    have hrl := r.isLt
    clear hr b5 hb5 hrs h5 B1 B2 B3 B4 c4
    go_wp2_with fail
    refine cs.mono ?_
    rintro e w' ⟨rfl, rfl⟩
    go_wp2_with fail
    go_loopw [6, 50] (fun _ i wr => ∃ j : Nat, j ≤ 4 ∧ i = .int .i64 j ∧ Blk wr (w.heap.size + 1) 5 (nums .u8 (lay (lay5 k a b zs) 1020 ((bytesZ r).take j))).toArray ∧ Below w.heap.size w wr) (fun _ i _ => 4 - (intOf i).toNat)
    case atStart => exact ⟨0, by omega, rfl, by rw [List.take_zero, lay_nil]; exact B5.out, HB5.out⟩
    case round =>
      obtain ⟨j, hj, rfl, hblk, hbel⟩ := hrel
      by_cases hlt : j < 4
      · have e1 := lay_at (zs := lay5 k a b zs) (bs := bytesZ r) (off := 1020) (k := j) hlt (by rw [lay5_length k a b zs hzl]; exact Nat.le_refl 1024)
        have e2 := lay_set (zs := lay5 k a b zs) (bs := bytesZ r) (off := 1020) (k := j) hlt (by rw [lay5_length k a b zs hzl]; exact Nat.le_refl 1024)
        rw [bytesZ_shr r j hlt] at e2
        have hjl : 1020 + j < (lay5 k a b zs).length := by rw [lay5_length k a b zs hzl]; omega
        have hc : wr.cell? ⟨w.heap.size + 1, 1020 + j, none⟩ = some (.int .u8 ((lay5 k a b zs)[1020 + j])) := by
          rw [hblk.cell, List.getElem?_toArray]
          exact nums_get (by rw [e1, List.getElem?_eq_getElem hjl])
        generalize (lay5 k a b zs)[1020 + j] = old at hc
        have hf : wr.frozen? ⟨w.heap.size + 1, 1020 + j, none⟩ = false := hblk.frozen _
        have hst := hblk.set_ (1020 + j) (.int .u8 ((r.toNat : Int) / 2 ^ (8 * j) % 256))
        rw [nums_setArr, e2] at hst
        have HS := Lib.hid hst
        have HG := Lib.hid (hbel.setCell (p := ⟨w.heap.size + 1, 1020 + j, none⟩) (by simp) (.int .u8 ((r.toNat : Int) / 2 ^ (8 * j) % 256)))
        clear e1 e2 hst hblk hbel hjl
        go_wp2_with fail
        go_roundw
        case rel => exact ⟨j + 1, by omega, by go_num, HS.out, HG.out⟩
        case measure => simp [intOf]; omega
      · obtain rfl : j = 4 := by omega
        rw [List.take_of_length_le (by exact Nat.le_refl _), lay6_is k a b zs (bytesZ r) hzl rfl] at hblk
        have HS := Lib.hid hblk
        have HG := Lib.hid hbel
        clear hblk hbel
        go_wp2_with fail
        go_ret2
        exact ⟨rfl, by rw [HRR.out]; exact HS.out, HG.out⟩
end Go.Proofs.YtlohbkcedpkjaaaDoor
/-
  seal.Get, walked; slices.Clone at bytes.
-/
namespace Go.Proofs.YtlohbkcedpkjaaaDoor
open Go.RowKit
set_option maxRecDepth 100000
open Byts Seal
open Fram (getD_nn)
set_option linter.unusedVariables false
theorem clone_any (b off n c : Nat) (zs : List Int) (w : World) (hr : Reads w w.heap.size 1 (some ⟨b, off, none⟩) n (nums .u8 zs)) (hn : n ≤ 140737488355328) :
    Calls Tryd.prog 48 #[.slice (some ⟨b, off, none⟩) n c] w fun e w' => ∃ A' c', e = .returned (.slice A' n c') ∧ w'.ownsRow w.heap.size 5 1 (.slice A' n c') n (nums .u8 zs) ∧ Below w.heap.size w w' := by
  have HR := Lib.hid hr
  clear hr
  go_enter Tryd.func48, Tryd.ntmps48
  have hnil := fun W => Lib.run_eql_slice_some_nil (P := Tryd.prog) W (⟨b, off, none⟩ : Addr) n c Tryd.underlying23
  go_wp2_with (at_builtin; refine wpl_bytes rfl (.tmp 5) (.tmp 6) rfl w.heap.size _ 0 [] rfl ?o1 w.heap.size (some ⟨b, off, none⟩) n c zs rfl ?r1 ?c1 ?c2 ?_)
  case o1 => exact own_empty _ _ _ _ rfl (Nat.le_refl _)
  case r1 => exact HR.out.alloc (Nat.le_refl _) _
  case c1 => omega
  case c2 => simp
  intro A1 c1 w1 hown1 hgr1 hb1 hor1
  try simp only [Nat.zero_add, List.nil_append] at hown1
  have HO := Lib.hid hown1
  have HB := Lib.hid (((Below.refl _ _).alloc (Nat.le_refl _) _).trans hb1 : Below w.heap.size w w1)
  clear hgr1 hor1 hb1 hown1
  go_wp2
  go_ret
  have ho := HO.out
  simp only at ho ⊢
  exact ⟨A1, c1, rfl, ho, HB.out⟩
/-- what Get leaves -/
def SGet (zs : List Int) (w : World) (e : Ending) (w' : World) : Prop :=
  ∃ A c, e = .returned (.tuple #[.agg #[.int .i64 (sK smZ zs), .int .u64 (sA smZ zs), .int .u64 (sB smZ zs), .slice A (sV smZ zs).length c], .int .i64 (sE smZ zs)]) ∧ Reads w' w'.heap.size 1 A (sV smZ zs).length (nums .u8 (sV smZ zs)) ∧ Below w.heap.size w w'
theorem SGet_bad {zs : List Int} {w w' : World} {c : Int} (hc : c ≠ 0) (he : sE smZ zs = c) (hb : Below w.heap.size w w') : SGet zs w (.returned (.tuple #[.agg #[.int .i64 0, .int .u64 0, .int .u64 0, .slice none 0 0], .int .i64 c])) w' := by
  have e1 : sV smZ zs = [] := by unfold sV; rw [if_neg (by rw [he]; exact hc)]
  have e2 : sK smZ zs = 0 := by unfold sK; rw [if_neg (by rw [he]; exact hc)]
  have e3 : sA smZ zs = 0 := by unfold sA; rw [if_neg (by rw [he]; exact hc)]
  have e4 : sB smZ zs = 0 := by unfold sB; rw [if_neg (by rw [he]; exact hc)]
  refine ⟨none, 0, ?_, ?_, hb⟩
  · rw [e1, e2, e3, e4, he]; rfl
  · rw [e1]; exact Reads.none_
/-- the same, and what its body's row may hold -/
def SGetC (zs : List Int) (w : World) (e : Ending) (w' : World) : Prop :=
  ∃ A c, e = .returned (.tuple #[.agg #[.int .i64 (sK smZ zs), .int .u64 (sA smZ zs), .int .u64 (sB smZ zs), .slice A (sV smZ zs).length c], .int .i64 (sE smZ zs)]) ∧ Reads w' w'.heap.size 1 A (sV smZ zs).length (nums .u8 (sV smZ zs)) ∧ Below w.heap.size w w' ∧ (sV smZ zs).length ≤ c
theorem SGetC.weak {zs : List Int} {w w' : World} {e : Ending} (h : SGetC zs w e w') : SGet zs w e w' := by
  obtain ⟨A, c, h1, h2, h3, h4⟩ := h
  exact ⟨A, c, h1, h2, h3⟩
theorem SGetC_bad {zs : List Int} {w w' : World} {c : Int} (hc : c ≠ 0) (he : sE smZ zs = c) (hb : Below w.heap.size w w') : SGetC zs w (.returned (.tuple #[.agg #[.int .i64 0, .int .u64 0, .int .u64 0, .slice none 0 0], .int .i64 c])) w' := by
  have e1 : sV smZ zs = [] := by unfold sV; rw [if_neg (by rw [he]; exact hc)]
  have e2 : sK smZ zs = 0 := by unfold sK; rw [if_neg (by rw [he]; exact hc)]
  have e3 : sA smZ zs = 0 := by unfold sA; rw [if_neg (by rw [he]; exact hc)]
  have e4 : sB smZ zs = 0 := by unfold sB; rw [if_neg (by rw [he]; exact hc)]
  refine ⟨none, 0, ?_, ?_, hb, by rw [e1]; exact Nat.le_refl _⟩
  · rw [e1, e2, e3, e4, he]; rfl
  · rw [e1]; exact Reads.none_
theorem sget_form (A : Option Addr) (n c : Nat) (zs : List Int) (w : World) (hr : Reads w w.heap.size 1 A n (nums .u8 zs)) (hn : n ≠ 1024) :
    Calls Tryd.prog 26 #[.slice A n c] w (SGetC zs w) := by
  have hl : zs.length = n := by have := hr.1; simpa [nums] using this
  have he : sE smZ zs = 6 := by unfold sE; rw [if_pos (by rw [hl]; exact hn)]
  have HE := Lib.hid he
  have h1 : ((n : Int) != 1024) = true := by rw [bne_iff_ne]; omega
  clear hl he hr hn
  go_enter Tryd.func26, Tryd.ntmps26
  go_wp2_with fail
  go_returns
  exact SGetC_bad (by decide) HE.out ((Below.refl _ _).alloc (Nat.le_refl _) _)
end Go.Proofs.YtlohbkcedpkjaaaDoor
/-
  seal.Get where the bytes are as many as a sector's, walked.
-/
namespace Go.Proofs.YtlohbkcedpkjaaaDoor
open Go.RowKit
open Byts Seal
open Fram (getD_nn)
set_option linter.unusedVariables false
theorem sub_reads {w : World} {b off n : Nat} {zs : List Int} {B : Nat} (hr : Reads w B 1 (some ⟨b, off, none⟩) n (nums .u8 zs)) (i m : Nat) (h : i + m ≤ n) : Reads w B 1 (some ⟨b, off + i, none⟩) m (nums .u8 ((zs.drop i).take m)) := by
  have hl : zs.length = n := by have := hr.1; simpa [nums] using this
  refine ⟨by simp [nums]; omega, fun hpos => ?_⟩
  have hlen : (nums .u8 ((zs.drop i).take m)).length = m := by simp [nums]; omega
  have hm : 0 < m := by first | exact hpos | (rw [hlen] at hpos; exact hpos)
  obtain ⟨b', off', u, hA, hB, _, _⟩ := hr.at_ (k := 0) (by omega)
  injection hA with hA
  injection hA with hA hA2
  subst hA hA2
  refine ⟨_, rfl, hB, fun j u hu => ?_⟩
  have hj : j < m := by
    have := (List.getElem?_eq_some_iff.1 hu).1
    omega
  obtain ⟨b', off', u', hA, _, hu', hc⟩ := hr.at_ (k := i + j) (by omega)
  injection hA with hA
  injection hA with hA hA2
  subst hA hA2
  have e : (⟨b, off + i, none⟩ : Addr).add j = ⟨b, off + (i + j), none⟩ := by unfold Addr.add; split <;> simp_all <;> omega
  rw [e, hc, ← hu', ← hu]
  simp only [nums, List.getElem?_map, List.getElem?_take, if_pos hj, List.getElem?_drop]
/-- four cells of a block set -/
theorem set4 {w0 w : World} {g t B : Nat} {x0 x1 x2 x3 : Value} (h : Blk w g t #[x0, x1, x2, x3]) (hb : Below B w0 w) (hg : B ≤ g) (a b c d : Value) :
    ∃ wz, (((w.setCell ⟨g, 0, none⟩ a).setCell ⟨g, 1, none⟩ b).setCell ⟨g, 2, none⟩ c).setCell ⟨g, 3, none⟩ d = wz ∧
      wz.cell? ⟨g, 0, none⟩ = some a ∧ wz.cell? ⟨g, 1, none⟩ = some b ∧ wz.cell? ⟨g, 2, none⟩ = some c ∧ wz.cell? ⟨g, 3, none⟩ = some d ∧ Below B w0 wz ∧ w.grownBy wz (some g) := by
  have hz := (((h.set_ 0 a).set_ 1 b).set_ 2 c).set_ 3 d
  have o1 := only_setCell (World.grownBy.refl w (some g)) (p := ⟨g, 0, none⟩) (.inl rfl) a
  have o2 := only_setCell o1 (p := ⟨g, 1, none⟩) (.inl rfl) b
  have o3 := only_setCell o2 (p := ⟨g, 2, none⟩) (.inl rfl) c
  have o4 := only_setCell o3 (p := ⟨g, 3, none⟩) (.inl rfl) d
  exact ⟨_, rfl, hz.cell 0, hz.cell 1, hz.cell 2, hz.cell 3, (((hb.setCell hg _).setCell hg _).setCell hg _).setCell hg _, o4⟩
set_option maxRecDepth 100000 in
set_option maxHeartbeats 6000000 in
theorem sget_main (A : Option Addr) (c : Nat) (zs : List Int) (w : World) (ht : Tab w) (hr : Reads w w.heap.size 1 A 1024 (nums .u8 zs)) (hz : ∀ z ∈ zs, 0 ≤ z ∧ z < 256) (hnc : 1024 ≤ c) (hc0 : c ≤ 9223372036854775807) :
    Calls Tryd.prog 26 #[.slice A 1024 c] w (SGetC zs w) := by
  have hl : zs.length = 1024 := by have := hr.1; simpa [nums] using this
  obtain ⟨b, off, u0, rfl, hbl, h8, h9⟩ := hr.at_ (k := 0) (by omega)
  clear h8 h9 hbl u0
  obtain ⟨w0, hw0⟩ : ∃ w0, w.alloc (.cells #[.int .i64 0, .int .u64 0, .int .u64 0, .slice none 0 0] 25) = w0 := ⟨_, rfl⟩
  have hb0 : Below w.heap.size w w0 := by rw [← hw0]; exact (Below.refl _ _).alloc (Nat.le_refl _) _
  have hk0 : Blk w0 w.heap.size 25 #[.int .i64 0, .int .u64 0, .int .u64 0, .slice none 0 0] := by rw [← hw0]; exact Blk.new _ _ _
  have hr0 := hr.below hb0
  have cs := sum_any (some ⟨b, off, none⟩) 1020 c (zs.take 1020) w0 (ht.below hb0 (Nat.le_refl _)) (by
    have := (sub_reads hr0 0 1020 (by omega)).more hb0.size
    simpa using this) (fun z h => hz z (List.mem_of_mem_take h)) (by omega)
  obtain ⟨r, hrr⟩ : ∃ r, Crc.more 0#32 (zs.take 1020) = r := ⟨_, rfl⟩
  rw [hrr] at cs
  have hE : sE smZ zs = if zs.drop 1020 ≠ bytesZ r then 13 else if zs.getD 0 0 = 0 ∨ 1001 < sN zs then 6 else if ∃ z ∈ sT zs, z ≠ 0 then 6 else 0 := by
    unfold sE smZ
    rw [if_neg (by rw [hl]; simp), hrr]
  have hd4 : (zs.drop 1020).take 4 = zs.drop 1020 := List.take_of_length_le (by simp [hl])
  have HE := Lib.hid hE
  have HD4 := Lib.hid hd4
  have HR := Lib.hid hr
  have HZ := Lib.hid hz
  have HL := Lib.hid hl
  have HT := Lib.hid ht
  have HB0 := Lib.hid hb0
  have HK0 := Lib.hid hk0
  have HW0 := Lib.hid hw0
  have hrl := r.isLt
  rw [← hw0] at cs
  clear hr hz hl ht hb0 hk0 hE hd4 hr0 hrr hw0
  go_enter Tryd.func26, Tryd.ntmps26
  go_wp2_with fail
  refine cs.mono ?_
  rintro e w' ⟨rfl, rfl⟩
  clear cs
  rw [HW0.out]
  go_wp2_with fail
  go_loopw [5, 16] (fun _ i wr => ∃ k : Nat, k ≤ 4 ∧ i = .int .i64 k ∧ Hid (∀ j, j < k → zs.getD (1020 + j) 0 = (bytesZ r).getD j 0) ∧ Below w0.heap.size w0 wr) (fun _ i _ => 4 - (intOf i).toNat)
  case atStart => exact ⟨0, by omega, rfl, Lib.hid (fun j hj => absurd hj (by omega)), Below.refl _ _⟩
  case round =>
    obtain ⟨k, hk, rfl, HP, hbel⟩ := hrel
    have hkb := HK0.out.below hbel HK0.out.lt
    have g0 : wr.cell? ⟨w.heap.size, 0, none⟩ = some (.int .i64 0) := hkb.cell 0
    have g1 : wr.cell? ⟨w.heap.size, 1, none⟩ = some (.int .u64 0) := hkb.cell 1
    have g2 : wr.cell? ⟨w.heap.size, 2, none⟩ = some (.int .u64 0) := hkb.cell 2
    have g3 : wr.cell? ⟨w.heap.size, 3, none⟩ = some (.slice none 0 0) := hkb.cell 3
    have f0 : ∀ i, wr.frozen? ⟨w.heap.size, i, none⟩ = false := hkb.frozen
    have hbw := HB0.out.trans (hbel.mono HB0.out.size)
    have HB := Lib.hid hbw
    have HBL := Lib.hid hbel
    have HKB := Lib.hid hkb
    clear hbel hbw hkb
    by_cases hlt : k < 4
    · obtain ⟨b', off', hA, hcell⟩ := getD_cell (cap := c) (HR.out.below HB.out) (k := 1020 + k) (by omega)
      injection hA with hA
      injection hA with hA hA2
      subst hA hA2
      have hsh := Lib.hid (bytesZ_shr r k hlt)
      have hzb := getD_nn HZ.out (1020 + k)
      have y0 : 0 ≤ (r.toNat : Int) / 2 ^ (8 * k) := Int.ediv_nonneg (by omega) (Int.pow_nonneg (by decide))
      have HNe := fun hne => tail_ne zs 1020 k r hlt (by rw [HL.out]; omega) hne
      rw [HD4.out] at HNe
      obtain ⟨z, hzk⟩ : ∃ z, zs.getD (1020 + k) 0 = z := ⟨_, rfl⟩
      rw [hzk] at hcell hzb HNe
      have HNE := Lib.hid HNe
      have HZk := Lib.hid hzk
      clear hzk HNe
      by_cases heq : z = (bytesZ r).getD k 0
      · have HQ := Lib.hid heq
        rw [hsh.out] at heq
        have ht : (z != ((r.toNat : Int) / 2 ^ (8 * k) % 256)) = false := by rw [heq]; simp
        clear heq
        go_wp2_with fail
        go_quiet (fail)
        go_wp2_with fail
        go_roundw
        case rel =>
          refine ⟨k + 1, by omega, by go_num, Lib.hid (fun j hj => ?_), below_drewN HBL.out _⟩
          rcases Nat.lt_or_ge j k with h | h
          · exact HP.out j h
          · obtain rfl : j = k := by omega
            rw [HZk.out, HQ.out]
        case measure => simp [intOf]; omega
      · have hbad : sE smZ zs = 13 := by rw [HE.out, if_pos (HNE.out heq)]
        have HBad := Lib.hid hbad
        have ht : (z != ((r.toNat : Int) / 2 ^ (8 * k) % 256)) = true := by rw [bne_iff_ne, ← hsh.out]; exact heq
        clear heq hbad
        go_wp2_with fail
        go_quiet (fail)
        obtain ⟨wq, hwq⟩ : ∃ wq, wr.drewN nq = wq := ⟨_, rfl⟩
        have hbq : Below w.heap.size w wq := by rw [← hwq]; exact below_drewN HB.out _
        have g0 : wq.cell? ⟨w.heap.size, 0, none⟩ = some (.int .i64 0) := by rw [← hwq]; exact g0
        have g1 : wq.cell? ⟨w.heap.size, 1, none⟩ = some (.int .u64 0) := by rw [← hwq]; exact g1
        have g2 : wq.cell? ⟨w.heap.size, 2, none⟩ = some (.int .u64 0) := by rw [← hwq]; exact g2
        have g3 : wq.cell? ⟨w.heap.size, 3, none⟩ = some (.slice none 0 0) := by rw [← hwq]; exact g3
        have f0 : ∀ i, wq.frozen? ⟨w.heap.size, i, none⟩ = false := by rw [← hwq]; exact f0
        have hkq : Blk wq w.heap.size 25 #[.int .i64 0, .int .u64 0, .int .u64 0, .slice none 0 0] := by rw [← hwq]; exact HKB.out.drewN _
        rw [hwq]
        obtain ⟨wz, hz, z0, z1, z2, z3, hbz, _⟩ := set4 hkq hbq (Nat.le_refl _) (.int .i64 0) (.int .u64 0) (.int .u64 0) (.slice none 0 0)
        have HBZ := Lib.hid hbz
        have HZ4 := Lib.hid hz
        clear hwq hbq hkq hbz hz
        go_wp2_with fail
        rw [HZ4.out]
        refine bodyPost_ret (by simp [results, Tryd.results26, go_sem, z0, z1, z2, z3]; try rfl) rfl ?_
        exact SGetC_bad (by decide) HBad.out HBZ.out
    · obtain rfl : k = 4 := by omega
      have hgood : zs.drop 1020 = bytesZ r := by rw [← HD4.out]; exact tail_eq zs 1020 r (by rw [HL.out]; omega) HP.out
      have hE := HE.out
      rw [if_neg (by rw [hgood]; simp)] at hE
      have hrw := HR.out.below HB.out
      have hsz := HB.out.size
      obtain ⟨n0, n1⟩ := sN_bd HZ.out
      obtain ⟨z0, z1⟩ := getD_nn HZ.out 0
      have cN := read_any (some ⟨b, off + 17, none⟩) 2 (c - 17) ((zs.drop 17).take 2) wr ((sub_reads hrw 17 2 (by omega)).more hsz) (mid_bytes HZ.out _ _) (by omega)
      rw [show num ((zs.drop 17).take 2) = sN zs from rfl] at cN
      obtain ⟨b', off', hA, hcell⟩ := getD_cell (cap := c) hrw (k := 0) (by omega)
      injection hA with hA
      injection hA with hA hA2
      subst hA hA2
      rw [Nat.add_zero] at hcell
      have hE2 := Lib.hid hE
      have HRW := Lib.hid hrw
      obtain ⟨m, hm⟩ := Int.eq_ofNat_of_zero_le n0
      have HM := Lib.hid hm
      rw [hm] at cN n1 hE
      obtain ⟨z, hzz⟩ : ∃ z, zs.getD 0 0 = z := ⟨_, rfl⟩
      rw [hzz] at hcell z0 z1 hE
      have HZZ := Lib.hid hzz
      clear HP hrw hgood hlt hm n0 hzz
      by_cases hbad : z = 0 ∨ 1001 < m
      · have he6 : sE smZ zs = 6 := by rw [hE, if_pos (by omega)]
        have HE6 := Lib.hid he6
        obtain ⟨wz, hz, y0, y1, y2, y3, hbz, _⟩ := set4 HKB.out HB.out (Nat.le_refl _) (.int .i64 0) (.int .u64 0) (.int .u64 0) (.slice none 0 0)
        have HBZ := Lib.hid hbz
        have HZ4 := Lib.hid hz
        clear hbz hz he6 hE
        by_cases hz0 : z = 0
        · subst hz0
          go_wp2_with fail
          refine cN.mono ?_
          rintro e w' ⟨rfl, rfl⟩
          go_wp2_with fail
          rw [HZ4.out]
          refine bodyPost_ret (by simp [results, Tryd.results26, go_sem, y0, y1, y2, y3]; try rfl) rfl ?_
          exact SGetC_bad (by decide) HE6.out HBZ.out
        · have hm1 : 1001 < m := by omega
          have hzf : (z == 0) = false := by rw [beq_eq_false_iff_ne]; exact hz0
          have hwr : IntKind.i64.wrap (m : Int) = (m : Int) := IntWalk.i64_in _ (by omega)
          have hgt : decide ((1001 : Int) < (m : Int)) = true := by simp; omega
          clear hz0 hm1 n1
          go_wp2_with fail
          refine cN.mono ?_
          rintro e w' ⟨rfl, rfl⟩
          go_wp2_with fail
          rw [HZ4.out]
          refine bodyPost_ret (by simp [results, Tryd.results26, go_sem, y0, y1, y2, y3]; try rfl) rfl ?_
          exact SGetC_bad (by decide) HE6.out HBZ.out
      · have hm1 : m ≤ 1001 := by omega
        have hz0 : ¬ z = 0 := by omega
        rw [if_neg (by omega)] at hE
        have HE3 := Lib.hid hE
        have hzf : (z == 0) = false := by rw [beq_eq_false_iff_ne]; exact hz0
        have hwr : IntKind.i64.wrap (m : Int) = (m : Int) := IntWalk.i64_in _ (by omega)
        have hgt : decide ((1001 : Int) < (m : Int)) = false := by simp; omega
        have HM1 := Lib.hid hm1
        have hsl := sub_reads HRW.out (19 + m) (1001 - m) (by omega)
        have hsT : (zs.drop (19 + m)).take (1001 - m) = sT zs := by unfold sT; rw [HM.out, Int.toNat_natCast]
        rw [hsT] at hsl
        have hTl : (sT zs).length = 1001 - m := by rw [← hsT]; simp [HL.out]; omega
        have HSL := Lib.hid hsl
        have HTL := Lib.hid hTl
        have HTB : Hid (∀ z ∈ sT zs, 0 ≤ z ∧ z < 256) := Lib.hid (by rw [← hsT]; exact mid_bytes HZ.out _ _)
        have h20 : (1020 : Nat) - (19 + m) = 1001 - m := by omega
        clear hz0 n1 hsl hsT hTl hE hbad
        go_wp2_with fail
        refine cN.mono ?_
        rintro e w' ⟨rfl, rfl⟩
        go_wp2_with fail
        go_loop [8, 50] (fun _ i => ∃ k : Nat, k ≤ 1001 - m ∧ i = .int .i64 k ∧ Hid (∀ j, j < k → (sT zs).getD j 0 = 0)) (fun _ i => 1001 - m - (intOf i).toNat)
        case atStart => exact ⟨0, Nat.zero_le _, rfl, Lib.hid (fun j hj => absurd hj (by omega))⟩
        case round =>
          obtain ⟨k, hk, rfl, HP⟩ := hrel
          by_cases hlt : k < 1001 - m
          · obtain ⟨b', off', hA, hcell⟩ := getD_cell (cap := c) HSL.out (k := k) hlt
            injection hA with hA
            injection hA with hA hA2
            subst hA hA2
            obtain ⟨y, hy⟩ : ∃ y, (sT zs).getD k 0 = y := ⟨_, rfl⟩
            rw [hy] at hcell
            have HY := Lib.hid hy
            clear hy
            by_cases hy0 : y = 0
            · subst hy0
              go_wp2_with fail
              go_round
              case rel =>
                refine ⟨k + 1, by omega, by go_num, Lib.hid (fun j hj => ?_)⟩
                rcases Nat.lt_or_ge j k with h | h
                · exact HP.out j h
                · obtain rfl : j = k := by omega
                  exact HY.out
              case measure => simp [intOf]; omega
            · have hyf : (y != 0) = true := by rw [bne_iff_ne]; exact hy0
              have he6 : sE smZ zs = 6 := by
                rw [HE3.out, if_pos]
                refine ⟨y, ?_, hy0⟩
                rw [← HY.out]
                simp only [List.getD]
                rw [List.getElem?_eq_getElem (by rw [HTL.out]; exact hlt)]
                exact List.getElem_mem _
              have HE6 := Lib.hid he6
              obtain ⟨wz, hz, y0, y1, y2, y3, hbz, _⟩ := set4 HKB.out HB.out (Nat.le_refl _) (.int .i64 0) (.int .u64 0) (.int .u64 0) (.slice none 0 0)
              have HBZ := Lib.hid hbz
              have HZ4 := Lib.hid hz
              clear hbz hz he6 hy0
              go_wp2_with fail
              rw [HZ4.out]
              refine bodyPost_ret (by simp [results, Tryd.results26, go_sem, y0, y1, y2, y3]; try rfl) rfl ?_
              exact SGetC_bad (by decide) HE6.out HBZ.out
          · obtain rfl : k = 1001 - m := by omega
            have hok : sE smZ zs = 0 := by
              rw [HE3.out, if_neg]
              rintro ⟨y, hy, hy0⟩
              obtain ⟨j, hj, rfl⟩ := List.getElem_of_mem hy
              apply hy0
              have := HP.out j (by rw [← HTL.out]; exact hj)
              simpa [List.getD, hj] using this
            have HOk := Lib.hid hok
            clear hok HP hlt hk
            have rA := (sub_reads HRW.out 1 8 (by omega)).more hsz
            have rB := (sub_reads HRW.out 9 8 (by omega)).more hsz
            have rV := (sub_reads HRW.out 19 m (by omega)).more hsz
            have cA := read_any (some ⟨b, off + 1, none⟩) 8 (c - 1) ((zs.drop 1).take 8) wr.drew rA.drew (mid_bytes HZ.out _ _) (by omega)
            have cB := read_any (some ⟨b, off + 9, none⟩) 8 (c - 9) ((zs.drop 9).take 8) wr.drew rB.drew (mid_bytes HZ.out _ _) (by omega)
            have cV := clone_any b (off + 19) m (c - 19) ((zs.drop 19).take m) wr.drew rV.drew (by omega)
            have hm19 : 19 + m - 19 = m := by omega
            have hVl : ((zs.drop 19).take m).length = m := by simp [HL.out]; omega
            have HVL := Lib.hid hVl
            obtain ⟨xa, hxa⟩ : ∃ xa, num ((zs.drop 1).take 8) = xa := ⟨_, rfl⟩
            obtain ⟨xb, hxb⟩ : ∃ xb, num ((zs.drop 9).take 8) = xb := ⟨_, rfl⟩
            obtain ⟨vs, hvs⟩ : ∃ vs, (zs.drop 19).take m = vs := ⟨_, rfl⟩
            rw [hxa] at cA
            rw [hxb] at cB
            rw [hvs] at cV
            have HXA := Lib.hid hxa
            have HXB := Lib.hid hxb
            have HVS := Lib.hid hvs
            clear rA rB rV hVl hxa hxb hvs cN
            go_wp2_with fail
            clear g0 g1 g2 g3 f0 hgt hzf hrl
            obtain ⟨b', off', u', hA, hbl, _, _⟩ := HRW.out.at_ (k := 0) (by omega)
            injection hA with hA
            injection hA with hA hA2
            subst hA hA2
            have hbne : ¬ b = w.heap.size := by omega
            have hbne' : ¬ w.heap.size = b := by omega
            have hbs : b < wr.heap.size := by omega
            have hw19 : IntKind.i64.wrap (19 + (m : Int)) = 19 + (m : Int) := IntWalk.i64_in _ (by omega)
            have hn19 : (0 : Int) ≤ 19 + (m : Int) := by omega
            have hwz : IntKind.i64.wrap z = z := IntWalk.i64_in _ (by omega)
            have ht19 : (19 + (m : Int)).toNat = 19 + m := by omega
            have hl19 : 19 + m ≤ c := by omega
            have hl20 : (19 : Nat) ≤ 19 + m := by omega
            have hc19 : ¬ c = 19 := by omega
            have hi20 : (19 : Int) ≤ 19 + (m : Int) := by omega
            have hc9 : ¬ c = 9 := by omega
            have hc1 : ¬ c = 1 := by omega
            have hi9 : (9 : Int) ≤ (c : Int) := by omega
            have hi17 : (17 : Int) ≤ (c : Int) := by omega
            have hn9 : 9 ≤ c := by omega
            have hn17 : 17 ≤ c := by omega
            have hi19 : 19 + (m : Int) ≤ (c : Int) := by omega
            go_region_with
              (first
                | (go_at_call 47; first | ((with_reducible refine cA.mono ?_); rintro e w2 ⟨rfl, rfl⟩) | ((with_reducible refine cB.mono ?_); rintro e w2 ⟨rfl, rfl⟩))
                | (go_at_call 48; (with_reducible refine cV.mono ?_); rintro e w5 ⟨A5, c5, rfl, hr5, hb5⟩; have hk5 := HKB.out.drew.below hb5 HKB.out.drew.lt; have kz : w5.cell? ⟨b, off, none⟩ = some (.int .u8 z) := (hb5.cell (p := ⟨b, off, none⟩) hbs).trans hcell; have k0 : w5.cell? ⟨w.heap.size, 0, none⟩ = some (.int .i64 0) := hk5.cell 0; have k1 : w5.cell? ⟨w.heap.size, 1, none⟩ = some (.int .u64 0) := hk5.cell 1; have k2 : w5.cell? ⟨w.heap.size, 2, none⟩ = some (.int .u64 0) := hk5.cell 2; have k3 : w5.cell? ⟨w.heap.size, 3, none⟩ = some (.slice none 0 0) := hk5.cell 3; have kf : ∀ i, w5.frozen? ⟨w.heap.size, i, none⟩ = false := hk5.frozen; have hbw5 := HB.out.drew.trans (hb5.mono hsz); have HBW5 := Lib.hid hbw5; have HK5 := Lib.hid hk5; have HR5 := Lib.hid hr5; clear hk5 hbw5 hr5 hb5))
            all_goals
              obtain ⟨wz, hz, y0, y1, y2, y3, hbz, hsz5⟩ := set4 HK5.out HBW5.out (Nat.le_refl _) (.int .i64 z) (.int .u64 xa) (.int .u64 xb) (.slice A5 m c5)
              have hrz : Reads wz wz.heap.size 1 A5 m (nums .u8 vs) := own_reads (HR5.out.kept hsz5 (.inr (fun he => by have h := (HR5.out.lt _ he).1; have h2 : wr.heap.size ≤ w.heap.size := h; have h3 := HKB.out.lt; omega)))
              have HBZ := Lib.hid hbz
              have HZ4 := Lib.hid hz
              have HRZ := Lib.hid hrz
              clear hbz hz hrz hsz5
              go_wp2_with fail
              rw [HZ4.out]
              refine bodyPost_ret (by simp [results, Tryd.results26, go_sem, y0, y1, y2, y3]; try rfl) rfl ?_
              have hok := HOk.out
              have eK : sK smZ zs = z := by unfold sK; rw [if_pos hok, HZZ.out]
              have eA : sA smZ zs = xa := by unfold sA; rw [if_pos hok, HXA.out]
              have eB : sB smZ zs = xb := by unfold sB; rw [if_pos hok, HXB.out]
              have eV : sV smZ zs = vs := by unfold sV; rw [if_pos hok, HM.out, Int.toNat_natCast, HVS.out]
              have eL : vs.length = m := by rw [← HVS.out]; exact HVL.out
              refine ⟨A5, c5, ?_, ?_, HBZ.out, by rw [eV, eL]; exact (own_bd HR5.out).1⟩
              · rw [eK, eA, eB, eV, eL, hok]
              · rw [eV, eL]; exact HRZ.out
end Go.Proofs.YtlohbkcedpkjaaaDoor
