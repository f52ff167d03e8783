import Derived.BigQuiet
import Derived.Deep.AppendLies
import Derived.Deep.DeepCutAuto
import Derived.Deep.Onto
import Derived.Deep.RegionHeld3
import Derived.Deep.RegionLaw
import Derived.Handy
import Derived.Laws.CopyOwn
import Derived.Lib.BufferMore
import Derived.Outline
import Derived.OwnWalk
import Derived.RangeFuncBox
import Derived.RangeFuncCalls
import Derived.RangeFuncLeaves
import Derived.RangeFuncOwn
import Derived.StillTailTactics
import Derived.TacticsIn
import Derived.Test.YtjdimgigbgafbaaDoorZLogReads2
/-
  What the law leans on, part 3: WSealGet, WSealR, WSealI, WCodeN, WLogA, WLogB, WLogC, WLogD, WLogE, Round, WFrA, WFrB, WLogF.
-/
namespace Go.Proofs.YtjdimgigbgafbaaDoor
open Go.RowKit
set_option maxRecDepth 100000
open Byts Seal
set_option linter.unusedVariables false
theorem splice_nums (k : IntKind) (zs bs : List Int) (off : Nat) : splice (nums k zs) off (nums k bs) = nums k (lay zs off bs) := by
  simp [splice, lay, nums]
set_option maxHeartbeats 1000000 in
theorem put_ok (k a b : Int) (A : Option Addr) (n c : Nat) (zs : List Int) (w : World) (ht : Tab w) (h1 : 1 ≤ k) (h2 : k ≤ 255) (ha : 0 ≤ a) (ha1 : a ≤ 18446744073709551615) (hb : 0 ≤ b) (hb1 : b ≤ 18446744073709551615) (hn : n ≤ 1001)
    (hr : Reads w w.heap.size 1 A n (nums .u8 zs)) (hz : ∀ z ∈ zs, 0 ≤ z ∧ z < 256) :
    Calls Tryd.prog 63 #[.agg #[.int .i64 k, .int .u64 a, .int .u64 b, .slice A n c]] w fun e w' => e = .returned (.tuple #[.slice (some ⟨w.heap.size + 1, 0, none⟩) 1024 1024, .int .i64 0]) ∧
      Blk w' (w.heap.size + 1) 5 (nums .u8 (sec k a b zs (bytesZ (Crc.more 0#32 (hd k a b zs))))).toArray ∧ Below w.heap.size w w' := by
  have hl : zs.length = n := by have := hr.1; simpa [nums] using this
  have HR := Lib.hid hr
  have HZ := Lib.hid hz
  have HL := Lib.hid hl
  have HT := Lib.hid ht
  clear hr hz hl ht
  have hmk : ∀ w, (Instr.makeSlice 39 (.int .i64 1024) (.int .i64 1024)).run Tryd.prog w = .ok (.slice (some ⟨w.heap.size, 0, none⟩) 1024 1024) (w.alloc (.cells (nums .u8 (List.replicate 1024 0)).toArray 5)) := make_bytes 1024 (by decide)
  obtain ⟨l0, hl0⟩ : ∃ l0, List.replicate 1024 (0 : Int) = l0 := ⟨_, rfl⟩
  rw [hl0] at hmk
  have HL0 := Lib.hid hl0
  clear hl0
  go_enter Tryd.func63, Tryd.ntmps63
  go_upto_region 6 with fail
  go_cut [1, 4] (fun p s wx => p = .pointer (some ⟨w.heap.size, 0, none⟩) ∧ s = .slice (some ⟨w.heap.size + 1, 0, none⟩) 1024 1024 ∧ Blk wx w.heap.size 75 #[.int .i64 k, .int .u64 a, .int .u64 b, .slice A n c] ∧ Blk wx (w.heap.size + 1) 5 (nums .u8 (lay1 k)).toArray ∧ Below w.heap.size w wx ∧ wx.heap.size = w.heap.size + 2)
  case first =>
    obtain ⟨wz, hwz⟩ : ∃ wz, (w.alloc (.cells #[.int .i64 k, .int .u64 a, .int .u64 b, .slice A n c] 75)).alloc (.cells (nums .u8 l0).toArray 5) = wz := ⟨_, rfl⟩
    have b1 : Blk wz w.heap.size 75 #[.int .i64 k, .int .u64 a, .int .u64 b, .slice A n c] := by rw [← hwz]; exact (Blk.new _ _ _).alloc _
    have b2 : Blk wz (w.heap.size + 1) 5 (nums .u8 l0).toArray := by
      rw [← hwz]
      have := Blk.new (w.alloc (.cells #[.int .i64 k, .int .u64 a, .int .u64 b, .slice A n c] 75)) 5 (nums .u8 l0).toArray
      simpa using this
    have b3 : Below w.heap.size w wz := by rw [← hwz]; exact ((Below.refl _ _).alloc (Nat.le_refl _) _).alloc (by simp) _
    have b4 : wz.heap.size = w.heap.size + 2 := by rw [← hwz]; simp
    rw [hwz]
    clear hwz hmk
    have h00 : l0[0]? = some 0 := by rw [← HL0.out]; rfl
    have c1 : wz.cell? ⟨w.heap.size, 0, none⟩ = some (.int .i64 k) := b1.cell 0
    have c2 : wz.cell? ⟨w.heap.size + 1, 0, none⟩ = some (.int .u8 0) := by rw [b2.cell, List.getElem?_toArray]; exact nums_get h00
    have c3 : wz.frozen? ⟨w.heap.size + 1, 0, none⟩ = false := b2.frozen 0
    have b5 := b2.set_ 0 (.int .u8 k)
    rw [nums_setArr, ← HL0.out] at b5
    have B5 := Lib.hid b5
    have B4 := Lib.hid b4
    have B3 := Lib.hid b3
    have B1 := Lib.hid b1
    clear b1 b2 b3 b4 b5 h00
    go_wp2_with fail
    go_meet
    exact ⟨rfl, rfl, B1.out.far (by simp) _, B5.out, B3.out.setCell (by simp) _, by simp [World.setCell, B4.out]⟩
  case rest =>
    obtain ⟨rfl, rfl, b1, b2, b3, b4⟩ := hcut
    have c1 : wc.cell? ⟨w.heap.size, 1, none⟩ = some (.int .u64 a) := b1.cell 1
    have B1 := Lib.hid b1
    have B2 := Lib.hid b2
    have B3 := Lib.hid b3
    have B4 := Lib.hid b4
    clear b1 b2 b3 b4 hmk
    go_wp2_with fail
    go_still_tail 4, (by kernel_rfl)
    go_wp2_with fail
    refine (number_any _ _ _ _ (lay1 k) a _ B2.out.drew (by rw [lay1_length]; omega) ha ha1 (by rw [lay1_length]; omega) (by omega) (by omega)).mono ?_
    rintro e w2 ⟨rfl, b2, hg, hs⟩
    have b1 := B1.out.drew.grown hg (by simp)
    have bb2 := B3.out.drew.grown hg (show w.heap.size ≤ wc.heap.size by have := B4.out; omega) (by intro k hk; injection hk with hk; omega)
    have s2 : w2.heap.size = w.heap.size + 2 := by rw [hs]; exact B4.out
    have c2 : w2.cell? ⟨w.heap.size, 2, none⟩ = some (.int .u64 b) := b1.cell 2
    clear c1 hg hs B1 B2 B3 B4
    have B1 := Lib.hid b1
    have B2 := Lib.hid b2
    have B3 := Lib.hid bb2
    have B4 := Lib.hid s2
    clear b1 b2 bb2 s2
    go_wp2_with fail
    go_still_tail 4, (by kernel_rfl)
    go_wp2_with fail
    refine (number_any _ _ _ _ (lay2 k a) b _ B2.out.drew (by rw [lay2_length]; omega) hb hb1 (by rw [lay2_length]; omega) (by omega) (by omega)).mono ?_
    rintro e w3 ⟨rfl, b2, hg, hs⟩
    have b1 := B1.out.drew.grown hg (by simp)
    have bb2 := B3.out.drew.grown hg (show w.heap.size ≤ w2.heap.size by have := B4.out; omega) (by intro k hk; injection hk with hk; omega)
    have s2 : w3.heap.size = w.heap.size + 2 := by rw [hs]; exact B4.out
    have c3 : w3.cell? ⟨w.heap.size, 3, none⟩ = some (.slice A n c) := b1.cell 3
    clear c2 hg hs B1 B2 B3 B4
    have B1 := Lib.hid b1
    have B2 := Lib.hid b2
    have B3 := Lib.hid bb2
    have B4 := Lib.hid s2
    clear b1 b2 bb2 s2
    go_wp2_with fail
    go_still_tail 6, (by kernel_rfl)
    go_wp2_with fail
    refine (number_any _ _ _ _ (lay3 k a b) (n : Int) _ B2.out.drew (by rw [lay3_length]; omega) (by omega) (by omega) (by rw [lay3_length]; omega) (by omega) (by omega)).mono ?_
    rintro e w4 ⟨rfl, b2, hg, hs⟩
    have b1 := B1.out.drew.grown hg (by simp)
    have bb2 := B3.out.drew.grown hg (show w.heap.size ≤ w3.heap.size by have := B4.out; omega) (by intro k hk; injection hk with hk; omega)
    have s2 : w4.heap.size = w.heap.size + 2 := by rw [hs]; exact B4.out
    have c4 : w4.cell? ⟨w.heap.size, 3, none⟩ = some (.slice A n c) := b1.cell 3
    clear c3 hg hs B1 B2 B3 B4
    have B1 := Lib.hid b1
    have B2 := Lib.hid b2
    have B3 := Lib.hid bb2
    have B4 := Lib.hid s2
    clear b1 b2 bb2 s2
    go_wp2_with fail
    go_still_tail 4, (by kernel_rfl)
    go_wp2_with (with_reducible refine wpList_copy_splice rfl (.tmp 43) (.tmp 45) 39 39 rfl 5 Tryd.underlying39 (by kernel_rfl) (some ⟨w.heap.size + 1, 19, none⟩) A 1005 1005 n c rfl rfl (w.heap.size + 1) 19 (nums .u8 (lay4 k a b n)) 5 ?g1 (nums .u8 zs) ?g2 ?g3 ?g4 ?g5 w.heap.size w ?g6 ?g7 ?_)
    case g1 => exact B2.out
    case g2 => rw [show Nat.min n 1005 = n from Nat.min_eq_left (by omega)]; simp [nums, HL.out]
    case g3 =>
      intro hpos
      obtain ⟨ad, hA, _, hc⟩ := (HR.out.below B3.out).2 (by simpa [nums, HL.out] using hpos)
      first | exact ⟨ad, hA, hc⟩ | exact ⟨rfl, ad, hA, hc⟩
    case g4 => simp [nums, lay4_length, HL.out]; omega
    case g5 => exact nums_one _ _
    case g6 => exact B3.out.drew
    case g7 => omega
    intro w5 h5 hb5
    rw [splice_nums] at h5
    have hzl : zs.length ≤ 1001 := by rw [HL.out]; exact hn
    have b5 : Blk w5 (w.heap.size + 1) 5 (nums .u8 (lay5 k a b zs)).toArray := by
      have := h5.out
      rw [← HL.out] at this
      exact this
    have hrs := b5.reads 0 1020 (by rw [lay5_length k a b zs hzl]; omega)
    rw [List.drop_zero, lay5_take k a b zs hzl] at hrs
    have cs := sum_any (some ⟨w.heap.size + 1, 0, none⟩) 1020 1024 (hd k a b zs) w5 (HT.out.below hb5 (Nat.le_refl _)) hrs (hd_bytes k a b zs (by omega) HZ.out) (by omega)
    obtain ⟨r, hr⟩ : ∃ r, Crc.more 0#32 (hd k a b zs) = r := ⟨_, rfl⟩
    rw [hr] at cs
    have HRR := Lib.hid hr
    have B5 := Lib.hid b5
    have HB5 := Lib.hid hb5
    have hrl := r.isLt
    clear hr b5 hb5 hrs h5 B1 B2 B3 B4 c4
    go_wp2_with fail
    refine cs.mono ?_
    rintro e w' ⟨rfl, rfl⟩
    go_wp2_with fail
    go_loopw [6, 50] (fun _ i wr => ∃ j : Nat, j ≤ 4 ∧ i = .int .i64 j ∧ Blk wr (w.heap.size + 1) 5 (nums .u8 (lay (lay5 k a b zs) 1020 ((bytesZ r).take j))).toArray ∧ Below w.heap.size w wr) (fun _ i _ => 4 - (intOf i).toNat)
    case atStart => exact ⟨0, by omega, rfl, by rw [List.take_zero, lay_nil]; exact B5.out, HB5.out⟩
    case round =>
      obtain ⟨j, hj, rfl, hblk, hbel⟩ := hrel
      by_cases hlt : j < 4
      · have e1 := lay_at (zs := lay5 k a b zs) (bs := bytesZ r) (off := 1020) (k := j) hlt (by rw [lay5_length k a b zs hzl]; exact Nat.le_refl 1024)
        have e2 := lay_set (zs := lay5 k a b zs) (bs := bytesZ r) (off := 1020) (k := j) hlt (by rw [lay5_length k a b zs hzl]; exact Nat.le_refl 1024)
        rw [bytesZ_shr r j hlt] at e2
        have hjl : 1020 + j < (lay5 k a b zs).length := by rw [lay5_length k a b zs hzl]; omega
        have hc : wr.cell? ⟨w.heap.size + 1, 1020 + j, none⟩ = some (.int .u8 ((lay5 k a b zs)[1020 + j])) := by
          rw [hblk.cell, List.getElem?_toArray]
          exact nums_get (by rw [e1, List.getElem?_eq_getElem hjl])
        generalize (lay5 k a b zs)[1020 + j] = old at hc
        have hf : wr.frozen? ⟨w.heap.size + 1, 1020 + j, none⟩ = false := hblk.frozen _
        have hst := hblk.set_ (1020 + j) (.int .u8 ((r.toNat : Int) / 2 ^ (8 * j) % 256))
        rw [nums_setArr, e2] at hst
        have HS := Lib.hid hst
        have HG := Lib.hid (hbel.setCell (p := ⟨w.heap.size + 1, 1020 + j, none⟩) (by simp) (.int .u8 ((r.toNat : Int) / 2 ^ (8 * j) % 256)))
        clear e1 e2 hst hblk hbel hjl
        go_wp2_with fail
        go_roundw
        case rel => exact ⟨j + 1, by omega, by go_num, HS.out, HG.out⟩
        case measure => simp [intOf]; omega
      · obtain rfl : j = 4 := by omega
        rw [List.take_of_length_le (by exact Nat.le_refl _), lay6_is k a b zs (bytesZ r) hzl rfl] at hblk
        have HS := Lib.hid hblk
        have HG := Lib.hid hbel
        clear hblk hbel
        go_wp2_with fail
        go_ret2
        exact ⟨rfl, by rw [HRR.out]; exact HS.out, HG.out⟩
end Go.Proofs.YtjdimgigbgafbaaDoor
namespace Go.Proofs.YtjdimgigbgafbaaDoor
open Go.RowKit
set_option maxRecDepth 100000
open Byts Seal
open Fram (getD_nn)
set_option linter.unusedVariables false
theorem clone_any (b off n c : Nat) (zs : List Int) (w : World) (hr : Reads w w.heap.size 1 (some ⟨b, off, none⟩) n (nums .u8 zs)) (hn : n ≤ 140737488355328) :
    Calls Tryd.prog 67 #[.slice (some ⟨b, off, none⟩) n c] w fun e w' => ∃ A' c', e = .returned (.slice A' n c') ∧ w'.ownsRow w.heap.size 5 1 (.slice A' n c') n (nums .u8 zs) ∧ Below w.heap.size w w' := by
  have HR := Lib.hid hr
  clear hr
  go_enter Tryd.func67, Tryd.ntmps67
  have hnil := fun W => Lib.run_eql_slice_some_nil (P := Tryd.prog) W (⟨b, off, none⟩ : Addr) n c Tryd.underlying39
  go_wp2_with (at_builtin; refine wpl_bytes rfl (.tmp 5) (.tmp 6) rfl w.heap.size _ 0 [] rfl ?o1 w.heap.size (some ⟨b, off, none⟩) n c zs rfl ?r1 ?c1 ?c2 ?_)
  case o1 => exact own_empty _ _ _ _ rfl (Nat.le_refl _)
  case r1 => exact HR.out.alloc (Nat.le_refl _) _
  case c1 => omega
  case c2 => simp
  intro A1 c1 w1 hown1 hgr1 hb1 hor1
  try simp only [Nat.zero_add, List.nil_append] at hown1
  have HO := Lib.hid hown1
  have HB := Lib.hid (((Below.refl _ _).alloc (Nat.le_refl _) _).trans hb1 : Below w.heap.size w w1)
  clear hgr1 hor1 hb1 hown1
  go_wp2
  go_ret
  have ho := HO.out
  simp only at ho ⊢
  exact ⟨A1, c1, rfl, ho, HB.out⟩
end Go.Proofs.YtjdimgigbgafbaaDoor
namespace Go.Proofs.YtjdimgigbgafbaaDoor
open Go.RowKit
open Byts Seal
open Fram (getD_nn)
set_option linter.unusedVariables false
theorem sub_reads {w : World} {b off n : Nat} {zs : List Int} {B : Nat} (hr : Reads w B 1 (some ⟨b, off, none⟩) n (nums .u8 zs)) (i m : Nat) (h : i + m ≤ n) : Reads w B 1 (some ⟨b, off + i, none⟩) m (nums .u8 ((zs.drop i).take m)) := by
  have hl : zs.length = n := by have := hr.1; simpa [nums] using this
  refine ⟨by simp [nums]; omega, fun hpos => ?_⟩
  have hlen : (nums .u8 ((zs.drop i).take m)).length = m := by simp [nums]; omega
  have hm : 0 < m := by first | exact hpos | (rw [hlen] at hpos; exact hpos)
  obtain ⟨b', off', u, hA, hB, _, _⟩ := hr.at_ (k := 0) (by omega)
  injection hA with hA
  injection hA with hA hA2
  subst hA hA2
  refine ⟨_, rfl, hB, fun j u hu => ?_⟩
  have hj : j < m := by
    have := (List.getElem?_eq_some_iff.1 hu).1
    omega
  obtain ⟨b', off', u', hA, _, hu', hc⟩ := hr.at_ (k := i + j) (by omega)
  injection hA with hA
  injection hA with hA hA2
  subst hA hA2
  have e : (⟨b, off + i, none⟩ : Addr).add j = ⟨b, off + (i + j), none⟩ := by unfold Addr.add; split <;> simp_all <;> omega
  rw [e, hc, ← hu', ← hu]
  simp only [nums, List.getElem?_map, List.getElem?_take, if_pos hj, List.getElem?_drop]
def SGetF (zs : List Int) (w : World) (e : Ending) (w' : World) : Prop :=
  ∃ A c, e = .returned (.tuple #[.agg #[.int .i64 (sK smZ zs), .int .u64 (sA smZ zs), .int .u64 (sB smZ zs), .slice A (sV smZ zs).length c], .int .i64 (sE smZ zs)]) ∧ Reads w' w'.heap.size 1 A (sV smZ zs).length (nums .u8 (sV smZ zs)) ∧ Below w.heap.size w w' ∧ (sV smZ zs).length ≤ c ∧ ∀ g, Value.ownBlock (.slice A (sV smZ zs).length c) = some g → w.heap.size ≤ g
theorem SGetF_bad {zs : List Int} {w w' : World} {c : Int} (hc : c ≠ 0) (he : sE smZ zs = c) (hb : Below w.heap.size w w') : SGetF zs w (.returned (.tuple #[.agg #[.int .i64 0, .int .u64 0, .int .u64 0, .slice none 0 0], .int .i64 c])) w' := by
  have e1 : sV smZ zs = [] := by unfold sV; rw [if_neg (by rw [he]; exact hc)]
  have e2 : sK smZ zs = 0 := by unfold sK; rw [if_neg (by rw [he]; exact hc)]
  have e3 : sA smZ zs = 0 := by unfold sA; rw [if_neg (by rw [he]; exact hc)]
  have e4 : sB smZ zs = 0 := by unfold sB; rw [if_neg (by rw [he]; exact hc)]
  refine ⟨none, 0, ?_, ?_, hb, by rw [e1]; exact Nat.le_refl _, fun g hg => by cases hg⟩
  · rw [e1, e2, e3, e4, he]; rfl
  · rw [e1]; exact Reads.none_
theorem set4 {w0 w : World} {g t B : Nat} {x0 x1 x2 x3 : Value} (h : Blk w g t #[x0, x1, x2, x3]) (hb : Below B w0 w) (hg : B ≤ g) (a b c d : Value) :
    ∃ wz, (((w.setCell ⟨g, 0, none⟩ a).setCell ⟨g, 1, none⟩ b).setCell ⟨g, 2, none⟩ c).setCell ⟨g, 3, none⟩ d = wz ∧
      wz.cell? ⟨g, 0, none⟩ = some a ∧ wz.cell? ⟨g, 1, none⟩ = some b ∧ wz.cell? ⟨g, 2, none⟩ = some c ∧ wz.cell? ⟨g, 3, none⟩ = some d ∧ Below B w0 wz ∧ w.grownBy wz (some g) := by
  have hz := (((h.set_ 0 a).set_ 1 b).set_ 2 c).set_ 3 d
  have o1 := only_setCell (World.grownBy.refl w (some g)) (p := ⟨g, 0, none⟩) (.inl rfl) a
  have o2 := only_setCell o1 (p := ⟨g, 1, none⟩) (.inl rfl) b
  have o3 := only_setCell o2 (p := ⟨g, 2, none⟩) (.inl rfl) c
  have o4 := only_setCell o3 (p := ⟨g, 3, none⟩) (.inl rfl) d
  exact ⟨_, rfl, hz.cell 0, hz.cell 1, hz.cell 2, hz.cell 3, (((hb.setCell hg _).setCell hg _).setCell hg _).setCell hg _, o4⟩
set_option maxRecDepth 100000 in
set_option maxHeartbeats 6000000 in
theorem sget_mainF (A : Option Addr) (c : Nat) (zs : List Int) (w : World) (ht : Tab w) (hr : Reads w w.heap.size 1 A 1024 (nums .u8 zs)) (hz : ∀ z ∈ zs, 0 ≤ z ∧ z < 256) (hnc : 1024 ≤ c) (hc0 : c ≤ 9223372036854775807) :
    Calls Tryd.prog 57 #[.slice A 1024 c] w (SGetF zs w) := by
  have hl : zs.length = 1024 := by have := hr.1; simpa [nums] using this
  obtain ⟨b, off, u0, rfl, hbl, h8, h9⟩ := hr.at_ (k := 0) (by omega)
  clear h8 h9 hbl u0
  obtain ⟨w0, hw0⟩ : ∃ w0, w.alloc (.cells #[.int .i64 0, .int .u64 0, .int .u64 0, .slice none 0 0] 75) = w0 := ⟨_, rfl⟩
  have hb0 : Below w.heap.size w w0 := by rw [← hw0]; exact (Below.refl _ _).alloc (Nat.le_refl _) _
  have hk0 : Blk w0 w.heap.size 75 #[.int .i64 0, .int .u64 0, .int .u64 0, .slice none 0 0] := by rw [← hw0]; exact Blk.new _ _ _
  have hr0 := hr.below hb0
  have cs := sum_any (some ⟨b, off, none⟩) 1020 c (zs.take 1020) w0 (ht.below hb0 (Nat.le_refl _)) (by
    have := (sub_reads hr0 0 1020 (by omega)).more hb0.size
    simpa using this) (fun z h => hz z (List.mem_of_mem_take h)) (by omega)
  obtain ⟨r, hrr⟩ : ∃ r, Crc.more 0#32 (zs.take 1020) = r := ⟨_, rfl⟩
  rw [hrr] at cs
  have hE : sE smZ zs = if zs.drop 1020 ≠ bytesZ r then 13 else if zs.getD 0 0 = 0 ∨ 1001 < sN zs then 6 else if ∃ z ∈ sT zs, z ≠ 0 then 6 else 0 := by
    unfold sE smZ
    rw [if_neg (by rw [hl]; simp), hrr]
  have hd4 : (zs.drop 1020).take 4 = zs.drop 1020 := List.take_of_length_le (by simp [hl])
  have HE := Lib.hid hE
  have HD4 := Lib.hid hd4
  have HR := Lib.hid hr
  have HZ := Lib.hid hz
  have HL := Lib.hid hl
  have HT := Lib.hid ht
  have HB0 := Lib.hid hb0
  have HK0 := Lib.hid hk0
  have HW0 := Lib.hid hw0
  have hrl := r.isLt
  rw [← hw0] at cs
  clear hr hz hl ht hb0 hk0 hE hd4 hr0 hrr hw0
  go_enter Tryd.func57, Tryd.ntmps57
  go_wp2_with fail
  refine cs.mono ?_
  rintro e w' ⟨rfl, rfl⟩
  clear cs
  rw [HW0.out]
  go_wp2_with fail
  go_loopw [5, 16] (fun _ i wr => ∃ k : Nat, k ≤ 4 ∧ i = .int .i64 k ∧ Hid (∀ j, j < k → zs.getD (1020 + j) 0 = (bytesZ r).getD j 0) ∧ Below w0.heap.size w0 wr) (fun _ i _ => 4 - (intOf i).toNat)
  case atStart => exact ⟨0, by omega, rfl, Lib.hid (fun j hj => absurd hj (by omega)), Below.refl _ _⟩
  case round =>
    obtain ⟨k, hk, rfl, HP, hbel⟩ := hrel
    have hkb := HK0.out.below hbel HK0.out.lt
    have g0 : wr.cell? ⟨w.heap.size, 0, none⟩ = some (.int .i64 0) := hkb.cell 0
    have g1 : wr.cell? ⟨w.heap.size, 1, none⟩ = some (.int .u64 0) := hkb.cell 1
    have g2 : wr.cell? ⟨w.heap.size, 2, none⟩ = some (.int .u64 0) := hkb.cell 2
    have g3 : wr.cell? ⟨w.heap.size, 3, none⟩ = some (.slice none 0 0) := hkb.cell 3
    have f0 : ∀ i, wr.frozen? ⟨w.heap.size, i, none⟩ = false := hkb.frozen
    have hbw := HB0.out.trans (hbel.mono HB0.out.size)
    have HB := Lib.hid hbw
    have HBL := Lib.hid hbel
    have HKB := Lib.hid hkb
    clear hbel hbw hkb
    by_cases hlt : k < 4
    · obtain ⟨b', off', hA, hcell⟩ := getD_cell (cap := c) (HR.out.below HB.out) (k := 1020 + k) (by omega)
      injection hA with hA
      injection hA with hA hA2
      subst hA hA2
      have hsh := Lib.hid (bytesZ_shr r k hlt)
      have hzb := getD_nn HZ.out (1020 + k)
      have y0 : 0 ≤ (r.toNat : Int) / 2 ^ (8 * k) := Int.ediv_nonneg (by omega) (Int.pow_nonneg (by decide))
      have HNe := fun hne => tail_ne zs 1020 k r hlt (by rw [HL.out]; omega) hne
      rw [HD4.out] at HNe
      obtain ⟨z, hzk⟩ : ∃ z, zs.getD (1020 + k) 0 = z := ⟨_, rfl⟩
      rw [hzk] at hcell hzb HNe
      have HNE := Lib.hid HNe
      have HZk := Lib.hid hzk
      clear hzk HNe
      by_cases heq : z = (bytesZ r).getD k 0
      · have HQ := Lib.hid heq
        rw [hsh.out] at heq
        have ht : (z != ((r.toNat : Int) / 2 ^ (8 * k) % 256)) = false := by rw [heq]; simp
        clear heq
        go_wp2_with fail
        go_quiet (fail)
        go_wp2_with fail
        go_roundw
        case rel =>
          refine ⟨k + 1, by omega, by go_num, Lib.hid (fun j hj => ?_), below_drewN HBL.out _⟩
          rcases Nat.lt_or_ge j k with h | h
          · exact HP.out j h
          · obtain rfl : j = k := by omega
            rw [HZk.out, HQ.out]
        case measure => simp [intOf]; omega
      · have hbad : sE smZ zs = 13 := by rw [HE.out, if_pos (HNE.out heq)]
        have HBad := Lib.hid hbad
        have ht : (z != ((r.toNat : Int) / 2 ^ (8 * k) % 256)) = true := by rw [bne_iff_ne, ← hsh.out]; exact heq
        clear heq hbad
        go_wp2_with fail
        go_quiet (fail)
        obtain ⟨wq, hwq⟩ : ∃ wq, wr.drewN nq = wq := ⟨_, rfl⟩
        have hbq : Below w.heap.size w wq := by rw [← hwq]; exact below_drewN HB.out _
        have g0 : wq.cell? ⟨w.heap.size, 0, none⟩ = some (.int .i64 0) := by rw [← hwq]; exact g0
        have g1 : wq.cell? ⟨w.heap.size, 1, none⟩ = some (.int .u64 0) := by rw [← hwq]; exact g1
        have g2 : wq.cell? ⟨w.heap.size, 2, none⟩ = some (.int .u64 0) := by rw [← hwq]; exact g2
        have g3 : wq.cell? ⟨w.heap.size, 3, none⟩ = some (.slice none 0 0) := by rw [← hwq]; exact g3
        have f0 : ∀ i, wq.frozen? ⟨w.heap.size, i, none⟩ = false := by rw [← hwq]; exact f0
        have hkq : Blk wq w.heap.size 75 #[.int .i64 0, .int .u64 0, .int .u64 0, .slice none 0 0] := by rw [← hwq]; exact HKB.out.drewN _
        rw [hwq]
        obtain ⟨wz, hz, z0, z1, z2, z3, hbz, _⟩ := set4 hkq hbq (Nat.le_refl _) (.int .i64 0) (.int .u64 0) (.int .u64 0) (.slice none 0 0)
        have HBZ := Lib.hid hbz
        have HZ4 := Lib.hid hz
        clear hwq hbq hkq hbz hz
        go_wp2_with fail
        rw [HZ4.out]
        refine bodyPost_ret (by simp [results, Tryd.results57, go_sem, z0, z1, z2, z3]; try rfl) rfl ?_
        exact SGetF_bad (by decide) HBad.out HBZ.out
    · obtain rfl : k = 4 := by omega
      have hgood : zs.drop 1020 = bytesZ r := by rw [← HD4.out]; exact tail_eq zs 1020 r (by rw [HL.out]; omega) HP.out
      have hE := HE.out
      rw [if_neg (by rw [hgood]; simp)] at hE
      have hrw := HR.out.below HB.out
      have hsz := HB.out.size
      obtain ⟨n0, n1⟩ := sN_bd HZ.out
      obtain ⟨z0, z1⟩ := getD_nn HZ.out 0
      have cN := read_any (some ⟨b, off + 17, none⟩) 2 (c - 17) ((zs.drop 17).take 2) wr ((sub_reads hrw 17 2 (by omega)).more hsz) (mid_bytes HZ.out _ _) (by omega)
      rw [show num ((zs.drop 17).take 2) = sN zs from rfl] at cN
      obtain ⟨b', off', hA, hcell⟩ := getD_cell (cap := c) hrw (k := 0) (by omega)
      injection hA with hA
      injection hA with hA hA2
      subst hA hA2
      rw [Nat.add_zero] at hcell
      have hE2 := Lib.hid hE
      have HRW := Lib.hid hrw
      obtain ⟨m, hm⟩ := Int.eq_ofNat_of_zero_le n0
      have HM := Lib.hid hm
      rw [hm] at cN n1 hE
      obtain ⟨z, hzz⟩ : ∃ z, zs.getD 0 0 = z := ⟨_, rfl⟩
      rw [hzz] at hcell z0 z1 hE
      have HZZ := Lib.hid hzz
      clear HP hrw hgood hlt hm n0 hzz
      by_cases hbad : z = 0 ∨ 1001 < m
      · have he6 : sE smZ zs = 6 := by rw [hE, if_pos (by omega)]
        have HE6 := Lib.hid he6
        obtain ⟨wz, hz, y0, y1, y2, y3, hbz, _⟩ := set4 HKB.out HB.out (Nat.le_refl _) (.int .i64 0) (.int .u64 0) (.int .u64 0) (.slice none 0 0)
        have HBZ := Lib.hid hbz
        have HZ4 := Lib.hid hz
        clear hbz hz he6 hE
        by_cases hz0 : z = 0
        · subst hz0
          go_wp2_with fail
          refine cN.mono ?_
          rintro e w' ⟨rfl, rfl⟩
          go_wp2_with fail
          rw [HZ4.out]
          refine bodyPost_ret (by simp [results, Tryd.results57, go_sem, y0, y1, y2, y3]; try rfl) rfl ?_
          exact SGetF_bad (by decide) HE6.out HBZ.out
        · have hm1 : 1001 < m := by omega
          have hzf : (z == 0) = false := by rw [beq_eq_false_iff_ne]; exact hz0
          have hwr : IntKind.i64.wrap (m : Int) = (m : Int) := IntWalk.i64_in _ (by omega)
          have hgt : decide ((1001 : Int) < (m : Int)) = true := by simp; omega
          clear hz0 hm1 n1
          go_wp2_with fail
          refine cN.mono ?_
          rintro e w' ⟨rfl, rfl⟩
          go_wp2_with fail
          rw [HZ4.out]
          refine bodyPost_ret (by simp [results, Tryd.results57, go_sem, y0, y1, y2, y3]; try rfl) rfl ?_
          exact SGetF_bad (by decide) HE6.out HBZ.out
      · have hm1 : m ≤ 1001 := by omega
        have hz0 : ¬ z = 0 := by omega
        rw [if_neg (by omega)] at hE
        have HE3 := Lib.hid hE
        have hzf : (z == 0) = false := by rw [beq_eq_false_iff_ne]; exact hz0
        have hwr : IntKind.i64.wrap (m : Int) = (m : Int) := IntWalk.i64_in _ (by omega)
        have hgt : decide ((1001 : Int) < (m : Int)) = false := by simp; omega
        have HM1 := Lib.hid hm1
        have hsl := sub_reads HRW.out (19 + m) (1001 - m) (by omega)
        have hsT : (zs.drop (19 + m)).take (1001 - m) = sT zs := by unfold sT; rw [HM.out, Int.toNat_natCast]
        rw [hsT] at hsl
        have hTl : (sT zs).length = 1001 - m := by rw [← hsT]; simp [HL.out]; omega
        have HSL := Lib.hid hsl
        have HTL := Lib.hid hTl
        have HTB : Hid (∀ z ∈ sT zs, 0 ≤ z ∧ z < 256) := Lib.hid (by rw [← hsT]; exact mid_bytes HZ.out _ _)
        have h20 : (1020 : Nat) - (19 + m) = 1001 - m := by omega
        clear hz0 n1 hsl hsT hTl hE hbad
        go_wp2_with fail
        refine cN.mono ?_
        rintro e w' ⟨rfl, rfl⟩
        go_wp2_with fail
        go_loop [8, 50] (fun _ i => ∃ k : Nat, k ≤ 1001 - m ∧ i = .int .i64 k ∧ Hid (∀ j, j < k → (sT zs).getD j 0 = 0)) (fun _ i => 1001 - m - (intOf i).toNat)
        case atStart => exact ⟨0, Nat.zero_le _, rfl, Lib.hid (fun j hj => absurd hj (by omega))⟩
        case round =>
          obtain ⟨k, hk, rfl, HP⟩ := hrel
          by_cases hlt : k < 1001 - m
          · obtain ⟨b', off', hA, hcell⟩ := getD_cell (cap := c) HSL.out (k := k) hlt
            injection hA with hA
            injection hA with hA hA2
            subst hA hA2
            obtain ⟨y, hy⟩ : ∃ y, (sT zs).getD k 0 = y := ⟨_, rfl⟩
            rw [hy] at hcell
            have HY := Lib.hid hy
            clear hy
            by_cases hy0 : y = 0
            · subst hy0
              go_wp2_with fail
              go_round
              case rel =>
                refine ⟨k + 1, by omega, by go_num, Lib.hid (fun j hj => ?_)⟩
                rcases Nat.lt_or_ge j k with h | h
                · exact HP.out j h
                · obtain rfl : j = k := by omega
                  exact HY.out
              case measure => simp [intOf]; omega
            · have hyf : (y != 0) = true := by rw [bne_iff_ne]; exact hy0
              have he6 : sE smZ zs = 6 := by
                rw [HE3.out, if_pos]
                refine ⟨y, ?_, hy0⟩
                rw [← HY.out]
                simp only [List.getD]
                rw [List.getElem?_eq_getElem (by rw [HTL.out]; exact hlt)]
                exact List.getElem_mem _
              have HE6 := Lib.hid he6
              obtain ⟨wz, hz, y0, y1, y2, y3, hbz, _⟩ := set4 HKB.out HB.out (Nat.le_refl _) (.int .i64 0) (.int .u64 0) (.int .u64 0) (.slice none 0 0)
              have HBZ := Lib.hid hbz
              have HZ4 := Lib.hid hz
              clear hbz hz he6 hy0
              go_wp2_with fail
              rw [HZ4.out]
              refine bodyPost_ret (by simp [results, Tryd.results57, go_sem, y0, y1, y2, y3]; try rfl) rfl ?_
              exact SGetF_bad (by decide) HE6.out HBZ.out
          · obtain rfl : k = 1001 - m := by omega
            have hok : sE smZ zs = 0 := by
              rw [HE3.out, if_neg]
              rintro ⟨y, hy, hy0⟩
              obtain ⟨j, hj, rfl⟩ := List.getElem_of_mem hy
              apply hy0
              have := HP.out j (by rw [← HTL.out]; exact hj)
              simpa [List.getD, hj] using this
            have HOk := Lib.hid hok
            clear hok HP hlt hk
            have rA := (sub_reads HRW.out 1 8 (by omega)).more hsz
            have rB := (sub_reads HRW.out 9 8 (by omega)).more hsz
            have rV := (sub_reads HRW.out 19 m (by omega)).more hsz
            have cA := read_any (some ⟨b, off + 1, none⟩) 8 (c - 1) ((zs.drop 1).take 8) wr.drew rA.drew (mid_bytes HZ.out _ _) (by omega)
            have cB := read_any (some ⟨b, off + 9, none⟩) 8 (c - 9) ((zs.drop 9).take 8) wr.drew rB.drew (mid_bytes HZ.out _ _) (by omega)
            have cV := clone_any b (off + 19) m (c - 19) ((zs.drop 19).take m) wr.drew rV.drew (by omega)
            have hm19 : 19 + m - 19 = m := by omega
            have hVl : ((zs.drop 19).take m).length = m := by simp [HL.out]; omega
            have HVL := Lib.hid hVl
            obtain ⟨xa, hxa⟩ : ∃ xa, num ((zs.drop 1).take 8) = xa := ⟨_, rfl⟩
            obtain ⟨xb, hxb⟩ : ∃ xb, num ((zs.drop 9).take 8) = xb := ⟨_, rfl⟩
            obtain ⟨vs, hvs⟩ : ∃ vs, (zs.drop 19).take m = vs := ⟨_, rfl⟩
            rw [hxa] at cA
            rw [hxb] at cB
            rw [hvs] at cV
            have HXA := Lib.hid hxa
            have HXB := Lib.hid hxb
            have HVS := Lib.hid hvs
            clear rA rB rV hVl hxa hxb hvs cN
            go_wp2_with fail
            clear g0 g1 g2 g3 f0 hgt hzf hrl
            obtain ⟨b', off', u', hA, hbl, _, _⟩ := HRW.out.at_ (k := 0) (by omega)
            injection hA with hA
            injection hA with hA hA2
            subst hA hA2
            have hbne : ¬ b = w.heap.size := by omega
            have hbne' : ¬ w.heap.size = b := by omega
            have hbs : b < wr.heap.size := by omega
            have hw19 : IntKind.i64.wrap (19 + (m : Int)) = 19 + (m : Int) := IntWalk.i64_in _ (by omega)
            have hn19 : (0 : Int) ≤ 19 + (m : Int) := by omega
            have hwz : IntKind.i64.wrap z = z := IntWalk.i64_in _ (by omega)
            have ht19 : (19 + (m : Int)).toNat = 19 + m := by omega
            have hl19 : 19 + m ≤ c := by omega
            have hl20 : (19 : Nat) ≤ 19 + m := by omega
            have hc19 : ¬ c = 19 := by omega
            have hi20 : (19 : Int) ≤ 19 + (m : Int) := by omega
            have hc9 : ¬ c = 9 := by omega
            have hc1 : ¬ c = 1 := by omega
            have hi9 : (9 : Int) ≤ (c : Int) := by omega
            have hi17 : (17 : Int) ≤ (c : Int) := by omega
            have hn9 : 9 ≤ c := by omega
            have hn17 : 17 ≤ c := by omega
            have hi19 : 19 + (m : Int) ≤ (c : Int) := by omega
            go_region_with
              (first
                | (go_at_call 66; first | ((with_reducible refine cA.mono ?_); rintro e w2 ⟨rfl, rfl⟩) | ((with_reducible refine cB.mono ?_); rintro e w2 ⟨rfl, rfl⟩))
                | (go_at_call 67; (with_reducible refine cV.mono ?_); rintro e w5 ⟨A5, c5, rfl, hr5, hb5⟩; have hk5 := HKB.out.drew.below hb5 HKB.out.drew.lt; have kz : w5.cell? ⟨b, off, none⟩ = some (.int .u8 z) := (hb5.cell (p := ⟨b, off, none⟩) hbs).trans hcell; have k0 : w5.cell? ⟨w.heap.size, 0, none⟩ = some (.int .i64 0) := hk5.cell 0; have k1 : w5.cell? ⟨w.heap.size, 1, none⟩ = some (.int .u64 0) := hk5.cell 1; have k2 : w5.cell? ⟨w.heap.size, 2, none⟩ = some (.int .u64 0) := hk5.cell 2; have k3 : w5.cell? ⟨w.heap.size, 3, none⟩ = some (.slice none 0 0) := hk5.cell 3; have kf : ∀ i, w5.frozen? ⟨w.heap.size, i, none⟩ = false := hk5.frozen; have hbw5 := HB.out.drew.trans (hb5.mono hsz); have HBW5 := Lib.hid hbw5; have HK5 := Lib.hid hk5; have HR5 := Lib.hid hr5; clear hk5 hbw5 hr5 hb5))
            all_goals
              obtain ⟨wz, hz, y0, y1, y2, y3, hbz, hsz5⟩ := set4 HK5.out HBW5.out (Nat.le_refl _) (.int .i64 z) (.int .u64 xa) (.int .u64 xb) (.slice A5 m c5)
              have hrz : Reads wz wz.heap.size 1 A5 m (nums .u8 vs) := own_reads (HR5.out.kept hsz5 (.inr (fun he => by have h := (HR5.out.lt _ he).1; have h2 : wr.heap.size ≤ w.heap.size := h; have h3 := HKB.out.lt; omega)))
              have HBZ := Lib.hid hbz
              have HZ4 := Lib.hid hz
              have HRZ := Lib.hid hrz
              clear hbz hz hrz hsz5
              go_wp2_with fail
              rw [HZ4.out]
              refine bodyPost_ret (by simp [results, Tryd.results57, go_sem, y0, y1, y2, y3]; try rfl) rfl ?_
              have hok := HOk.out
              have eK : sK smZ zs = z := by unfold sK; rw [if_pos hok, HZZ.out]
              have eA : sA smZ zs = xa := by unfold sA; rw [if_pos hok, HXA.out]
              have eB : sB smZ zs = xb := by unfold sB; rw [if_pos hok, HXB.out]
              have eV : sV smZ zs = vs := by unfold sV; rw [if_pos hok, HM.out, Int.toNat_natCast, HVS.out]
              have eL : vs.length = m := by rw [← HVS.out]; exact HVL.out
              refine ⟨A5, c5, ?_, ?_, HBZ.out, by rw [eV, eL]; exact (own_bd HR5.out).1, by
                rw [eV, eL]
                intro g hg
                have h := (HR5.out.lt _ hg).1
                have h2 : wr.heap.size ≤ g := h
                have h3 := HKB.out.lt
                omega⟩
              · rw [eK, eA, eB, eV, eL, hok]
              · rw [eV, eL]; exact HRZ.out
end Go.Proofs.YtjdimgigbgafbaaDoor
namespace Go.Proofs.YtjdimgigbgafbaaDoor
open Go.RowKit
open Byts Seal
set_option linter.unusedVariables false
section
variable {w : World} {ops : Array Oper} {o : Oper} {a : Act} {K : Act → World → Prop} {Q : Exit → Act → World → Prop} {E : Prop}
theorem step_bytes (hgd : o.guard = none) (s x : Operand)
    (ho : o.op = .call { callee := .builtin .append, args := #[s, x], argTypes := #[39, 39] })
    (base : Nat) (v : Value) (n : Nat) (xs : List Int) (hs : a.eval s = v) (hown : w.ownsRow base 5 1 v n (nums .u8 xs))
    (B : Nat) (A : Option Addr) (m c : Nat) (zs : List Int) (hx : a.eval x = .slice A m c) (hr : Reads w B 1 A m (nums .u8 zs))
    (hlen : n + m ≤ 140737488355328) (hbase : base ≤ w.heap.size)
    (h : ∀ A' c' w', w'.ownsRow base 5 1 (.slice A' (n + m) c') (n + m) (nums .u8 (xs ++ zs)) → w.grownBy w' v.ownBlock → Below base w w' → K (a.put o.dst (.slice A' (n + m) c')) w') :
    if Region.wanted o (yielded ops a.tmps) = true then Oper.wp Tryd.prog o a w K Q else E := by
  obtain ⟨i, hi0, hz, hs1, hb1⟩ := info_parts (P := Tryd.prog) (e := 5) (z := .int .u8 0) (size := 1) (bytes := 1) (by kernel_rfl)
  refine step_append_any w hgd s x 39 ho base 5 i (.int .u8 0) 1 1 Tryd.underlying39 hi0 hz hs1 hb1 rfl (by decide) v n _ hs hown B A m c _ hx hr (nums_one _ _) (by unfold maxLen; omega) (by omega) hbase ?_
  intro v' w' h2 h3 h4
  rw [nums_append] at h2
  obtain ⟨A', c', rfl⟩ := ownsRow_slice h2
  exact h A' c' w' h2 h3 (below_grown hown h3 hbase)
end
set_option maxRecDepth 100000 in
set_option maxHeartbeats 2000000 in
theorem frefput20 (k a b : Int) (A : Option Addr) (n c : Nat) (zs : List Int) (w : World) (h1 : 1 ≤ k) (h2 : k ≤ 255) (ha : 0 ≤ a) (ha1 : a ≤ 18446744073709551615) (hb : 0 ≤ b) (hb1 : b ≤ 18446744073709551615) (hn : n ≤ 1001)
    (hr : Reads w w.heap.size 1 A n (nums .u8 zs)) (hz : ∀ z ∈ zs, 0 ≤ z ∧ z < 256) :
    Calls Tryd.prog 30 #[.agg #[.int .i64 k, .int .u64 a, .int .u64 b, .slice A n c]] w fun e w' => ∃ A' c', e = .returned (.slice A' 1024 c') ∧ w'.ownsRow w.heap.size 5 1 (.slice A' 1024 c') 1024 (nums .u8 (sec k a b zs (smZ (hd k a b zs)))) ∧ Below w.heap.size w w' := by
  have hl : zs.length = n := by have := hr.1; simpa [nums] using this
  obtain ⟨w0, hw0⟩ : ∃ w0, w.alloc (.cells #[.int .i64 k, .int .u64 a, .int .u64 b, .slice A n c] 75) = w0 := ⟨_, rfl⟩
  have hs0 : w0.heap.size = w.heap.size + 1 := by rw [← hw0]; simp
  have hbel : Below w.heap.size w w0 := by rw [← hw0]; exact (Below.refl _ _).alloc (Nat.le_refl _) _
  have hblk : Blk w0 w.heap.size 75 #[.int .i64 k, .int .u64 a, .int .u64 b, .slice A n c] := by rw [← hw0]; exact Blk.new _ _ _
  have HR := Lib.hid hr
  have HZ := Lib.hid hz
  have HL := Lib.hid hl
  have HW0 := Lib.hid hw0
  have HB := Lib.hid hbel
  have HBW := HB
  have HK := Lib.hid hblk
  have HS0 := Lib.hid hs0
  clear hr hz hl hbel hblk hw0 hs0
  go_enter Tryd.func30, Tryd.ntmps30
  go_upto_region 1 with fail
  rw [HW0.out]
  go_cut [3] (fun s wx => ∃ A1 c1, s = .slice A1 9 c1 ∧ wx.ownsRow w0.heap.size 5 1 (.slice A1 9 c1) 9 (nums .u8 ([k] ++ be 8 a)) ∧ Below w0.heap.size w0 wx)
  case first =>
    have c0 : w0.cell? ⟨w.heap.size, 0, none⟩ = some (.int .i64 k) := HK.out.cell 0
    have c1 : w0.cell? ⟨w.heap.size, 1, none⟩ = some (.int .u64 a) := HK.out.cell 1
    have hwk : IntKind.u8.wrap k = k := IntWalk.u8_in _ (by omega)
    go_region_held3 (fun w' => w'.cell? ⟨w.heap.size, 0, none⟩ = some (.int .i64 k) ∧ w'.cell? ⟨w.heap.size, 1, none⟩ = some (.int .u64 a)) (first | (constructor <;> assumption) | go_keep)
      (first
        | (go_at_call 53
           refine (high20_any 8 a _ ha ha1 (by omega)).mono ?_
           rintro e w1 ⟨rfl, hb1, hbe1, hs1⟩
           first | have kb := HK.out.drew.below hbe1 HK.out.drew.lt | have kb := (HK.out.alloc _).drew.below hbe1 (HK.out.alloc _).drew.lt
           have k0 : w1.cell? ⟨w.heap.size, 0, none⟩ = some (.int .i64 k) := kb.cell 0
           have k1 : w1.cell? ⟨w.heap.size, 1, none⟩ = some (.int .u64 a) := kb.cell 1
           clear kb
           have hrd := hb1.reads 0 8 (by rw [be_length]; omega)
           rw [List.drop_zero, List.take_of_length_le (by rw [be_length]; exact Nat.le_refl _)] at hrd
           have hw1 : w0.heap.size ≤ w1.heap.size := by have := hbe1.size; simp at this; omega
           have HB1 := Lib.hid hbe1
           have HRD := Lib.hid hrd
           have HW1 := Lib.hid hw1
           clear hb1 hbe1 hs1 hrd hw1)
        | ((first
            | (refine step_bytes rfl (.tmp 9) (.tmp 12) rfl w0.heap.size (.slice (some ⟨w0.heap.size, 0, none⟩) 1 1) 1 [k] rfl (by exact ((own_new w0 w0.heap.size 5 .u8 [k] 1 _ rfl (Nat.le_refl _) rfl (by decide)).drew).kept (row := none) (only_of_below HB1.out none) (.inr (by simp [Value.ownBlock]))) w1.heap.size _ 8 8 (be 8 a) rfl (by simpa using HRD.out) (by omega) HW1.out ?_; intro A2 c2 w2 hown2 hgr2 hb2; have HBF : Hid (Below w0.heap.size w0 w2) := Lib.hid ((((Below.refl w0.heap.size w0).alloc (Nat.le_refl _) _).drew.trans (HB1.out.mono (by simp))).trans hb2); have kc := HK.out.below HBF.out (by have := HS0.out; omega); have q0 : w2.cell? ⟨w.heap.size, 0, none⟩ = some (.int .i64 k) := kc.cell 0; have q1 : w2.cell? ⟨w.heap.size, 1, none⟩ = some (.int .u64 a) := kc.cell 1; clear kc)
            | (refine step_bytes rfl (.tmp 9) (.tmp 12) rfl w0.heap.size (.slice (some ⟨w1.heap.size, 0, none⟩) 1 1) 1 [k] rfl (by exact own_new w1 w0.heap.size 5 .u8 [k] 1 _ rfl HW1.out rfl (by decide)) w1.heap.size _ 8 8 (be 8 a) rfl (by have h := HRD.out.alloc (Nat.le_refl _) (.cells #[.int .u8 k] 5); simpa using h) (by omega) (by have := HW1.out; simp; omega) ?_; intro A2 c2 w2 hown2 hgr2 hb2; have HBF : Hid (Below w0.heap.size w0 w2) := Lib.hid ((((Below.refl w0.heap.size w0).drew.trans HB1.out).alloc HW1.out _).trans hb2); have kc := HK.out.below HBF.out (by have := HS0.out; omega); have q0 : w2.cell? ⟨w.heap.size, 0, none⟩ = some (.int .i64 k) := kc.cell 0; have q1 : w2.cell? ⟨w.heap.size, 1, none⟩ = some (.int .u64 a) := kc.cell 1; clear kc))))
    all_goals
      go_wp2_with fail
      go_meet
      exact ⟨_, _, rfl, hown2, HBF.out⟩
  case rest =>
    obtain ⟨A1, c1, rfl, hown, hbel⟩ := hcut
    have hkc := HK.out.below hbel (by have := HS0.out; omega)
    have HKC := Lib.hid hkc
    have HO := Lib.hid hown
    have HBL := Lib.hid hbel
    have HSC : Hid (w0.heap.size ≤ wc.heap.size) := Lib.hid hbel.size
    have h8 : ((8 : Nat) : Int) = 8 := rfl
    go_upto_region 2 with fail
    go_cut [3] (fun s wx => ∃ A1 c1, s = .slice A1 19 c1 ∧ wx.ownsRow w0.heap.size 5 1 (.slice A1 19 c1) 19 (nums .u8 ([k] ++ be 8 a ++ be 8 b ++ be 2 (n : Int))) ∧ Below w0.heap.size w0 wx)
    case first =>
      have d2 : wc.cell? ⟨w.heap.size, 2, none⟩ = some (.int .u64 b) := hkc.cell 2
      have d3 : wc.cell? ⟨w.heap.size, 3, none⟩ = some (.slice A n c) := hkc.cell 3
      obtain ⟨g, cap, hA1, hg0, hg1⟩ := hown.form (by omega)
      injection hA1 with hA1 _ hcap
      subst hA1 hcap
      have OWN := Lib.hid hown
      have hsz := HSC.out
      clear hkc hown hbel HO
      have C8 : ∀ W, Calls Tryd.prog 53 #[.int .u64 b, .int .i64 8] W fun e w' => e = .returned (.slice (some ⟨W.heap.size, 0, none⟩) 8 8) ∧ Blk w' W.heap.size 5 (nums .u8 (be 8 b)).toArray ∧ Below W.heap.size W w' ∧ w'.heap.size = W.heap.size + 1 := fun W => high20_any 8 b W hb hb1 (by omega)
      have C2 : ∀ W, Calls Tryd.prog 53 #[.int .u64 (n : Int), .int .i64 2] W fun e w' => e = .returned (.slice (some ⟨W.heap.size, 0, none⟩) 2 2) ∧ Blk w' W.heap.size 5 (nums .u8 (be 2 (n : Int))).toArray ∧ Below W.heap.size W w' ∧ w'.heap.size = W.heap.size + 1 := fun W => high20_any 2 (n : Int) W (by omega) (by omega) (by omega)
      have hwn : IntKind.u64.wrap (n : Int) = (n : Int) := IntWalk.u64_in _ (by omega)
      have HC8 := Lib.hid C8
      have HC2 := Lib.hid C2
      clear C8 C2
      go_region_held3 (fun w' => w'.cell? ⟨w.heap.size, 2, none⟩ = some (.int .u64 b) ∧ w'.cell? ⟨w.heap.size, 3, none⟩ = some (.slice A n c)) (first | (constructor <;> assumption) | go_keep)
        (first
          | (go_at_call 53
             first
               | ((with_reducible refine (HC8.out _).mono ?_)
                  rintro e w1 ⟨rfl, k1, e1, _⟩
                  have K1 := Lib.hid k1
                  have OWN := Lib.hid (OWN.out.drew.kept (row := none) (only_of_below e1 none) (.inr (by simp [Value.ownBlock])))
                  have BL : Hid (Below w0.heap.size w0 w1) := Lib.hid (HBL.out.drew.trans (e1.mono (by exact hsz)))
                  have kc := HK.out.below BL.out (by have := HS0.out; omega)
                  have q2 : w1.cell? ⟨w.heap.size, 2, none⟩ = some (.int .u64 b) := kc.cell 2
                  have q3 : w1.cell? ⟨w.heap.size, 3, none⟩ = some (.slice A n c) := kc.cell 3
                  have hs1 : wc.heap.size < w1.heap.size := by have := k1.lt; simpa using this
                  clear k1 e1 kc)
               | ((with_reducible refine (HC2.out _).mono ?_)
                  rintro e w3 ⟨rfl, k2, e2, _⟩
                  have K2 := Lib.hid k2
                  try have K1 := Lib.hid (K1.out.below e2 K1.out.lt)
                  have OWN := Lib.hid (OWN.out.kept (row := none) (only_of_below e2 none) (.inr (by simp [Value.ownBlock])))
                  have BL : Hid (Below w0.heap.size w0 w3) := Lib.hid (BL.out.trans (e2.mono (by exact BL.out.size)))
                  have kc := HK.out.below BL.out (by have := HS0.out; omega)
                  have q2 : w3.cell? ⟨w.heap.size, 2, none⟩ = some (.int .u64 b) := kc.cell 2
                  have q3 : w3.cell? ⟨w.heap.size, 3, none⟩ = some (.slice A n c) := kc.cell 3
                  clear k2 e2 kc))
          | ((
               refine step_bytes rfl (.tmp 14) (.tmp 17) rfl w0.heap.size (.slice (some ⟨g, 0, none⟩) 9 c1) 9 ([k] ++ be 8 a) rfl (by exact OWN.out) _ _ 8 8 (be 8 b) rfl (by have h := K1.out.reads 0 8 (by rw [be_length]; omega); rw [List.drop_zero, List.take_of_length_le (by rw [be_length]; exact Nat.le_refl _)] at h; simpa using h) (by omega) (by exact BL.out.size) ?_
               intro A4 c4 w4 hown4 hgr4 hb4
               obtain ⟨g4, cap4, hA4, hg40, hg41⟩ := hown4.form (by omega)
               injection hA4 with hA4 _ hcap4
               subst hA4 hcap4
               have BL : Hid (Below w0.heap.size w0 w4) := Lib.hid (BL.out.trans hb4)
               try have K2 := Lib.hid (K2.out.grown hgr4 (by simp [Value.ownBlock]; omega))
               have OWN := Lib.hid hown4
               have kc := HK.out.below BL.out (by have := HS0.out; omega)
               have q2 : w4.cell? ⟨w.heap.size, 2, none⟩ = some (.int .u64 b) := kc.cell 2
               have q3 : w4.cell? ⟨w.heap.size, 3, none⟩ = some (.slice A n c) := kc.cell 3
               clear hown4 hgr4 hb4 kc))
          | ((
               refine step_bytes rfl (.tmp 18) (.tmp 23) rfl w0.heap.size _ 17 ([k] ++ be 8 a ++ be 8 b) rfl (by exact OWN.out) _ _ 2 2 (be 2 (n : Int)) rfl (by have h := K2.out.reads 0 2 (by rw [be_length]; omega); rw [List.drop_zero, List.take_of_length_le (by rw [be_length]; exact Nat.le_refl _)] at h; simpa using h) (by omega) (by exact BL.out.size) ?_
               intro A6 c6 w6 hown6 hgr6 hb6
               have BL6 : Hid (Below w0.heap.size w0 w6) := Lib.hid (BL.out.trans hb6)
               have OWN6 := Lib.hid hown6
               have kc := HK.out.below BL6.out (by have := HS0.out; omega)
               have q2 : w6.cell? ⟨w.heap.size, 2, none⟩ = some (.int .u64 b) := kc.cell 2
               have q3 : w6.cell? ⟨w.heap.size, 3, none⟩ = some (.slice A n c) := kc.cell 3
               clear hown6 hgr6 hb6 kc)))
      all_goals
        go_wp2_with fail
        go_meet
        exact ⟨_, _, rfl, OWN6.out, BL6.out⟩
    case rest =>
      obtain ⟨A2, c2, rfl, hown2, hbel2⟩ := hcut
      have hkc2 := HK.out.below hbel2 (by have := HS0.out; omega)
      have d3 : wc.cell? ⟨w.heap.size, 3, none⟩ = some (.slice A n c) := hkc2.cell 3
      have hrw := HR.out.below (HB.out.trans (hbel2.mono HB.out.size))
      have HBL2 := Lib.hid hbel2
      clear hkc2 hkc hbel2
      go_wp2_with (at_builtin; refine wpl_bytes rfl (.tmp 25) (.tmp 27) rfl w0.heap.size _ 19 ([k] ++ be 8 a ++ be 8 b ++ be 2 (n : Int)) rfl hown2 w.heap.size A n c zs rfl hrw ?c1 ?c2 ?_)
      case c1 => omega
      case c2 => exact HBL2.out.size
      intro A3 c3 w3 hown3 hgr3 hb3 hor3
      have HB3 := Lib.hid (HBL2.out.trans hb3)
      have HO3 := Lib.hid hown3
      clear hown3 hgr3 hb3 hor3 hown2 hrw d3
      go_wp2_with fail
      obtain ⟨fz, hfz⟩ : ∃ fz, k :: (be 8 a ++ (be 8 b ++ (be 2 (n : Int) ++ zs))) = fz := ⟨_, rfl⟩
      rw [hfz, show nums .u8 fz = nums .u8 (fz ++ List.replicate 0 0) by simp] at HO3
      have hfe : fz ++ List.replicate (1001 - n) 0 = hd k a b zs := by rw [← hfz, ← HL.out]; simp [hd]
      have HFE := Lib.hid hfe
      have hfb : ∀ z ∈ hd k a b zs, 0 ≤ z ∧ z < 256 := hd_bytes k a b zs (by omega) HZ.out
      have HFB := Lib.hid hfb
      clear hfz hfe hfb
      go_loopw [3] (fun s wr => ∃ (j : Nat) (A4 : Option Addr) (c4 : Nat), j ≤ 1001 - n ∧ s = .slice A4 (19 + n + j) c4 ∧ wr.ownsRow w0.heap.size 5 1 (.slice A4 (19 + n + j) c4) (19 + n + j) (nums .u8 (fz ++ List.replicate j 0)) ∧ Below w0.heap.size w0 wr) (fun s _ => match s with | .slice _ m _ => 1020 - m | _ => 0)
      case atStart => exact ⟨0, A3, c3, by omega, rfl, HO3.out, HB3.out⟩
      case round =>
        obtain ⟨j, A4, c4, hj, rfl, hown, hbel⟩ := hrel
        have hsz := hbel.size
        have HB := Lib.hid hbel
        clear hbel
        by_cases hlt : 19 + n + j < 1020
        · go_wp2_with (at_builtin; refine wpl_bytes rfl (.tmp 32) (.tmp 33) rfl w0.heap.size _ (19 + n + j) (fz ++ List.replicate j 0) rfl ?o4 (wr.heap.size + 1) (some ⟨wr.heap.size, 0, none⟩) 1 1 [0] rfl ?r4 ?c7 ?c8 ?_)
          case o4 => exact hown.alloc _
          case r4 => exact reads_new wr (nums .u8 [0]) 5 (0, 0) 1 _ _ rfl rfl (by omega)
          case c7 => omega
          case c8 => simp; omega
          intro A5 c5 w5 hown5 hgr5 hb5 hor5
          have hbD := Lib.hid (HB.out.trans (((Below.refl _ _).alloc hsz _).trans hb5))
          try rw [List.append_assoc] at hown5
          rw [show List.replicate j (0 : Int) ++ [0] = List.replicate (j + 1) 0 from List.replicate_succ'.symm] at hown5
          have HO5 := Lib.hid hown5
          clear hgr5 hor5 hb5 hown5 hown
          go_wp2_with fail
          go_roundw
          case rel => exact ⟨j + 1, A5, c5, by omega, rfl, HO5.out, hbD.out⟩
          case measure => simp; omega
        · obtain rfl : j = 1001 - n := by omega
          rw [HFE.out, show 19 + n + (1001 - n) = 1020 by omega] at hown
          rw [show 19 + n + (1001 - n) = 1020 by omega]
          clear hlt
          have cs := refsum_any A4 1020 c4 (hd k a b zs) wr (own_reads hown) HFB.out (by omega)
          obtain ⟨r, hr⟩ : ∃ r, Crc.more 0#32 (hd k a b zs) = r := ⟨_, rfl⟩
          rw [hr] at cs
          have HRR := Lib.hid hr
          have HO := Lib.hid hown
          have hrl := r.isLt
          clear hr hown hj
          go_wp2_with fail
          refine cs.mono ?_
          rintro e w' ⟨rfl, rfl⟩
          go_wp2_with fail
          obtain ⟨hz, hhz⟩ : ∃ hz, hd k a b zs = hz := ⟨_, rfl⟩
          rw [hhz] at HO
          have HHZ := Lib.hid hhz
          clear hhz cs
          go_loopw [3, 4, 5] (fun s x i wr => ∃ (j : Nat) (A3 : Option Addr) (c3 : Nat), j ≤ 4 ∧ i = .int .i64 j ∧ x = .int .u32 ((r.toNat : Int) / 256 ^ j) ∧ s = .slice A3 (1020 + j) c3 ∧ wr.ownsRow w0.heap.size 5 1 (.slice A3 (1020 + j) c3) (1020 + j) (nums .u8 (hz ++ (bytesZ r).take j)) ∧ Below w0.heap.size w0 wr) (fun _ _ i _ => 4 - (intOf i).toNat)
          case atStart => exact ⟨0, A4, c4, by omega, rfl, by simp, rfl, by simpa using HO.out, HB.out⟩
          case round =>
            obtain ⟨j, A5, c5, hj, rfl, rfl, rfl, hown, hbel⟩ := hrel
            have hsz := hbel.size
            by_cases hlt : j < 4
            · have hd := Lib.hid (div256 r j)
              have y0 : 0 ≤ (r.toNat : Int) / 256 ^ j := Int.ediv_nonneg (by omega) (Int.pow_nonneg (by decide))
              have y1 : (r.toNat : Int) / 256 ^ j ≤ 4294967295 := Int.le_trans (Int.ediv_le_self _ (by omega)) (by omega)
              have hbs := Lib.hid (bytesZ_succ r j hlt)
              have HB := Lib.hid hbel
              clear hbel
              generalize (r.toNat : Int) / 256 ^ j = y at y0 y1 hd hbs
              go_wp2_with (at_builtin; refine wpl_bytes rfl (.tmp 41) (.tmp 45) rfl w0.heap.size _ (1020 + j) (hz ++ (bytesZ r).take j) rfl ?o6 (wr.heap.size + 1) (some ⟨wr.heap.size, 0, none⟩) 1 1 [y % 256] rfl ?r6 ?c9 ?c10 ?_)
              case o6 => exact hown.alloc _
              case r6 => exact reads_new wr (nums .u8 [y % 256]) 5 (0, 0) 1 _ _ rfl rfl (by omega)
              case c9 => omega
              case c10 => simp; omega
              intro A6 c6 w6 hown6 hgr6 hb6 hor6
              try rw [List.append_assoc] at hown6
              rw [← hbs.out] at hown6
              have hbD := Lib.hid (HB.out.trans (((Below.refl _ _).alloc hsz _).trans hb6))
              have HO6 := Lib.hid hown6
              clear hgr6 hor6 hb6 hown6 hown
              go_wp2_with fail
              go_roundw
              case rel => exact ⟨j + 1, A6, c6, by omega, by go_num, by rw [hd.out], rfl, HO6.out, hbD.out⟩
              case measure => simp [intOf]; omega
            · obtain rfl : j = 4 := by omega
              have e3 : nums .u8 (hz ++ (bytesZ r).take 4) = nums .u8 (sec k a b zs (smZ (hd k a b zs))) := by
                rw [show (bytesZ r).take 4 = bytesZ r from rfl, ← HRR.out, HHZ.out]
                unfold sec smZ
                rw [HHZ.out]
              rw [e3] at hown
              have HO4 := Lib.hid (hown.mono HBW.out.size)
              have HB := Lib.hid (HBW.out.trans (hbel.mono HBW.out.size))
              clear hown hbel e3
              go_wp2
              go_ret
              exact ⟨A5, c5, rfl, HO4.out, HB.out⟩
end Go.Proofs.YtjdimgigbgafbaaDoor
namespace Go.Proofs.YtjdimgigbgafbaaDoor
open Go.RowKit H
open Byts Seal
open Fram (getD_nn)
set_option linter.unusedVariables false
set_option maxRecDepth 100000 in
set_option maxHeartbeats 1000000 in
theorem srefget_anyF (A : Option Addr) (n c : Nat) (zs : List Int) (w : World) (hr : Reads w w.heap.size 1 A n (nums .u8 zs)) (hz : ∀ z ∈ zs, 0 ≤ z ∧ z < 256) (hnc : n ≤ c) (hc0 : c ≤ 9223372036854775807) :
    Calls Tryd.prog 59 #[.slice A n c] w (SGetF zs w) := by
  have hl : zs.length = n := by have := hr.1; simpa [nums] using this
  refine enter Tryd.func59 rfl (by kernel_rfl) ?_
  refine J.seq ?_
  refine J.region ?_
  refine L.alloc rfl zr_75 ?_
  intro b w1 hb hs hk he
  replace hr := hr.ext he
  refine L.va rfl (X.assign (by conv => lhs; whnf)) ?_
  refine L.nil ?_
  refine J.seq ?_
  refine J.seq ?_
  refine J.region ?_
  refine L.va rfl (X.move (by conv => lhs; whnf)) ?_
  refine L.va rfl (X.len rfl Tryd.underlying39) ?_
  refine L.va rfl (X.neq rfl rfl) ?_
  refine L.nil ?_
  refine J.ndec rfl (fun h1 => ?_) (fun h1 => ?_)
  · have he6 : sE smZ zs = 6 := by unfold sE; rw [if_pos (by omega)]
    refine J.seq ?_
    refine J.region ?_
    refine L.va rfl (X.build (l := [_, _, _, _]) Evs.nil (bld_run Tryd.underlying75 (bp_75 Tryd.underlying75) zr_75 rfl)) ?_
    refine L.storeAgg (vs := [_, _, _, _]) rfl rfl rfl rfl sz_75 (hk) rfl ?_
    intro w2 hk2 hg2 hs2
    refine L.va rfl (X.assign (by conv => lhs; whnf)) ?_
    refine L.nil ?_
    refine J.ret ?_
    refine thn_ret <| ?_
    refine finCT rfl (run_cell hk2 Tryd.underlying75 rfl (by kernel_rfl)) ?_
    exact SGetF_bad (by decide) he6 (he.grw hg2 (by intro g hg; injection hg with hg; omega))
  · obtain rfl : n = 1024 := by omega
    have hE : sE smZ zs = if zs.drop 1020 ≠ smZ (zs.take 1020) then 13 else if zs.getD 0 0 = 0 ∨ 1001 < sN zs then 6 else if ∃ z ∈ sT zs, z ≠ 0 then 6 else 0 := by
      unfold sE; rw [if_neg (by rw [hl]; simp)]
    have hrl := (Crc.more 0#32 (zs.take 1020)).isLt
    refine J.skip ?_
    refine J.seq ?_
    refine J.region ?_
    refine L.va rfl (X.move (by conv => lhs; whnf)) ?_
    refine L.va rfl ((by first | exact X.sliceTon (j := 1020) rfl rfl Tryd.underlying39 sz_5 (by omega) | exact X.sliceTo rfl rfl Tryd.underlying39 sz_5 (by omega))) ?_
    refine L.call rfl en_54 rfl (refsum_any A 1020 c (zs.take 1020) _ (by have := (hr.first (k := 1020) (by omega)).here (by omega); simpa [nums] using this) (fun z h => hz z (List.mem_of_mem_take h)) (by omega)) ?_
    rintro e _ ⟨rfl, rfl⟩
    refine ⟨_, rfl, ?_⟩
    obtain ⟨r, hr0⟩ : ∃ r, Crc.more 0#32 (zs.take 1020) = r := ⟨_, rfl⟩
    have hsm : smZ (zs.take 1020) = bytesZ r := by unfold smZ; rw [hr0]
    rw [hsm] at hE
    rw [hr0] at hrl
    rw [hr0]
    refine L.va rfl (X.assign (by conv => lhs; whnf)) ?_
    refine L.nil ?_
    refine J.seq ?_
    refine J.seq ?_
    refine J.region ?_
    refine L.va rfl (X.assign (by conv => lhs; whnf)) ?_
    refine L.nil ?_
    refine J.block ?_
    refine J.loop (X := Nat) [3, 4, 5, 15, 16, 17, 18, 19, 20, 21, 22, 23, 24, 25, 26, 27, 28, 29, 30] (fun k => [(5, .int .i64 (k : Int)), (4, .int .u32 ((r.toNat : Int) / 256 ^ k))]) (fun k w' => k ≤ 4 ∧ w' = w1 ∧ ∀ j, j < k → zs.getD (1020 + j) 0 = (bytesZ r).getD j 0) (fun k => 4 - k) (0) (At2 (by first | rfl | exact at_int rfl (by omega) | exact at_slice rfl (by omega) | exact at_int rfl (by simp)) (by first | rfl | exact at_int rfl (by omega) | exact at_slice rfl (by omega) | exact at_int rfl (by simp))) ?_ ?_
    · exact ⟨by omega, rfl, fun j hj => absurd hj (by omega)⟩
    · rintro k g w2 ⟨hk4, rfl, hP⟩
      refine J.seq ?_
      refine J.seq ?_
      refine J.region ?_
      refine L.va rfl (X.move (by conv => lhs; whnf)) ?_
      refine L.va rfl (X.lss rfl rfl) ?_
      refine L.nil ?_
      refine J.dec rfl (fun hlt => ?_) (fun hlt => ?_)
      · have y0 : 0 ≤ (r.toNat : Int) / 256 ^ k := Int.ediv_nonneg (by omega) (Int.pow_nonneg (by decide))
        have y1 : (r.toNat : Int) / 256 ^ k ≤ 4294967295 := Int.le_trans (Int.ediv_le_self _ (by omega)) (by omega)
        have hb := bytesZ_shr' r k (by omega)
        refine J.skip ?_
        refine J.seq ?_
        refine J.block ?_
        refine J.seq ?_
        refine J.seq ?_
        refine J.region ?_
        refine L.va rfl (X.move (by conv => lhs; whnf)) ?_
        refine L.va rfl (X.move (by conv => lhs; whnf)) ?_
        refine L.va rfl (X.add rfl rfl (by omega)) ?_
        refine L.va rfl ((by first | exact X.index1n rfl rfl Tryd.underlying39 sz_5 (by first | exact Option.some_ne_none _ | exact hr.some_ (by omega)) (by omega) | exact X.index1 rfl rfl Tryd.underlying39 sz_5 (by first | exact Option.some_ne_none _ | exact hr.some_ (by omega)) (by omega))) ?_
        refine L.va rfl (X.load rfl sc_5 (by first | exact Ld.num hr (by omega) | exact Ld.blk hk rfl)) ?_
        refine L.va rfl (X.move (by conv => lhs; whnf)) ?_
        refine L.va rfl (X.rem rfl rfl (by omega)) ?_
        refine L.va rfl ((by first | exact X.conv8 rfl is_23 Tryd.underlying5 (by omega) | exact X.convw rfl is_23 Tryd.underlying5)) ?_
        refine L.va rfl (X.neq rfl rfl) ?_
        refine L.nil ?_
        refine J.ndec rfl (fun hne => ?_) (fun hne => ?_)
        · have he13 : sE smZ zs = 13 := by
            rw [hE, if_pos]
            have := tail_ne zs 1020 k r (by omega) (by omega) (by rw [hb]; exact hne)
            rwa [List.take_of_length_le (by simp; omega)] at this
          refine J.seq ?_
          refine J.region ?_
          refine L.va rfl (X.build (l := [_, _, _, _]) Evs.nil (bld_run Tryd.underlying75 (bp_75 Tryd.underlying75) zr_75 rfl)) ?_
          refine L.storeAgg (vs := [_, _, _, _]) rfl rfl rfl rfl sz_75 (hk) rfl ?_
          intro w3 hk2 hg2 hs2
          refine L.va rfl (X.assign (by conv => lhs; whnf)) ?_
          refine L.nil ?_
          refine J.ret ?_
          refine thn_ret <|  inB_ret <|  thn_ret <|  thn_ret <|  inB_ret <|  thn_ret <| ?_
          refine finCT rfl (run_cell hk2 Tryd.underlying75 rfl (by kernel_rfl)) ?_
          exact SGetF_bad (by decide) he13 (he.grw hg2 (by intro g hg; injection hg with hg; omega))
        · have hd := div256 r k
          refine J.skip ?_
          refine J.region ?_
          refine L.va rfl (X.move (by conv => lhs; whnf)) ?_
          refine L.va rfl (X.quo32 rfl rfl (by omega)) ?_
          refine L.va rfl (X.assign (by conv => lhs; whnf)) ?_
          refine L.nil ?_
          refine J.region ?_
          refine L.va rfl (X.move (by conv => lhs; whnf)) ?_
          refine L.va rfl (X.add rfl rfl (by omega)) ?_
          refine L.va rfl (X.assign (by conv => lhs; whnf)) ?_
          refine L.nil ?_
          refine ⟨k + 1, At2 (by first | rfl | exact at_int rfl (by omega) | exact at_slice rfl (by omega) | exact at_int rfl (by simp)) (by first | rfl | exact at_int rfl (by omega) | exact at_slice rfl (by omega) | exact at_int rfl (by simp)), (by (iterate 17 refine Agr.lk rfl ?_); exact Agr.lk rfl (Agr.hav rfl Agr.rfl')), ?_⟩
          refine ⟨⟨by omega, rfl, fun j hj => ?_⟩, by omega⟩
          rcases Nat.lt_or_ge j k with h | h
          · exact hP j h
          · obtain rfl : j = k := by omega
            rw [hb]; exact hne
      · obtain rfl : k = 4 := by omega
        have hgood : zs.drop 1020 = bytesZ r := by
          have := tail_eq zs 1020 r (by omega) hP
          rwa [List.take_of_length_le (by simp; omega)] at this
        rw [if_neg (by rw [hgood]; simp)] at hE
        obtain ⟨n0, n1⟩ := sN_bd hz
        obtain ⟨z0, z1⟩ := getD_nn hz 0
        refine J.exit ?_
        refine J.seq ?_
        refine J.region ?_
        refine L.va rfl (X.move (by conv => lhs; whnf)) ?_
        refine L.va rfl ((by first | exact X.slicen (i := 17) (j := 19) rfl rfl rfl Tryd.underlying39 sz_5 (by omega) | exact X.slice rfl rfl rfl Tryd.underlying39 sz_5 (by omega))) ?_
        refine L.call rfl en_70 rfl (refnumber_any _ _ _ _ _ ((part_nums (i := 17) (j := 19) hr (by omega) (by omega) hnc).here (by omega)) (mid_bytes hz _ _) (by omega)) ?_
        rintro e _ ⟨rfl, rfl⟩
        refine ⟨_, rfl, ?_⟩
        rw [show num ((zs.drop 17).take (19 - 17)) = sN zs from rfl]
        obtain ⟨m, hm⟩ := Int.eq_ofNat_of_zero_le n0
        rw [hm] at hE n1
        rw [hm]
        refine L.va rfl ((by first | exact X.convI rfl is_35 Tryd.underlying3 (by omega) | exact X.convw rfl is_35 Tryd.underlying3)) ?_
        refine L.va rfl (X.assign (by conv => lhs; whnf)) ?_
        refine L.nil ?_
        refine J.seq ?_
        refine J.seq ?_
        refine J.region ?_
        refine L.va rfl (X.move (by conv => lhs; whnf)) ?_
        refine L.va rfl (X.index1n (j := 0) rfl rfl Tryd.underlying39 sz_5 (by first | exact Option.some_ne_none _ | exact hr.some_ (by omega)) (by omega)) ?_
        refine L.va rfl (X.load rfl sc_5 (by first | exact Ld.num hr (by omega) | exact Ld.blk hk rfl)) ?_
        refine L.va rfl (X.eql rfl rfl) ?_
        refine L.va rfl (X.move (by conv => lhs; whnf)) ?_
        refine L.caseDec (k := 39) rfl (fun hz0 => ?_) (fun hz0 => ?_)
        · have he6 : sE smZ zs = 6 := by rw [hE, if_pos (.inl hz0)]
          refine L.no rfl ?_
          refine L.no rfl ?_
          refine L.va rfl (X.pickT rfl (by conv => lhs; whnf)) ?_
          refine L.nil ?_
          refine J.iteT rfl ?_
          refine J.seq ?_
          refine J.region ?_
          refine L.va rfl (X.build (l := [_, _, _, _]) Evs.nil (bld_run Tryd.underlying75 (bp_75 Tryd.underlying75) zr_75 rfl)) ?_
          refine L.storeAgg (vs := [_, _, _, _]) rfl rfl rfl rfl sz_75 (hk) rfl ?_
          intro w3 hk2 hg2 hs2
          refine L.va rfl (X.assign (by conv => lhs; whnf)) ?_
          refine L.nil ?_
          refine J.ret ?_
          refine thn_ret <| ?_
          refine finCT rfl (run_cell hk2 Tryd.underlying75 rfl (by kernel_rfl)) ?_
          exact SGetF_bad (by decide) he6 (he.grw hg2 (by intro g hg; injection hg with hg; omega))
        · refine L.va rfl (X.move (by conv => lhs; whnf)) ?_
          refine L.va rfl (X.gtr rfl rfl) ?_
          refine L.va rfl (X.pickF rfl (by conv => lhs; whnf)) ?_
          refine L.nil ?_
          refine J.dec rfl (fun hgt => ?_) (fun hgt => ?_)
          · have he6 : sE smZ zs = 6 := by rw [hE, if_pos (.inr hgt)]
            refine J.seq ?_
            refine J.region ?_
            refine L.va rfl (X.build (l := [_, _, _, _]) Evs.nil (bld_run Tryd.underlying75 (bp_75 Tryd.underlying75) zr_75 rfl)) ?_
            refine L.storeAgg (vs := [_, _, _, _]) rfl rfl rfl rfl sz_75 (hk) rfl ?_
            intro w3 hk2 hg2 hs2
            refine L.va rfl (X.assign (by conv => lhs; whnf)) ?_
            refine L.nil ?_
            refine J.ret ?_
            refine thn_ret <| ?_
            refine finCT rfl (run_cell hk2 Tryd.underlying75 rfl (by kernel_rfl)) ?_
            exact SGetF_bad (by decide) he6 (he.grw hg2 (by intro g hg; injection hg with hg; omega))
          · have hE2 := hE
            rw [if_neg (by intro h; rcases h with h | h; exact hz0 h; exact hgt h)] at hE
            refine J.skip ?_
            have hnm : m ≤ 1001 := by omega
            have hVl : ((zs.drop 19).take m).length = m := by simp; omega
            have hrV : ∀ w', Ext w2 w' → Reads w' w.heap.size 1 (if c = (19 : Int).toNat then A else A.map (·.add ((19 : Int).toNat * 1))) ((19 + (m : Int)).toNat - (19 : Int).toNat) (nums .u8 ((zs.drop 19).take m)) := by
              intro w' hw'
              have := part_nums (i := 19) (j := 19 + m) (hr.ext hw') (by omega) (by omega) hnc
              rw [show 19 + m - 19 = m by omega] at this
              have e : (19 + (m : Int)).toNat - (19 : Int).toNat = m := by omega
              rw [e]
              exact this
            refine J.cut (X := Nat × Option Addr × Nat) [7, 44, 45, 46, 47, 48, 49, 50, 51, 52, 53, 54, 55, 56, 57, 58, 59, 60] (fun x => [(7, .pointer (some ⟨x.1, 0, none⟩))]) (fun x w' => Blk w' x.1 75 #[.int .i64 (zs.getD 0 0), .int .u64 (num ((zs.drop 1).take 8)), .int .u64 (num ((zs.drop 9).take 8)), .slice x.2.1 m x.2.2] ∧ w2.heap.size ≤ x.1 ∧ w'.ownsRow w2.heap.size 5 1 (.slice x.2.1 m x.2.2) m (nums .u8 ((zs.drop 19).take m)) ∧ Ext w2 w') ?_ ?_
            ·
              refine J.draw (ℓ := 1000000) (S := Ext w2) mixed (fun w4 hS hS_h => ?_)
              refine D.va 0 rfl (by kernel_rfl) (fun _ _ _ h => h) rfl (fun w' hw => X.move (by conv => lhs; whnf)) hS ?_
              refine D.va 1 rfl (by kernel_rfl) (fun _ _ _ h => h) rfl (fun w' hw => X.index1n (j := 0) rfl rfl Tryd.underlying39 sz_5 (by first | exact Option.some_ne_none _ | exact hr.some_ (by omega)) (by omega)) hS ?_
              refine D.va 2 rfl (by kernel_rfl) (fun _ _ _ h => h) rfl (fun w' hw => X.load rfl sc_5 (by first | exact Ld.num (hr.ext hw) (by omega) | exact Ld.blk (hk.ext hw) rfl)) hS ?_
              refine D.va 3 rfl (by kernel_rfl) (fun _ _ _ h => h) rfl (fun w' hw => (by first | exact X.convI rfl is_5 Tryd.underlying3 (by omega) | exact X.convw rfl is_5 Tryd.underlying3)) hS ?_
              refine D.va 4 rfl (by kernel_rfl) (fun _ _ _ h => h) rfl (fun w' hw => X.move (by conv => lhs; whnf)) hS ?_
              refine D.va 5 rfl (by kernel_rfl) (fun _ _ _ h => h) rfl (fun w' hw => (by first | exact X.slicen (i := 1) (j := 9) rfl rfl rfl Tryd.underlying39 sz_5 (by omega) | exact X.slice rfl rfl rfl Tryd.underlying39 sz_5 (by omega))) hS ?_
              refine D.va 7 rfl (by kernel_rfl) (fun _ _ _ h => h) rfl (fun w' hw => X.move (by conv => lhs; whnf)) hS ?_
              refine D.va 8 rfl (by kernel_rfl) (fun _ _ _ h => h) rfl (fun w' hw => (by first | exact X.slicen (i := 9) (j := 17) rfl rfl rfl Tryd.underlying39 sz_5 (by omega) | exact X.slice rfl rfl rfl Tryd.underlying39 sz_5 (by omega))) hS ?_
              refine D.va 11 rfl (by kernel_rfl) (fun _ _ _ h => h) rfl (fun w' hw => X.move (by conv => lhs; whnf)) hS ?_
              refine D.va 12 rfl (by kernel_rfl) (fun _ _ _ h => h) rfl (fun w' hw => X.move (by conv => lhs; whnf)) hS ?_
              refine D.va 13 rfl (by kernel_rfl) (fun _ _ _ h => h) rfl (fun w' hw => X.add rfl rfl (by omega)) hS ?_
              refine D.va 14 rfl (by kernel_rfl) (fun _ _ _ h => h) rfl (fun w' hw => (by first | exact X.slicen (i := 19) rfl rfl rfl Tryd.underlying39 sz_5 (by omega) | exact X.slice rfl rfl rfl Tryd.underlying39 sz_5 (by omega))) hS ?_
              refine D.call 6 rfl (by kernel_rfl) (fun _ _ _ h => h) rfl en_70 rfl (fun w' hw => refnumber_any _ _ _ _ _ ((part_nums (i := 1) (j := 9) (hr.ext hw) (by omega) (by omega) hnc).here (by omega)) (mid_bytes hz _ _) (by omega)) hS ?_
              refine D.call 9 rfl (by kernel_rfl) (fun _ _ _ h => h) rfl en_70 rfl (fun w' hw => refnumber_any _ _ _ _ _ ((part_nums (i := 9) (j := 17) (hr.ext hw) (by omega) (by omega) hnc).here (by omega)) (mid_bytes hz _ _) (by omega)) hS ?_
              refine D.two 10 17 (by kernel_rfl) rfl rfl ?_ ?_
              · refine L.bslice (vs := []) rfl Evs.nil rfl rfl rfl rfl Tryd.underlying39 sz_5 zr_5 (by decide) ?_
                intro b5 w5 hb5 hs5 hk5 he5
                have hS1 := hS.trans he5
                refine L.nil ?_
                refine ⟨fun _ => hS1, ?_⟩
                have ho5 : w5.ownsRow w2.heap.size 5 1 (.slice (some ⟨b5, 0, none⟩) 0 0) 0 (nums .u8 []) := blk_own1 hk5 (by rw [hb5]; exact hS.le) (by decide) rfl
                have hz5 := hS1.le
                refine D.two 15 17 (by kernel_rfl) rfl rfl ?_ ?_
                · refine L.appendQ (q := m) (ys := ((zs.drop 19).take m)) rfl rfl rfl Tryd.underlying39 el_5 (ho5) (hrV _ hS1) (by omega) (by simp) (by unfold maxLen; omega) (by omega) ?_
                  intro A6 c6 w6 ho6 hg6 hb6 hor6
                  have hS2 := hS1.low hb6 (Nat.le_refl _)
                  refine L.nil ?_
                  refine ⟨fun _ => hS2, ?_⟩
                  have hz6 := hS2.le
                  refine D.va 16 rfl (by kernel_rfl) (fun _ _ _ h => h) rfl (fun w' hw => X.build (l := [_, _, _, _]) (Evs.cons (by conv => lhs; whnf) (Evs.cons (by conv => lhs; whnf) (Evs.cons (by conv => lhs; whnf) (Evs.cons (by conv => lhs; whnf) Evs.nil)))) (bld_run Tryd.underlying75 (bp_75 Tryd.underlying75) zr_75 rfl)) hS2 ?_
                  refine D.one 17 (by kernel_rfl) rfl ?_
                  refine L.alloc rfl zr_75 ?_
                  intro b7 w7 hb7 hs7 hk7 he7
                  have hS3 := hS2.trans he7
                  refine L.nil ?_
                  refine ⟨fun _ => hS3, ?_⟩
                  refine D.one 18 (by kernel_rfl) rfl ?_
                  refine L.storeAgg (vs := [_, _, _, _]) rfl rfl rfl rfl sz_75 (hk7) rfl ?_
                  intro w8 hk8 hg8 hs8
                  have hS4 := hS3.grw hg8 (by intro g hg; injection hg with hg; omega)
                  refine L.nil ?_
                  refine ⟨fun _ => hS4, ?_⟩
                  refine D.done (by kernel_rfl) ?_
                  replace hr := hr.ext hS4
                  replace hk := hk.ext hS4
                  refine ⟨(b7, A6, c6), At1 (by first | rfl | exact at_int rfl (by omega) | exact at_slice rfl (by omega) | exact at_int rfl (by simp)), (by (iterate 18 refine Agr.lk rfl ?_); exact Agr.rfl'), ?_⟩
                  exact ⟨hk8, by omega, (ho6.ext he7).kept hg8 (.inr (own_blk_ne (ho6.ext he7) hk7 (by decide))), hS4⟩
                · refine L.alloc rfl zr_75 ?_
                  intro b7 w7 hb7 hs7 hk7 he7
                  have hS2 := hS1.trans he7
                  refine L.nil ?_
                  refine ⟨fun _ => hS2, ?_⟩
                  have hz7 := hS2.le
                  refine D.one 15 (by kernel_rfl) rfl ?_
                  refine L.appendQ (q := m) (ys := ((zs.drop 19).take m)) rfl rfl rfl Tryd.underlying39 el_5 (ho5.ext he7) (hrV _ hS2) (by omega) (by simp) (by unfold maxLen; omega) (by omega) ?_
                  intro A6 c6 w6 ho6 hg6 hb6 hor6
                  have hS3 := hS2.low hb6 (Nat.le_refl _)
                  refine L.nil ?_
                  refine ⟨fun _ => hS3, ?_⟩
                  have hz6 := hS3.le
                  have hk7 := hk7.grown hg6 (fun e => own_blk_ne (ho5.ext he7) hk7 (by decide) e.symm)
                  refine D.va 16 rfl (by kernel_rfl) (fun _ _ _ h => h) rfl (fun w' hw => X.build (l := [_, _, _, _]) (Evs.cons (by conv => lhs; whnf) (Evs.cons (by conv => lhs; whnf) (Evs.cons (by conv => lhs; whnf) (Evs.cons (by conv => lhs; whnf) Evs.nil)))) (bld_run Tryd.underlying75 (bp_75 Tryd.underlying75) zr_75 rfl)) hS3 ?_
                  refine D.one 18 (by kernel_rfl) rfl ?_
                  refine L.storeAgg (vs := [_, _, _, _]) rfl rfl rfl rfl sz_75 (hk7) rfl ?_
                  intro w8 hk8 hg8 hs8
                  have hS4 := hS3.grw hg8 (by intro g hg; injection hg with hg; omega)
                  refine L.nil ?_
                  refine ⟨fun _ => hS4, ?_⟩
                  refine D.done (by kernel_rfl) ?_
                  replace hr := hr.ext hS4
                  replace hk := hk.ext hS4
                  refine ⟨(b7, A6, c6), At1 (by first | rfl | exact at_int rfl (by omega) | exact at_slice rfl (by omega) | exact at_int rfl (by simp)), (by (iterate 18 refine Agr.lk rfl ?_); exact Agr.rfl'), ?_⟩
                  exact ⟨hk8, by omega, ho6.kept hg8 (.inr (own_blk_ne ho6 hk7 (by decide))), hS4⟩
              · refine L.alloc rfl zr_75 ?_
                intro b7 w7 hb7 hs7 hk7 he7
                have hS1 := hS.trans he7
                refine L.nil ?_
                refine ⟨fun _ => hS1, ?_⟩
                refine D.one 10 (by kernel_rfl) rfl ?_
                refine L.bslice (vs := []) rfl Evs.nil rfl rfl rfl rfl Tryd.underlying39 sz_5 zr_5 (by decide) ?_
                intro b5 w5 hb5 hs5 hk5 he5
                have hS2 := hS1.trans he5
                refine L.nil ?_
                refine ⟨fun _ => hS2, ?_⟩
                have ho5 : w5.ownsRow w2.heap.size 5 1 (.slice (some ⟨b5, 0, none⟩) 0 0) 0 (nums .u8 []) := blk_own1 hk5 (by rw [hb5]; exact hS1.le) (by decide) rfl
                have hz5 := hS2.le
                refine D.one 15 (by kernel_rfl) rfl ?_
                refine L.appendQ (q := m) (ys := ((zs.drop 19).take m)) rfl rfl rfl Tryd.underlying39 el_5 (ho5) (hrV _ hS2) (by omega) (by simp) (by unfold maxLen; omega) (by omega) ?_
                intro A6 c6 w6 ho6 hg6 hb6 hor6
                have hS3 := hS2.low hb6 (Nat.le_refl _)
                refine L.nil ?_
                refine ⟨fun _ => hS3, ?_⟩
                have hz6 := hS3.le
                have hz4 := hS.le
                have hk7 := (hk7.ext he5).grown hg6 (fun e => own_blk_ne ho5 (hk7.ext he5) (by decide) e.symm)
                refine D.va 16 rfl (by kernel_rfl) (fun _ _ _ h => h) rfl (fun w' hw => X.build (l := [_, _, _, _]) (Evs.cons (by conv => lhs; whnf) (Evs.cons (by conv => lhs; whnf) (Evs.cons (by conv => lhs; whnf) (Evs.cons (by conv => lhs; whnf) Evs.nil)))) (bld_run Tryd.underlying75 (bp_75 Tryd.underlying75) zr_75 rfl)) hS3 ?_
                refine D.one 18 (by kernel_rfl) rfl ?_
                refine L.storeAgg (vs := [_, _, _, _]) rfl rfl rfl rfl sz_75 (hk7) rfl ?_
                intro w8 hk8 hg8 hs8
                have hS4 := hS3.grw hg8 (by intro g hg; injection hg with hg; omega)
                refine L.nil ?_
                refine ⟨fun _ => hS4, ?_⟩
                refine D.done (by kernel_rfl) ?_
                replace hr := hr.ext hS4
                replace hk := hk.ext hS4
                refine ⟨(b7, A6, c6), At1 (by first | rfl | exact at_int rfl (by omega) | exact at_slice rfl (by omega) | exact at_int rfl (by simp)), (by (iterate 18 refine Agr.lk rfl ?_); exact Agr.rfl'), ?_⟩
                exact ⟨hk8, by omega, ho6.kept hg8 (.inr (own_blk_ne ho6 hk7 (by decide))), hS4⟩
            · rintro ⟨b7, x7, c7⟩ g2 w7 ⟨hk7, hb7, ho7, he7⟩
              have hrw := own_reads ho7
              have hrz := hr.ext he7
              replace hk := hk.ext he7
              have hzle := he7.le
              obtain ⟨a0, a1⟩ := num_mid hz 1 8 (by omega)
              obtain ⟨b0, b1⟩ := num_mid hz 9 8 (by omega)
              have hVb := mid_bytes hz 19 m
              have hsec : sec (zs.getD 0 0) (num ((zs.drop 1).take 8)) (num ((zs.drop 9).take 8)) ((zs.drop 19).take m) (smZ (hd (zs.getD 0 0) (num ((zs.drop 1).take 8)) (num ((zs.drop 9).take 8)) ((zs.drop 19).take m))) = zs ↔ ¬ ∃ z ∈ sT zs, z ≠ 0 := by
                have := sec_same smZ smZ_length zs hz hl (by rw [hgood, hsm]) (by omega)
                rwa [hm, Int.toNat_natCast] at this
              refine J.seq ?_
              refine J.seq ?_
              refine J.draw (ℓ := 1000000) (S := Ext w7) mixed (fun w8 hS hS_h => ?_)
              refine D.va 0 rfl (by kernel_rfl) (fun _ _ _ h => h) rfl (fun w' hw => (by first | exact X.loadAgg rfl (range_l (hk.ext hw)) Tryd.underlying75 rfl (by kernel_rfl) | exact X.loadAgg rfl (range_blk (hk.ext hw)) Tryd.underlying75 rfl (by kernel_rfl) | exact X.loadAgg rfl (range_l (hk7.ext hw)) Tryd.underlying75 rfl (by kernel_rfl) | exact X.loadAgg rfl (range_blk (hk7.ext hw)) Tryd.underlying75 rfl (by kernel_rfl))) hS ?_
              refine D.va 3 rfl (by kernel_rfl) (fun _ _ _ h => h) rfl (fun w' hw => X.move (by conv => lhs; whnf)) hS ?_
              refine D.va 4 rfl (by kernel_rfl) (fun _ _ _ h => h) rfl (fun w' hw => X.conv rfl ((hrz.ext hw).conv Tryd.underlying39 Tryd.underlying5 Tryd.underlying9)) hS ?_
              refine D.one 1 (by kernel_rfl) rfl ?_
              refine L.call rfl en_30 rfl (frefput20 _ _ _ x7 m c7 ((zs.drop 19).take m) _ (by omega) (by omega) a0 (by omega) b0 (by omega) hnm ((hrw.ext hS).here (by omega)) hVb) ?_
              rintro e w9 ⟨A9, c9, rfl, ho9, hb9⟩
              refine ⟨_, rfl, ?_⟩
              have hS1 := hS.trans hb9
              refine L.nil ?_
              refine ⟨fun _ => hS1, ?_⟩
              refine D.one 2 (by kernel_rfl) rfl ?_
              refine L.va rfl (X.conv rfl ((own_reads ho9).conv Tryd.underlying39 Tryd.underlying5 Tryd.underlying9)) ?_
              refine L.nil ?_
              refine ⟨fun _ => hS1, ?_⟩
              refine D.va 5 rfl (by kernel_rfl) (fun _ _ _ h => h) rfl (fun w' hw => X.neqS rfl rfl) hS1 ?_
              refine D.done (by kernel_rfl) ?_
              replace hk := hk.ext hS1
              replace hk7 := hk7.ext hS1
              replace hrw := hrw.ext hS1
              replace he7 := he7.ext hS1
              replace ho7 := ho7.ext hS1
              replace hrz := hrz.ext hS1
              have hq : strOfNums (sec (zs.getD 0 0) (num ((zs.drop 1).take 8)) (num ((zs.drop 9).take 8)) ((zs.drop 19).take m) (smZ (hd (zs.getD 0 0) (num ((zs.drop 1).take 8)) (num ((zs.drop 9).take 8)) ((zs.drop 19).take m)))) = strOfNums zs ↔ ¬ ∃ z ∈ sT zs, z ≠ 0 := by
                rw [← hsec]
                constructor
                · intro h
                  refine strOfNums_inj ?_ hz (by rw [h])
                  intro z hzm
                  unfold sec at hzm
                  rw [List.mem_append] at hzm
                  rcases hzm with h | h
                  · exact hd_bytes _ _ _ _ (by omega) hVb z h
                  · exact smZ_bytes _ z h
                · intro h; rw [h]
              refine J.ndec rfl (fun hcmp => ?_) (fun hcmp => ?_)
              · have he6 : sE smZ zs = 6 := by
                  rw [hE, if_pos]
                  exact Classical.byContradiction fun h => hcmp (hq.2 h)
                refine J.seq ?_
                refine J.region ?_
                refine L.va rfl (X.build (l := [_, _, _, _]) Evs.nil (bld_run Tryd.underlying75 (bp_75 Tryd.underlying75) zr_75 rfl)) ?_
                refine L.storeAgg (vs := [_, _, _, _]) rfl rfl rfl rfl sz_75 (hk) rfl ?_
                intro wa hka hga hsa
                refine L.va rfl (X.assign (by conv => lhs; whnf)) ?_
                refine L.nil ?_
                refine J.ret ?_
                refine thn_ret <| ?_
                refine finCT rfl (run_cell hka Tryd.underlying75 rfl (by kernel_rfl)) ?_
                exact SGetF_bad (by decide) he6 ((he.trans he7).grw hga (by intro g hg; injection hg with hg; omega))
              · have hok : sE smZ zs = 0 := by
                  rw [hE, if_neg (hq.1 hcmp)]
                refine J.skip ?_
                refine J.seq ?_
                refine J.region ?_
                refine L.va rfl ((by first | exact X.loadAgg rfl (range_l hk) Tryd.underlying75 rfl (by kernel_rfl) | exact X.loadAgg rfl (range_blk hk) Tryd.underlying75 rfl (by kernel_rfl) | exact X.loadAgg rfl (range_l hk7) Tryd.underlying75 rfl (by kernel_rfl) | exact X.loadAgg rfl (range_blk hk7) Tryd.underlying75 rfl (by kernel_rfl))) ?_
                refine L.storeAgg (vs := [_, _, _, _]) rfl rfl rfl rfl sz_75 (hk) rfl ?_
                intro wa hka hga hsa
                refine L.va rfl (X.assign (by conv => lhs; whnf)) ?_
                refine L.nil ?_
                refine J.ret ?_
                refine finCT rfl (run_cell hka Tryd.underlying75 rfl (by kernel_rfl)) ?_
                have eK : sK smZ zs = zs.getD 0 0 := by unfold sK; rw [if_pos hok]
                have eA : sA smZ zs = num ((zs.drop 1).take 8) := by unfold sA; rw [if_pos hok]
                have eB : sB smZ zs = num ((zs.drop 9).take 8) := by unfold sB; rw [if_pos hok]
                have eV : sV smZ zs = (zs.drop 19).take m := by unfold sV; rw [if_pos hok, hm, Int.toNat_natCast]
                refine ⟨x7, c7, ?_, ?_, ?_, by rw [eV, hVl]; exact (own_bd ho7).1, fun g hg => by
                  rw [eV, hVl] at hg
                  have h1 := (ho7.lt _ hg).1
                  have h2 := he.le
                  omega⟩
                · rw [eK, eA, eB, eV, hVl, hok]; rfl
                · rw [eV, hVl]; exact own_reads (ho7.kept hga (.inr (fun e => by have := (ho7.lt _ e).1; omega)))
                · exact (he.trans he7).grw hga (by intro g hg; injection hg with hg; omega)
end Go.Proofs.YtjdimgigbgafbaaDoor
namespace Go.Proofs.YtjdimgigbgafbaaDoor
set_option maxRecDepth 100000
open Go.RowKit H
open Byts Cod
set_option linter.unusedVariables false
theorem getDb {zs : List Int} (hz : ∀ z ∈ zs, 0 ≤ z ∧ z < 256) (i : Nat) : 0 ≤ zs.getD i 0 ∧ zs.getD i 0 < 256 := by
  rcases Nat.lt_or_ge i zs.length with h | h
  · have e : zs.getD i 0 = zs[i] := by simp [List.getD, h]
    rw [e]
    exact hz _ (List.getElem_mem h)
  · simp [List.getD, h]
theorem byte_at (x : Int) (i : Nat) (h0 : 0 ≤ x) (h : i ≤ 7) {z : Int} (hz : z = 8 * (i : Int)) : IntKind.u8.wrap (x / 2 ^ min z.toNat IntKind.u64.bits) = x / 256 ^ i % 256 := by
  have e : min z.toNat IntKind.u64.bits = 8 * i := by
    rw [show IntKind.u64.bits = 64 from rfl]; omega
  rw [e, show (2 : Int) ^ (8 * i) = 256 ^ i by rw [Int.pow_mul]; rfl]
  rfl
theorem or_next (a b : Int) (ha : 0 ≤ a) (ha1 : a ≤ 72057594037927935) (hb : 0 ≤ b ∧ b < 256) : bits .or .u64 (IntKind.u64.wrap (a * 2 ^ min (8 : Int).toNat IntKind.u64.bits)) b = 256 * a + b := by
  have e0 : a * 2 ^ min (8 : Int).toNat IntKind.u64.bits = 256 * a := by rw [Int.mul_comm]; rfl
  rw [e0, wu64 (by omega), u64_or _ _ (by omega) (by omega) (by omega) (by omega)]
  have e : (256 * a).toNat = a.toNat * 2 ^ 8 := by omega
  rw [e, Nat.mul_comm, ← Nat.two_pow_add_eq_or_of_lt (show b.toNat < 2 ^ 8 by omega)]
  omega
end Go.Proofs.YtjdimgigbgafbaaDoor
namespace Go.Proofs.YtjdimgigbgafbaaDoor
set_option maxRecDepth 100000
open Go.RowKit H
open Byts Cod
set_option linter.unusedVariables false
end Go.Proofs.YtjdimgigbgafbaaDoor
namespace Go.Proofs.YtjdimgigbgafbaaDoor
set_option maxRecDepth 100000
open Go.RowKit H
open Lo Byts Seal Fram
set_option linter.unusedVariables false
namespace H
theorem X.orZ {P : Program} {w : World} {ρ : Operand → Value} {d : Option Tmp} {tx tz ty : TypeId} {x y : Operand} {pos : String} {aft : Array Edge} {g : Option (Nat × Bool)} {k : IntKind} {m n z : Int} (hx : ρ x = .int k m) (hy : ρ y = .int k n) (h : bits .or k m n = z) : (execOp ρ ⟨d, .binOp .or tx x y tz, ty, pos, aft, g⟩).run P w = .ok (.value (.int k z)) w := by
  rw [← h]; exact X.or hx hy
end H
theorem or_hi (a b : Int) (ha : 0 ≤ a ∧ a < 256) (hb : 0 ≤ b ∧ b < 256) : bits .or .i64 (IntKind.i64.wrap (a * 2 ^ min (8 : Int).toNat IntKind.i64.bits)) b = a * 256 + b := by
  have e : a * 2 ^ min (8 : Int).toNat IntKind.i64.bits = a * 256 := rfl
  rw [e, w64 (by omega)]
  exact or64_low a b ha.1 (by omega) hb
theorem num_lt7 {l : List Int} (h : Bytes l) {i : Nat} (hi : i ≤ 7) : num (l.take i) ≤ 72057594037927935 := by
  have h1 := (num_lt (l.take i) (fun z hz => h z (List.mem_of_mem_take hz))).2
  have h2 : (l.take i).length ≤ 7 := by rw [List.length_take]; omega
  have h3 : (256 : Int) ^ (l.take i).length ≤ 256 ^ 7 := by
    have := Nat.pow_le_pow_right (n := 256) (by decide) h2
    exact_mod_cast this
  have h4 : (256 : Int) ^ 7 = 72057594037927936 := by decide
  omega
theorem Reads.past {w w' : World} {B b t n : Nat} {A : Option Addr} {zs : List Int} {cs : Array Value} (h : Reads w B 1 A n (nums .u8 zs)) (hb : Blk w b t cs) (hne : ∀ (i : Nat) (z : Int), cs[i]? ≠ some (.int .u8 z)) (hg : w.grownBy w' (some b)) : Reads w' B 1 A n (nums .u8 zs) := by
  refine ⟨h.1, fun h0 => ?_⟩
  obtain ⟨g, off, u, e, hB, hu, hc⟩ := h.at_ (k := 0) h0
  obtain ⟨ad, e2, hB2, hcs⟩ := h.2 h0
  rw [e] at e2
  injection e2 with e2
  subst e2
  have hgb : g ≠ b := by
    intro e3
    subst e3
    rw [hb.cell] at hc
    have : ∃ z, u = .int .u8 z := by
      simp only [nums, List.getElem?_map] at hu
      cases hz : zs[0]? with
      | none => rw [hz] at hu; cases hu
      | some z => rw [hz] at hu; exact ⟨z, by injection hu with hu; exact hu.symm⟩
    obtain ⟨z, rfl⟩ := this
    exact hne _ z hc
  refine ⟨_, e, hB, fun j u hu => ?_⟩
  have := hcs j u hu
  rw [Addr.add_mid] at this ⊢
  have hlt : g < w.heap.size := by
    apply Classical.byContradiction
    intro hn
    have hno : w.heap[g]? = none := Array.getElem?_eq_none (by omega)
    simp [World.cell?, hno] at this
  rw [← this]
  exact World.cell?_of_block (a := ⟨g, off + j, none⟩) (hg.block g hlt (fun e => hgb (by injection e)))
def pcV (b : Bool) (zs : List Int) (A : Option Addr) (c : Nat) : Value :=
  if b = true then .agg #[.int .i64 (pAt zs), .int .u64 (pPrev zs), .int .u64 (sB smZ zs), .slice A (pBy zs).length c] else .agg #[.int .i64 0, .int .u64 0, .int .u64 0, .slice none 0 0]
theorem num_step (l : List Int) {i : Nat} (h : i < l.length) : num (l.take (i + 1)) = 256 * num (l.take i) + l.getD i 0 := by
  rw [List.take_add_one, List.getElem?_eq_getElem h, Option.toList_some, num_snoc, List.getD, List.getElem?_eq_getElem h]
  rfl
theorem lread (A : Option Addr) (c : Nat) (zs : List Int) (ep : Int) (w : World) (ht : Tab w) (hr : Reads w w.heap.size 1 A 1024 (nums .u8 zs)) (hz : Bytes zs) (hnc : 1024 ≤ c) (hc0 : c ≤ 9223372036854775807) :
    Calls Tryd.prog 37 #[.slice A 1024 c, .int .u64 ep] w fun e w' => ∃ A' c', e = .returned (.tuple #[pcV (okP zs ep) zs A' c', .bool (okP zs ep)]) ∧ (okP zs ep = true → Reads w' w'.heap.size 1 A' (pBy zs).length (nums .u8 (pBy zs)) ∧ ∀ g, Value.ownBlock (.slice A' (pBy zs).length c') = some g → w.heap.size ≤ g) ∧ Ext w w' := by
  have hl : zs.length = 1024 := by have := hr.1; simpa [nums] using this
  have hV := sV_le hz
  have hVb := sV_bytes smZ zs hz
  have no : okP zs ep = false → ∀ (w' : World), Ext w w' → ∃ A' c', Ending.returned (.tuple #[.agg #[.int .i64 0, .int .u64 0, .int .u64 0, .slice none 0 0], .bool false]) = .returned (.tuple #[pcV (okP zs ep) zs A' c', .bool (okP zs ep)]) ∧ (okP zs ep = true → Reads w' w'.heap.size 1 A' (pBy zs).length (nums .u8 (pBy zs)) ∧ ∀ g, Value.ownBlock (.slice A' (pBy zs).length c') = some g → w.heap.size ≤ g) ∧ Ext w w' := by
    intro h w' he
    rw [h]
    exact ⟨none, 0, rfl, (fun e => by cases e), he⟩
  have bad : ¬ (sE smZ zs = 0 ∧ sK smZ zs = 1 ∧ sA smZ zs = ep ∧ 1 ≤ sB smZ zs ∧ sB smZ zs < 4611686018427387904 ∧ 10 < (sV smZ zs).length) → okP zs ep = false := fun h => decide_eq_false h
  refine enter Tryd.func37 rfl (by kernel_rfl) ?_
  refine J.seq ?_
  refine J.region ?_
  refine L.alloc rfl zr_87 ?_
  intro b1 w1 hb1 hs1 hk1 he1
  have hr1 := (hr.ext he1).more he1.le
  refine L.va rfl (X.assign (by conv => lhs; whnf)) ?_
  refine L.nil ?_
  refine J.seq ?_
  refine J.region ?_
  refine L.va rfl (X.move (by conv => lhs; whnf)) ?_
  refine L.call rfl en_57 rfl (sget_mainF A c zs w1 (tabx ht he1) hr1 hz hnc hc0) ?_
  rintro e w2 ⟨A2, c2, rfl, hr2, he2, hc2, hf2⟩
  refine ⟨_, rfl, ?_⟩
  have he2 : Ext w1 w2 := he2
  have he02 := he1.trans he2
  have hk12 := hk1.ext he2
  refine L.va rfl (X.move (by conv => lhs; whnf)) ?_
  refine L.va rfl (X.extract rfl rfl) ?_
  refine L.va rfl (X.extract rfl rfl) ?_
  refine L.alloc rfl zr_75 ?_
  intro b3 w3 hb3 hs3 hk3 he3
  refine L.storeAgg (vs := [_, _, _, _]) rfl rfl rfl rfl sz_75 (hk3) rfl ?_
  intro w4 hk4 hg4 hs4
  have he24 : Ext w2 w4 := he3.grw hg4 (by intro g hg; injection hg with hg; omega)
  have he04 := he02.trans he24
  have hk14 := hk12.ext he24
  have hk4 : Blk w4 b3 75 #[.int .i64 (sK smZ zs), .int .u64 (sA smZ zs), .int .u64 (sB smZ zs), .slice A2 (sV smZ zs).length c2] := hk4
  have hr4 := hr2.ext he24
  have z4 := he24.le
  refine L.va rfl (X.assign (by conv => lhs; whnf)) ?_
  refine L.nil ?_
  refine J.seq ?_
  refine J.seq ?_
  refine J.region ?_
  refine L.va rfl (X.move (by conv => lhs; whnf)) ?_
  refine L.va rfl (X.neq rfl rfl) ?_
  refine L.va rfl (X.move (by conv => lhs; whnf)) ?_
  refine L.caseNdec (k := 18) rfl (fun h1 => ?_) (fun h1 => ?_)
  · refine L.no rfl ?_
    refine L.no rfl ?_
    refine L.no rfl ?_
    refine L.va rfl (X.pickT rfl (by conv => lhs; whnf)) ?_
    refine L.va rfl (X.move (by conv => lhs; whnf)) ?_
    refine L.no rfl ?_
    refine L.no rfl ?_
    refine L.no rfl ?_
    refine L.no rfl ?_
    refine L.va rfl (X.pickT rfl (by conv => lhs; whnf)) ?_
    refine L.va rfl (X.move (by conv => lhs; whnf)) ?_
    refine L.no rfl ?_
    refine L.no rfl ?_
    refine L.no rfl ?_
    refine L.va rfl (X.pickT rfl (by conv => lhs; whnf)) ?_
    refine L.va rfl (X.move (by conv => lhs; whnf)) ?_
    refine L.no rfl ?_
    refine L.no rfl ?_
    refine L.no rfl ?_
    refine L.va rfl (X.pickT rfl (by conv => lhs; whnf)) ?_
    refine L.va rfl (X.move (by conv => lhs; whnf)) ?_
    refine L.no rfl ?_
    refine L.no rfl ?_
    refine L.no rfl ?_
    refine L.no rfl ?_
    refine L.va rfl (X.pickT rfl (by conv => lhs; whnf)) ?_
    refine L.nil ?_
    refine J.iteT rfl ?_
    refine J.seq ?_
    refine J.region ?_
    refine L.va rfl (X.build (l := [_, _, _, _]) Evs.nil (bld_run Tryd.underlying87 (bp_87 Tryd.underlying87) zr_87 rfl)) ?_
    refine L.storeAgg (vs := [_, _, _, _]) rfl rfl rfl rfl sz_87 (hk14) rfl ?_
    intro w5 hk5 hg5 hs5
    refine L.va rfl (X.assign (by conv => lhs; whnf)) ?_
    refine L.nil ?_
    refine J.ret ?_
    refine thn_ret <| ?_
    refine finCT rfl (run_cell hk5 Tryd.underlying87 rfl (by kernel_rfl)) ?_
    exact no (bad fun h => h1 h.1) _ (he04.grw hg5 (by intro g hg; injection hg with hg; omega))
  · refine L.va rfl (X.fieldAddr rfl Tryd.underlying75 rfl sz_3 (by decide)) ?_
    refine L.va rfl (X.load rfl sc_3 (by first | exact Ld.blk hk14 rfl | exact Ld.blk hk4 rfl)) ?_
    refine L.va rfl (X.neq rfl rfl) ?_
    refine L.va rfl (X.pickF rfl (by conv => lhs; whnf)) ?_
    refine L.va rfl (X.move (by conv => lhs; whnf)) ?_
    refine L.caseNdec (k := 23) rfl (fun h2 => ?_) (fun h2 => ?_)
    · refine L.no rfl ?_
      refine L.no rfl ?_
      refine L.no rfl ?_
      refine L.no rfl ?_
      refine L.va rfl (X.pickT rfl (by conv => lhs; whnf)) ?_
      refine L.va rfl (X.move (by conv => lhs; whnf)) ?_
      refine L.no rfl ?_
      refine L.no rfl ?_
      refine L.no rfl ?_
      refine L.va rfl (X.pickT rfl (by conv => lhs; whnf)) ?_
      refine L.va rfl (X.move (by conv => lhs; whnf)) ?_
      refine L.no rfl ?_
      refine L.no rfl ?_
      refine L.no rfl ?_
      refine L.va rfl (X.pickT rfl (by conv => lhs; whnf)) ?_
      refine L.va rfl (X.move (by conv => lhs; whnf)) ?_
      refine L.no rfl ?_
      refine L.no rfl ?_
      refine L.no rfl ?_
      refine L.no rfl ?_
      refine L.va rfl (X.pickT rfl (by conv => lhs; whnf)) ?_
      refine L.nil ?_
      refine J.iteT rfl ?_
      refine J.seq ?_
      refine J.region ?_
      refine L.va rfl (X.build (l := [_, _, _, _]) Evs.nil (bld_run Tryd.underlying87 (bp_87 Tryd.underlying87) zr_87 rfl)) ?_
      refine L.storeAgg (vs := [_, _, _, _]) rfl rfl rfl rfl sz_87 (hk14) rfl ?_
      intro w5 hk5 hg5 hs5
      refine L.va rfl (X.assign (by conv => lhs; whnf)) ?_
      refine L.nil ?_
      refine J.ret ?_
      refine thn_ret <| ?_
      refine finCT rfl (run_cell hk5 Tryd.underlying87 rfl (by kernel_rfl)) ?_
      exact no (bad fun h => h2 h.2.1) _ (he04.grw hg5 (by intro g hg; injection hg with hg; omega))
    · refine L.va rfl (X.fieldAddr rfl Tryd.underlying75 rfl sz_35 (by decide)) ?_
      refine L.va rfl (X.load rfl sc_35 (by first | exact Ld.blk hk14 rfl | exact Ld.blk hk4 rfl)) ?_
      refine L.va rfl (X.move (by conv => lhs; whnf)) ?_
      refine L.va rfl (X.neq rfl rfl) ?_
      refine L.va rfl (X.pickF rfl (by conv => lhs; whnf)) ?_
      refine L.va rfl (X.move (by conv => lhs; whnf)) ?_
      refine L.caseNdec (k := 29) rfl (fun h3 => ?_) (fun h3 => ?_)
      · refine L.no rfl ?_
        refine L.no rfl ?_
        refine L.no rfl ?_
        refine L.va rfl (X.pickT rfl (by conv => lhs; whnf)) ?_
        refine L.va rfl (X.move (by conv => lhs; whnf)) ?_
        refine L.no rfl ?_
        refine L.no rfl ?_
        refine L.no rfl ?_
        refine L.va rfl (X.pickT rfl (by conv => lhs; whnf)) ?_
        refine L.va rfl (X.move (by conv => lhs; whnf)) ?_
        refine L.no rfl ?_
        refine L.no rfl ?_
        refine L.no rfl ?_
        refine L.no rfl ?_
        refine L.va rfl (X.pickT rfl (by conv => lhs; whnf)) ?_
        refine L.nil ?_
        refine J.iteT rfl ?_
        refine J.seq ?_
        refine J.region ?_
        refine L.va rfl (X.build (l := [_, _, _, _]) Evs.nil (bld_run Tryd.underlying87 (bp_87 Tryd.underlying87) zr_87 rfl)) ?_
        refine L.storeAgg (vs := [_, _, _, _]) rfl rfl rfl rfl sz_87 (hk14) rfl ?_
        intro w5 hk5 hg5 hs5
        refine L.va rfl (X.assign (by conv => lhs; whnf)) ?_
        refine L.nil ?_
        refine J.ret ?_
        refine thn_ret <| ?_
        refine finCT rfl (run_cell hk5 Tryd.underlying87 rfl (by kernel_rfl)) ?_
        exact no (bad fun h => h3 h.2.2.1) _ (he04.grw hg5 (by intro g hg; injection hg with hg; omega))
      · refine L.va rfl (X.fieldAddr rfl Tryd.underlying75 rfl sz_35 (by decide)) ?_
        refine L.va rfl (X.load rfl sc_35 (by first | exact Ld.blk hk14 rfl | exact Ld.blk hk4 rfl)) ?_
        refine L.va rfl (X.lss rfl rfl) ?_
        refine L.va rfl (X.pickF rfl (by conv => lhs; whnf)) ?_
        refine L.va rfl (X.move (by conv => lhs; whnf)) ?_
        refine L.caseDec (k := 34) rfl (fun h4 => ?_) (fun h4 => ?_)
        · refine L.no rfl ?_
          refine L.no rfl ?_
          refine L.no rfl ?_
          refine L.va rfl (X.pickT rfl (by conv => lhs; whnf)) ?_
          refine L.va rfl (X.move (by conv => lhs; whnf)) ?_
          refine L.no rfl ?_
          refine L.no rfl ?_
          refine L.no rfl ?_
          refine L.no rfl ?_
          refine L.va rfl (X.pickT rfl (by conv => lhs; whnf)) ?_
          refine L.nil ?_
          refine J.iteT rfl ?_
          refine J.seq ?_
          refine J.region ?_
          refine L.va rfl (X.build (l := [_, _, _, _]) Evs.nil (bld_run Tryd.underlying87 (bp_87 Tryd.underlying87) zr_87 rfl)) ?_
          refine L.storeAgg (vs := [_, _, _, _]) rfl rfl rfl rfl sz_87 (hk14) rfl ?_
          intro w5 hk5 hg5 hs5
          refine L.va rfl (X.assign (by conv => lhs; whnf)) ?_
          refine L.nil ?_
          refine J.ret ?_
          refine thn_ret <| ?_
          refine finCT rfl (run_cell hk5 Tryd.underlying87 rfl (by kernel_rfl)) ?_
          exact no (bad fun h => by have := h.2.2.2.1; omega) _ (he04.grw hg5 (by intro g hg; injection hg with hg; omega))
        · refine L.va rfl (X.fieldAddr rfl Tryd.underlying75 rfl sz_35 (by decide)) ?_
          refine L.va rfl (X.load rfl sc_35 (by first | exact Ld.blk hk14 rfl | exact Ld.blk hk4 rfl)) ?_
          refine L.va rfl (X.geq rfl rfl) ?_
          refine L.va rfl (X.pickF rfl (by conv => lhs; whnf)) ?_
          refine L.va rfl (X.move (by conv => lhs; whnf)) ?_
          refine L.caseDec (k := 39) rfl (fun h5 => ?_) (fun h5 => ?_)
          · refine L.no rfl ?_
            refine L.no rfl ?_
            refine L.no rfl ?_
            refine L.no rfl ?_
            refine L.va rfl (X.pickT rfl (by conv => lhs; whnf)) ?_
            refine L.nil ?_
            refine J.iteT rfl ?_
            refine J.seq ?_
            refine J.region ?_
            refine L.va rfl (X.build (l := [_, _, _, _]) Evs.nil (bld_run Tryd.underlying87 (bp_87 Tryd.underlying87) zr_87 rfl)) ?_
            refine L.storeAgg (vs := [_, _, _, _]) rfl rfl rfl rfl sz_87 (hk14) rfl ?_
            intro w5 hk5 hg5 hs5
            refine L.va rfl (X.assign (by conv => lhs; whnf)) ?_
            refine L.nil ?_
            refine J.ret ?_
            refine thn_ret <| ?_
            refine finCT rfl (run_cell hk5 Tryd.underlying87 rfl (by kernel_rfl)) ?_
            exact no (bad fun h => by have := h.2.2.2.2.1; omega) _ (he04.grw hg5 (by intro g hg; injection hg with hg; omega))
          · refine L.va rfl (X.fieldAddr rfl Tryd.underlying75 rfl sz_39 (by decide)) ?_
            refine L.va rfl (X.load rfl sc_39 (by first | exact Ld.blk hk14 rfl | exact Ld.blk hk4 rfl)) ?_
            refine L.va rfl (X.len rfl Tryd.underlying39) ?_
            refine L.va rfl (X.leq rfl rfl) ?_
            refine L.va rfl (X.pickF rfl (by conv => lhs; whnf)) ?_
            refine L.nil ?_
            refine J.dec rfl (fun h6 => ?_) (fun h6 => ?_)
            · refine J.seq ?_
              refine J.region ?_
              refine L.va rfl (X.build (l := [_, _, _, _]) Evs.nil (bld_run Tryd.underlying87 (bp_87 Tryd.underlying87) zr_87 rfl)) ?_
              refine L.storeAgg (vs := [_, _, _, _]) rfl rfl rfl rfl sz_87 (hk14) rfl ?_
              intro w5 hk5 hg5 hs5
              refine L.va rfl (X.assign (by conv => lhs; whnf)) ?_
              refine L.nil ?_
              refine J.ret ?_
              refine thn_ret <| ?_
              refine finCT rfl (run_cell hk5 Tryd.underlying87 rfl (by kernel_rfl)) ?_
              exact no (bad fun h => by have := h.2.2.2.2.2; omega) _ (he04.grw hg5 (by intro g hg; injection hg with hg; omega))
            · have hok : okP zs ep = true := decide_eq_true ⟨h1, h2, h3, by omega, by omega, by omega⟩
              rw [hok]
              have hlen : 11 ≤ (sV smZ zs).length := by omega
              have hA := hr4.some_ (by omega)
              have y0 := getDb hVb 0
              have y1 := getDb hVb 1
              refine J.skip ?_
              refine J.cut (X := Nat) [8, 46, 47, 48, 49, 50, 51, 52, 53, 54, 55, 56, 57, 58, 59, 60, 61, 62, 63] (fun b => [(8, .pointer (some ⟨b, 0, none⟩))]) (fun b w' => Blk w' b 87 #[.int .i64 (pAt zs), .int .u64 0, .int .u64 (sB smZ zs), .slice (if c2 = 10 then A2 else A2.map (·.add (10 * 1))) ((sV smZ zs).length - 10) (c2 - 10)] ∧ w4.heap.size ≤ b ∧ Ext w4 w') ?_ ?_
              · refine J.draw (ℓ := 1000000) (S := Ext w4) mixed (fun w5 hS hS_h => ?_)
                have z5 := hS.le
                refine D.va 0 rfl (by kernel_rfl) (fun _ _ _ h => h) rfl (fun w' hw => X.fieldAddr rfl Tryd.underlying75 rfl sz_39 (by decide)) hS ?_
                refine D.va 1 rfl (by kernel_rfl) (fun _ _ _ h => h) rfl (fun w' hw => X.load rfl sc_39 (by first | exact Ld.blk (hk14.ext hw) rfl | exact Ld.blk (hk4.ext hw) rfl | exact Ld.num (hr4.ext hw) (by omega) | exact hA)) hS ?_
                refine D.va 2 rfl (by kernel_rfl) (fun _ _ _ h => h) rfl (fun w' hw => X.index1n (j := 0) rfl rfl Tryd.underlying39 sz_5 (by first | exact Option.some_ne_none _ | exact hr4.some_ (by omega) | exact hA) (by omega)) hS ?_
                refine D.va 3 rfl (by kernel_rfl) (fun _ _ _ h => h) rfl (fun w' hw => X.load rfl sc_5 (by first | exact Ld.blk (hk14.ext hw) rfl | exact Ld.blk (hk4.ext hw) rfl | exact Ld.num (hr4.ext hw) (by omega) | exact hA)) hS ?_
                refine D.va 4 rfl (by kernel_rfl) (fun _ _ _ h => h) rfl (fun w' hw => (by first | exact X.convI rfl is_5 Tryd.underlying3 (by omega) | exact X.convw rfl is_5 Tryd.underlying3)) hS ?_
                refine D.va 5 rfl (by kernel_rfl) (fun _ _ _ h => h) rfl (fun w' hw => X.shl rfl rfl (by omega)) hS ?_
                refine D.va 6 rfl (by kernel_rfl) (fun _ _ _ h => h) rfl (fun w' hw => X.fieldAddr rfl Tryd.underlying75 rfl sz_39 (by decide)) hS ?_
                refine D.va 7 rfl (by kernel_rfl) (fun _ _ _ h => h) rfl (fun w' hw => X.load rfl sc_39 (by first | exact Ld.blk (hk14.ext hw) rfl | exact Ld.blk (hk4.ext hw) rfl | exact Ld.num (hr4.ext hw) (by omega) | exact hA)) hS ?_
                refine D.va 8 rfl (by kernel_rfl) (fun _ _ _ h => h) rfl (fun w' hw => X.index1n (j := 1) rfl rfl Tryd.underlying39 sz_5 (by first | exact Option.some_ne_none _ | exact hr4.some_ (by omega) | exact hA) (by omega)) hS ?_
                refine D.va 9 rfl (by kernel_rfl) (fun _ _ _ h => h) rfl (fun w' hw => X.load rfl sc_5 (by first | exact Ld.blk (hk14.ext hw) rfl | exact Ld.blk (hk4.ext hw) rfl | exact Ld.num (hr4.ext hw) (by omega) | exact hA)) hS ?_
                refine D.va 10 rfl (by kernel_rfl) (fun _ _ _ h => h) rfl (fun w' hw => (by first | exact X.convI rfl is_5 Tryd.underlying3 (by omega) | exact X.convw rfl is_5 Tryd.underlying3)) hS ?_
                refine D.va 11 rfl (by kernel_rfl) (fun _ _ _ h => h) rfl (fun w' hw => X.orZ rfl rfl (or_hi _ _ y0 y1)) hS ?_
                refine D.va 12 rfl (by kernel_rfl) (fun _ _ _ h => h) rfl (fun w' hw => X.fieldAddr rfl Tryd.underlying75 rfl sz_35 (by decide)) hS ?_
                refine D.va 13 rfl (by kernel_rfl) (fun _ _ _ h => h) rfl (fun w' hw => X.load rfl sc_35 (by first | exact Ld.blk (hk14.ext hw) rfl | exact Ld.blk (hk4.ext hw) rfl | exact Ld.num (hr4.ext hw) (by omega) | exact hA)) hS ?_
                refine D.va 14 rfl (by kernel_rfl) (fun _ _ _ h => h) rfl (fun w' hw => X.fieldAddr rfl Tryd.underlying75 rfl sz_39 (by decide)) hS ?_
                refine D.va 15 rfl (by kernel_rfl) (fun _ _ _ h => h) rfl (fun w' hw => X.load rfl sc_39 (by first | exact Ld.blk (hk14.ext hw) rfl | exact Ld.blk (hk4.ext hw) rfl | exact Ld.num (hr4.ext hw) (by omega) | exact hA)) hS ?_
                refine D.va 16 rfl (by kernel_rfl) (fun _ _ _ h => h) rfl (fun w' hw => (by first | exact X.sliceFromn (i := 10) rfl rfl Tryd.underlying39 sz_5 (by omega) | exact X.sliceFrom rfl rfl Tryd.underlying39 sz_5 (by omega))) hS ?_
                refine D.va 17 rfl (by kernel_rfl) (fun _ _ _ h => h) rfl (fun w' hw => X.build (l := [_, _, _, _]) (Evs.cons (by conv => lhs; whnf) (Evs.cons (by conv => lhs; whnf) (Evs.cons (by conv => lhs; whnf) Evs.nil))) (bld_run Tryd.underlying87 (bp_87 Tryd.underlying87) zr_87 rfl)) hS ?_
                refine D.one 18 (by kernel_rfl) rfl ?_
                refine L.alloc rfl zr_87 ?_
                intro b6 w6 hb6 hs6 hk6 he6
                have hS1 := (hS).trans he6
                refine L.nil ?_
                refine ⟨fun _ => hS1, ?_⟩
                refine D.one 19 (by kernel_rfl) rfl ?_
                refine L.storeAgg (vs := [_, _, _, _]) rfl rfl rfl rfl sz_87 (hk6) rfl ?_
                intro w7 hk7 hg7 hs7
                have hS2 := (hS1).grw hg7 (by intro g hg; injection hg with hg; have := hS.le; omega)
                refine L.nil ?_
                refine ⟨fun _ => hS2, ?_⟩
                refine D.done (by kernel_rfl) ?_
                replace hk14 := hk14.ext hS2
                replace hk4 := hk4.ext hS2
                replace hr4 := hr4.ext hS2
                refine ⟨b6, At1 (by first | rfl | exact at_int rfl (by omega) | exact at_slice rfl (by omega) | exact at_int rfl (by simp)), (by (iterate 19 refine Agr.lk rfl ?_); exact Agr.rfl'), ?_⟩
                exact ⟨hk7, by omega, hS2⟩
              · rintro b8 g w5 ⟨hk8, hb8, he5⟩
                have he05 := he04.trans he5
                have hk15 := hk14.ext he5
                have hk45 := hk4.ext he5
                have hr5 := (hr4.ext he5).more (Nat.le_trans z4 he5.le)
                have rP := part_nums (i := 2) (j := 10) hr5 (by omega) (by omega) hc2
                obtain ⟨u, hu⟩ : ∃ u, u = ((sV smZ zs).drop 2).take 8 := ⟨_, rfl⟩
                have hul : u.length = 8 := by rw [hu]; simp; omega
                have hub : Bytes u := fun z hz' => hVb z (List.mem_of_mem_drop (List.mem_of_mem_take (hu ▸ hz')))
                rw [show ((sV smZ zs).drop 2).take (10 - 2) = u from hu.symm] at rP
                have hlt1 := hk14.lt
                have hne : b8 ≠ b1 := by omega
                have z45 := he5.le
                refine J.seq ?_
                refine J.seq ?_
                refine J.region ?_
                refine L.va rfl (X.fieldAddr rfl Tryd.underlying75 rfl sz_39 (by decide)) ?_
                refine L.va rfl (X.load rfl sc_39 (by first | exact Ld.blk hk45 rfl)) ?_
                refine L.va rfl ((by first | exact X.slicen (i := 2) (j := 10) rfl rfl rfl Tryd.underlying39 sz_5 (by omega) | exact X.slice rfl rfl rfl Tryd.underlying39 sz_5 (by omega))) ?_
                refine L.va rfl (X.len rfl Tryd.underlying39) ?_
                refine L.va rfl (X.move (by conv => lhs; whnf)) ?_
                refine L.nil ?_
                refine J.block ?_
                refine J.loop (X := Nat) [10, 68, 69, 70, 71, 72, 73, 74, 75, 76, 77, 78, 79] (fun i => [(68, .int .i64 (i : Int))]) (fun i w' => i ≤ 8 ∧ Blk w' b8 87 #[.int .i64 (pAt zs), .int .u64 (num (u.take i)), .int .u64 (sB smZ zs), .slice (if c2 = 10 then A2 else A2.map (·.add (10 * 1))) ((sV smZ zs).length - 10) (c2 - 10)] ∧ Ext w4 w') (fun i => 8 - i) (0) (At1 (by first | rfl | exact at_int rfl (by omega) | exact at_slice rfl (by omega) | exact at_int rfl (by simp))) ?_ ?_
                · exact ⟨by omega, hk8, he5⟩
                · rintro i g w6 ⟨hi, hk6, he6⟩
                  have hk46 := hk4.ext he6
                  have hk16 := hk14.ext he6
                  have hr6 := (hr4.ext he6).more (Nat.le_trans z4 he6.le)
                  have rP6 := part_nums (i := 2) (j := 10) hr6 (by omega) (by omega) hc2
                  rw [show ((sV smZ zs).drop 2).take (10 - 2) = u from hu.symm] at rP6
                  refine J.seq ?_
                  refine J.region ?_
                  refine L.va rfl (X.lss rfl rfl) ?_
                  refine L.nil ?_
                  refine J.seq ?_
                  refine J.dec rfl (fun hlt => ?_) (fun hlt => ?_)
                  · have hi8 : i < 8 := by omega
                    have hAu := rP6.some_ (by omega)
                    have hui := getDb hub i
                    have n0 := num_mid (zs := u) hub 0 i (by omega)
                    rw [List.drop_zero] at n0
                    have n1 : num (u.take i) ≤ 72057594037927935 := num_lt7 hub (by omega)
                    refine J.skip ?_
                    refine J.seq ?_
                    refine J.block ?_
                    refine J.seq ?_
                    refine J.region ?_
                    refine L.va rfl ((by first | exact X.index1n rfl rfl Tryd.underlying39 sz_5 (by first | exact Option.some_ne_none _ | exact rP6.some_ (by omega) | exact hAu) (by omega) | exact X.index1 rfl rfl Tryd.underlying39 sz_5 (by first | exact Option.some_ne_none _ | exact rP6.some_ (by omega) | exact hAu) (by omega))) ?_
                    refine L.va rfl (X.load rfl sc_5 (by first | exact Ld.blk hk46 rfl | exact Ld.blk hk6 rfl | exact Ld.num rP6 (by omega) | exact hAu)) ?_
                    refine L.va rfl (X.assign (by conv => lhs; whnf)) ?_
                    refine L.nil ?_
                    refine J.region ?_
                    refine L.va rfl (X.fieldAddr rfl Tryd.underlying87 rfl sz_35 (by decide)) ?_
                    refine L.va rfl (X.load rfl sc_35 (by first | exact Ld.blk hk46 rfl | exact Ld.blk hk6 rfl | exact Ld.num rP6 (by omega) | exact hAu)) ?_
                    refine L.va rfl (X.shl rfl rfl (by omega)) ?_
                    refine L.va rfl (X.move (by conv => lhs; whnf)) ?_
                    refine L.va rfl ((by first | exact X.convU rfl is_5 Tryd.underlying35 (by omega) | exact X.convw rfl is_5 Tryd.underlying35)) ?_
                    refine L.va rfl (X.orZ rfl rfl ((or_next (num (u.take i)) (u.getD i 0) n0.1 n1 hui).trans (num_step u (by omega)).symm)) ?_
                    refine L.va rfl (X.fieldAddr rfl Tryd.underlying87 rfl sz_35 (by decide)) ?_
                    refine L.store rfl rfl (by conv => lhs; whnf) rfl sz_35 (hk6) (by first | decide | exact Nat.le_of_ble_eq_true rfl) ?_
                    intro w7 hk7 hg7 hs7
                    refine L.nil ?_
                    refine J.region ?_
                    refine L.va rfl (X.add rfl rfl (by omega)) ?_
                    refine L.va rfl (X.move (by conv => lhs; whnf)) ?_
                    refine L.nil ?_
                    refine ⟨i + 1, At1 (by first | rfl | exact at_int rfl (by omega) | exact at_slice rfl (by omega) | exact at_int rfl (by simp)), (by (iterate 13 refine Agr.lk rfl ?_); exact Agr.lk rfl (Agr.hav rfl Agr.rfl')), ?_⟩
                    exact ⟨⟨by omega, hk7, he6.grw hg7 (by intro g hg; injection hg with hg; omega)⟩, by omega⟩
                  · obtain rfl : i = 8 := by omega
                    rw [List.take_of_length_le (by omega)] at hk6
                    have he06 := he04.trans he6
                    refine J.exit ?_
                    refine J.seq ?_
                    refine J.region ?_
                    refine L.va rfl ((by first | exact X.loadAgg rfl (range_l hk46) Tryd.underlying87 rfl (by kernel_rfl) | exact X.loadAgg rfl (range_blk hk46) Tryd.underlying87 rfl (by kernel_rfl) | exact X.loadAgg rfl (range_l hk6) Tryd.underlying87 rfl (by kernel_rfl) | exact X.loadAgg rfl (range_blk hk6) Tryd.underlying87 rfl (by kernel_rfl))) ?_
                    refine L.storeAgg (vs := [_, _, _, _]) rfl rfl rfl rfl sz_87 (hk16) rfl ?_
                    intro w7 hk7 hg7 hs7
                    have he07 := he06.grw hg7 (by intro g hg; injection hg with hg; omega)
                    have r7 := (((part_nums (i := 10) (j := (sV smZ zs).length) hr6 (by omega) (Nat.le_refl _) hc2)).past hk16 (by
                      intro j z hj
                      rcases (by omega : j = 0 ∨ j = 1 ∨ j = 2 ∨ j = 3 ∨ 4 ≤ j) with rfl | rfl | rfl | rfl | h
                      · cases hj
                      · cases hj
                      · cases hj
                      · cases hj
                      · rw [Array.getElem?_eq_none (by simpa using h)] at hj; cases hj) hg7).more hg7.size
                    have e8 : ((sV smZ zs).drop 10).take ((sV smZ zs).length - 10) = pBy zs := List.take_of_length_le (by simp)
                    have e9 : (sV smZ zs).length - 10 = (pBy zs).length := by unfold pBy; rw [List.length_drop]
                    rw [e8, e9] at r7
                    refine L.va rfl (X.assign (by conv => lhs; whnf)) ?_
                    refine L.nil ?_
                    refine J.ret ?_
                    refine finCT rfl (run_cell hk7 Tryd.underlying87 rfl (by kernel_rfl)) ?_
                    refine ⟨if c2 = 10 then A2 else A2.map (·.add (10 * 1)), c2 - 10, ?_, fun _ => ⟨r7, fun g hg => ?_⟩, he07⟩
                    · rw [e9, hu]
                      rfl
                    · have hg2 : Value.ownBlock (.slice A2 (sV smZ zs).length c2) = some g := by
                        cases A2 with
                        | none => split at hg <;> cases hg
                        | some ad =>
                          split at hg
                          · exact hg
                          · injection hg with hg
                            rw [block_of_add] at hg
                            exact congrArg some hg
                      exact Nat.le_trans he1.le (hf2 g hg2)
end Go.Proofs.YtjdimgigbgafbaaDoor
namespace Go.Proofs.YtjdimgigbgafbaaDoor
set_option maxRecDepth 100000
open Go.RowKit H
open Lo Byts Seal Fram
set_option linter.unusedVariables false
namespace H
theorem X.slice3L {P : Program} {f : Fr} {w : World} {d : Option Tmp} {ty : TypeId} {pos : String} {aft : Array Edge} {g : Option (Nat × Bool)} {x y z : Operand} {t e : TypeId} {A : Option Addr} {q c sz n : Nat} (hx : ev f x = .slice A q c) (hy : ev f y = .int .i64 (n : Int)) (hz : ev f z = .int .i64 (n : Int)) (ht : P.underlying t = some (.slice e)) (hs : Siz P e sz) (hij : n ≤ c) :
    (execOp (ev f) ⟨d, .slice t x none (some y) (some z), ty, pos, aft, g⟩).run P w = .ok (.value (.slice A n n)) w := by
  simp only [execOp, Instr.sliceAt, Instr.slice, Instr.sliceBounds, Instr.sliceBound, Option.map_some, Option.map_none, hx, hy, hz, Sem.run_bind, run_underlying ht, Result.andThen_ok, asIntOf, Sem.run_pure, hs.run]
  have h1 : 0 ≤ (n : Int) ∧ (n : Int) ≤ (c : Int) := by omega
  simp [h1]
  cases A <;> simp [Addr.add_zero']
end H
theorem ob_len (A : Option Addr) (n c n' c' : Nat) : Value.ownBlock (.slice A n c) = Value.ownBlock (.slice A n' c') := by cases A <;> rfl
namespace Lg
variable {G : Lg} {v : Dk} {N : Nat} {C : Nat → Prop} {w w' : World}
theorem At.put' (h : G.At v N C w) (hg : w.grownBy w' (some G.p)) {l : Ls} {sA tA : Option Addr} {sc tc : Nat} (hb : Blk w' G.p 83 (Lg.cs ⟨G.p, sA, sc, tA, tc, l⟩ v))
    (hs : Sm .u8 5 N w sA l.sm.length sc l.sm) (hsb : Value.ownBlock (.slice sA l.sm.length sc) = G.ss.ownBlock) (ht : w.ownsRow N 35 1 (.slice tA l.tm.length tc) l.tm.length (nums .u64 l.tm)) (htb : Value.ownBlock (.slice tA l.tm.length tc) = G.ts.ownBlock) :
    Lg.At ⟨G.p, sA, sc, tA, tc, l⟩ v N C w' ∧ Chg (G.LS v C w) w w' ∧ Lg.Gr G ⟨G.p, sA, sc, tA, tc, l⟩ w.heap.size := by
  obtain ⟨h1, _, _, h4⟩ := h.put hg
  have hT := h.hb.isT
  refine ⟨⟨h1, hb, hs.kept hg fun g hg2 e => ?_, ht.kept hg (.inr fun e => ?_), fun x hx g hg2 => ?_, h.hN, h.tab.low (h.below h4) h.tN, h.tN⟩, h4, ⟨rfl, fun g hg2 => .inl (hsb ▸ hg2), fun g hg2 => .inl (htb ▸ hg2)⟩⟩
  · injection e with e
    subst e
    exact absurd (hT.fun_ (hs.own hg2).1) (by decide)
  · exact absurd (hT.fun_ (own_isT ht e).1) (by decide)
  · show Value.ownBlock (.slice sA l.sm.length sc) ≠ some g
    rw [hsb]
    exact h.sep x hx g hg2
end Lg
section
variable {G : Lg} {v : Dk} {N : Nat} {C : Nat → Prop} {w : World}
theorem lfollows (h : G.At v N C w) (i : Nat) (hi : i ≤ 8192) (zs : List Int) (A : Option Addr) (c : Nat) (nx : Int) (ch : Bool) (htl : G.st.sm.length = i * 991 → G.st.tm.length = i) :
    Calls Tryd.prog 38 #[G.ptr, .int .i64 (i : Int), pcV true zs A c] w fun e w' => e = .returned (.bool (fol ⟨nx, ch, G.st.tm, G.st.sm⟩ i zs)) ∧ Ext w w' := by
  have hb := h.hb
  have ht := Reads.of_own h.ht
  refine enter Tryd.func38 rfl (by kernel_rfl) ?_
  refine J.seq ?_
  refine J.region ?_
  refine L.boxA (l := [_, _, _, _]) rfl rfl ?_
  intro b1 w1 hb1 hs1 hk1 he1
  have hk1 : Blk w1 b1 87 #[.int .i64 (pAt zs), .int .u64 (pPrev zs), .int .u64 (sB smZ zs), .slice A (pBy zs).length c] := hk1
  have hb1' := hb.ext he1
  have ht1 := ht.ext he1
  refine L.va rfl (X.assign (by conv => lhs; whnf)) ?_
  refine L.nil ?_
  refine J.seq ?_
  refine J.seq ?_
  refine J.region ?_
  refine L.va rfl (X.fieldAddr rfl Tryd.underlying87 rfl sz_3 (by decide)) ?_
  refine L.va rfl (X.load rfl sc_3 (by first | exact Ld.blk hk1 rfl | exact Ld.blk hb1' rfl)) ?_
  refine L.va rfl (X.move (by conv => lhs; whnf)) ?_
  refine L.va rfl (X.neq rfl rfl) ?_
  refine L.va rfl (X.move (by conv => lhs; whnf)) ?_
  refine L.caseNdec (k := 11) rfl (fun h1 => ?_) (fun h1 => ?_)
  · have e : fol ⟨nx, ch, G.st.tm, G.st.sm⟩ i zs = false := by unfold fol; rw [if_pos (.inl h1)]
    rw [e]
    refine L.no rfl ?_
    refine L.no rfl ?_
    refine L.no rfl ?_
    refine L.no rfl ?_
    refine L.no rfl ?_
    refine L.no rfl ?_
    refine L.no rfl ?_
    refine L.no rfl ?_
    refine L.va rfl (X.pickT rfl (by conv => lhs; whnf)) ?_
    refine L.nil ?_
    refine J.iteT rfl ?_
    refine J.seq ?_
    refine J.region ?_
    refine L.va rfl (X.assign (by conv => lhs; whnf)) ?_
    refine L.nil ?_
    refine J.ret ?_
    refine thn_ret <| ?_
    refine fin1 ?_
    exact ⟨rfl, he1⟩
  · refine L.va rfl (X.move (by conv => lhs; whnf)) ?_
    refine L.va rfl (X.nilCheck rfl) ?_
    refine L.va rfl (X.fieldAddr rfl Tryd.underlying83 rfl sz_39 (by decide)) ?_
    refine L.va rfl (X.load rfl sc_39 (by first | exact Ld.blk hk1 rfl | exact Ld.blk hb1' rfl)) ?_
    refine L.va rfl (X.len rfl Tryd.underlying39) ?_
    refine L.va rfl (X.move (by conv => lhs; whnf)) ?_
    refine L.va rfl (X.mul rfl rfl (by omega)) ?_
    refine L.va rfl (X.neq rfl rfl) ?_
    refine L.va rfl (X.pickF rfl (by conv => lhs; whnf)) ?_
    refine L.nil ?_
    refine J.ndec rfl (fun h2 => ?_) (fun h2 => ?_)
    · have e : fol ⟨nx, ch, G.st.tm, G.st.sm⟩ i zs = false := by unfold fol; rw [if_pos (.inr (by show G.st.sm.length ≠ i * 991; omega))]
      rw [e]
      refine J.seq ?_
      refine J.region ?_
      refine L.va rfl (X.assign (by conv => lhs; whnf)) ?_
      refine L.nil ?_
      refine J.ret ?_
      refine thn_ret <| ?_
      refine fin1 ?_
      exact ⟨rfl, he1⟩
    · have h2' : G.st.sm.length = i * 991 := by omega
      have e : fol ⟨nx, ch, G.st.tm, G.st.sm⟩ i zs = if i = 0 then decide (pPrev zs = 0) else decide (pPrev zs = G.st.tm.getD (i - 1) 0) := by unfold fol; rw [if_neg (by rintro (h | h); exact h h1; exact h h2')]
      rw [e]
      have htl' := htl h2'
      refine J.skip ?_
      refine J.seq ?_
      refine J.seq ?_
      refine J.region ?_
      refine L.va rfl (X.move (by conv => lhs; whnf)) ?_
      refine L.va rfl (X.eql rfl rfl) ?_
      refine L.nil ?_
      refine J.dec rfl (fun h3 => ?_) (fun h3 => ?_)
      · rw [if_pos (by omega)]
        refine J.seq ?_
        refine J.region ?_
        refine L.va rfl (X.fieldAddr rfl Tryd.underlying87 rfl sz_35 (by decide)) ?_
        refine L.va rfl (X.load rfl sc_35 (by first | exact Ld.blk hk1 rfl | exact Ld.blk hb1' rfl)) ?_
        refine L.va rfl (X.eql rfl rfl) ?_
        refine L.va rfl (X.assign (by conv => lhs; whnf)) ?_
        refine L.nil ?_
        refine J.ret ?_
        refine thn_ret <| ?_
        refine fin1 ?_
        exact ⟨rfl, he1⟩
      · rw [if_neg (by omega)]
        have hA := ht1.some_ (by omega)
        obtain ⟨k, rfl⟩ : ∃ k, i = k + 1 := ⟨i - 1, by omega⟩
        refine J.skip ?_
        refine J.seq ?_
        refine J.quiet mixed (by kernel_rfl) ?_
        refine Qt.va rfl (fun w' hw => X.fieldAddr rfl Tryd.underlying87 rfl sz_35 (by decide)) ?_
        refine Qt.va rfl (fun w' hw => X.load rfl sc_35 (by first | exact Ld.blk (hk1.ext hw) rfl | exact Ld.blk (hb1'.ext hw) rfl | exact Ld.num (ht1.ext hw) (by omega) | exact hA)) ?_
        refine Qt.va rfl (fun w' hw => X.move (by conv => lhs; whnf)) ?_
        refine Qt.va rfl (fun w' hw => X.nilCheck rfl) ?_
        refine Qt.va rfl (fun w' hw => X.fieldAddr rfl Tryd.underlying83 rfl sz_40 (by decide)) ?_
        refine Qt.va rfl (fun w' hw => X.load rfl sc_40 (by first | exact Ld.blk (hk1.ext hw) rfl | exact Ld.blk (hb1'.ext hw) rfl | exact Ld.num (ht1.ext hw) (by omega) | exact hA)) ?_
        refine Qt.va rfl (fun w' hw => X.move (by conv => lhs; whnf)) ?_
        refine Qt.va rfl (fun w' hw => X.sub rfl rfl (by omega)) ?_
        refine Qt.va rfl (fun w' hw => (by first | exact X.index1n rfl rfl Tryd.underlying40 sz_35 (by first | exact Option.some_ne_none _ | exact ht1.some_ (by omega) | exact hA) (by omega) | exact X.index1 rfl rfl Tryd.underlying40 sz_35 (by first | exact Option.some_ne_none _ | exact ht1.some_ (by omega) | exact hA) (by omega))) ?_
        refine Qt.va rfl (fun w' hw => X.load rfl sc_35 (by first | exact Ld.blk (hk1.ext hw) rfl | exact Ld.blk (hb1'.ext hw) rfl | exact Ld.num (ht1.ext hw) (by omega) | exact hA)) ?_
        refine Qt.va rfl (fun w' hw => X.eql rfl rfl) ?_
        refine Qt.va rfl (fun w' hw => X.assign (by conv => lhs; whnf)) ?_
        refine Qt.nil (fun w2 hq => ?_)
        replace hk1 := hk1.ext hq
        replace hb1' := hb1'.ext hq
        replace ht1 := ht1.ext hq
        refine J.ret ?_
        refine fin1 ?_
        refine ⟨?_, he1.trans hq⟩
        show Ending.returned (.bool (decide (pPrev zs = G.st.tm.getD (((k + 1 : Nat) : Int) - 1).toNat 0))) = _
        rw [show (((k + 1 : Nat) : Int) - 1).toNat = k by omega]
        rfl
theorem lcut (h : G.At v N C w) (u : Nat) (hu : u ≤ G.st.sm.length) (ht : (u + 990) / 991 ≤ G.st.tm.length) (hm : u ≤ 9000000) :
    Calls Tryd.prog 40 #[G.ptr, .int .i64 (u : Int)] w fun e w' => e = .returned (.tuple #[]) ∧ ∃ G' : Lg, G'.At v N C w' ∧ G'.st = { G.st with sm := G.st.sm.take u, tm := G.st.tm.take ((u + 990) / 991) } ∧ Chg (G.LS v C w) w w' ∧ Lg.Gr G G' w.heap.size := by
  have hb := h.hb
  have hsb := h.hs.bd
  have htb := own_bd h.ht
  refine enter Tryd.func40 rfl (by kernel_rfl) ?_
  refine J.seq ?_
  refine J.region ?_
  refine L.va rfl (X.move (by conv => lhs; whnf)) ?_
  refine L.va rfl (X.move (by conv => lhs; whnf)) ?_
  refine L.va rfl (X.nilCheck rfl) ?_
  refine L.va rfl (X.fieldAddr rfl Tryd.underlying83 rfl sz_39 (by decide)) ?_
  refine L.va rfl (X.load rfl sc_39 (by first | exact Ld.blk hb rfl)) ?_
  refine L.va rfl (X.move (by conv => lhs; whnf)) ?_
  refine L.va rfl (X.move (by conv => lhs; whnf)) ?_
  refine L.va rfl (X.slice3L rfl rfl rfl Tryd.underlying39 sz_5 (by omega)) ?_
  refine L.va rfl (X.nilCheck rfl) ?_
  refine L.va rfl (X.fieldAddr rfl Tryd.underlying83 rfl sz_39 (by decide)) ?_
  refine L.store rfl rfl (by conv => lhs; whnf) rfl sz_39 (hb) (by first | decide | exact Nat.le_of_ble_eq_true rfl) ?_
  intro w1 hb1 hg1 hs1
  have e1 : (G.st.sm.take u).length = u := by rw [List.length_take]; omega
  obtain ⟨H1, c1, g1⟩ := h.put' (l := { G.st with sm := G.st.sm.take u }) (sA := G.sA) (sc := u) (tA := G.tA) (tc := G.tc) hg1 (by unfold Lg.cs Lg.ss; rw [e1]; exact hb1) (by rw [e1]; exact h.hs.cut hu) (ob_len _ _ _ _ _) h.ht rfl
  refine L.nil ?_
  refine J.region ?_
  refine L.va rfl (X.move (by conv => lhs; whnf)) ?_
  refine L.va rfl (X.move (by conv => lhs; whnf)) ?_
  refine L.va rfl (X.nilCheck rfl) ?_
  refine L.va rfl (X.fieldAddr rfl Tryd.underlying83 rfl sz_40 (by decide)) ?_
  refine L.va rfl (X.load rfl sc_40 (by first | exact Ld.blk hb1 rfl)) ?_
  refine L.va rfl (X.move (by conv => lhs; whnf)) ?_
  refine L.va rfl (X.add rfl rfl (by omega)) ?_
  refine L.va rfl (X.sub rfl rfl (by omega)) ?_
  refine L.va rfl (X.quo rfl rfl (by omega)) ?_
  refine L.va rfl ((by first | exact X.sliceTon rfl rfl Tryd.underlying40 sz_35 (by omega) | exact X.sliceTo rfl rfl Tryd.underlying40 sz_35 (by omega))) ?_
  refine L.va rfl (X.nilCheck rfl) ?_
  refine L.va rfl (X.fieldAddr rfl Tryd.underlying83 rfl sz_40 (by decide)) ?_
  obtain ⟨q, hq⟩ : ∃ q, q = (u + 990) / 991 := ⟨_, rfl⟩
  have e2 : (((u : Int) + 991 - 1) / 991) = (q : Int) := by omega
  rw [e2]
  rw [← hq] at ht
  refine L.store rfl rfl (by conv => lhs; whnf) rfl sz_40 (hb1) (by first | decide | exact Nat.le_of_ble_eq_true rfl) ?_
  intro w2 hb2 hg2 hs2
  have e3 : (G.st.tm.take q).length = q := by rw [List.length_take]; omega
  obtain ⟨H2, c2, g2⟩ := H1.put' (l := { G.st with sm := G.st.sm.take u, tm := G.st.tm.take q }) (sA := G.sA) (sc := u) (tA := G.tA) (tc := G.tc) hg2 (by unfold Lg.cs Lg.ss Lg.ts; dsimp only; rw [e1, e3]; exact hb2) H1.hs rfl (by rw [e3]; exact own_cutN H1.ht ht) (ob_len _ _ _ _ _)
  refine L.nil ?_
  refine fin0 (.inr rfl) ?_
  exact ⟨rfl, _, H2, by rw [← hq], Lg.chg_trans c1 rfl rfl g1 c2, g1.trans g2 c1.size⟩
theorem lfine (h : G.At v N C w) : Calls Tryd.prog 45 #[G.ptr] w fun e w' => e = .returned (.int .i64 G.st.bad) ∧ w = w' := by
  have hb := h.hb
  refine enter Tryd.func45 rfl (by kernel_rfl) ?_
  refine J.seq ?_
  refine J.region ?_
  refine L.va rfl (X.assign (by conv => lhs; whnf)) ?_
  refine L.nil ?_
  refine J.seq ?_
  refine J.seq ?_
  refine J.region ?_
  refine L.va rfl (X.move (by conv => lhs; whnf)) ?_
  refine L.va rfl (X.eqlPn rfl rfl (by kernel_rfl)) ?_
  refine L.va rfl (X.move (by conv => lhs; whnf)) ?_
  refine L.caseBF (k := 5) rfl (by rfl) ?_
  refine L.va rfl (X.move (by conv => lhs; whnf)) ?_
  refine L.va rfl (X.nilCheck rfl) ?_
  refine L.va rfl (X.fieldAddr rfl Tryd.underlying83 rfl sz_4 (by decide)) ?_
  refine L.va rfl (X.load rfl sc_4 (by first | exact Ld.blk hb rfl)) ?_
  refine L.va rfl (X.not rfl) ?_
  refine L.va rfl (X.pickF rfl (by conv => lhs; whnf)) ?_
  refine L.nil ?_
  refine J.iteF rfl ?_
  refine J.skip ?_
  refine J.seq ?_
  refine J.region ?_
  refine L.va rfl (X.move (by conv => lhs; whnf)) ?_
  refine L.va rfl (X.nilCheck rfl) ?_
  refine L.va rfl (X.fieldAddr rfl Tryd.underlying83 rfl sz_27 (by decide)) ?_
  refine L.va rfl (X.load rfl sc_27 (by first | exact Ld.blk hb rfl)) ?_
  refine L.va rfl (X.assign (by conv => lhs; whnf)) ?_
  refine L.nil ?_
  refine J.ret ?_
  refine fin1 ?_
  exact ⟨rfl, rfl⟩
def NoLog (p : Value) (w : World) : Prop := p = .pointer none ∨ ∃ d, p = .pointer (some ⟨d, 0, none⟩) ∧ Blk w d 83 #[.bool false, .pointer none, .int .i64 0, .int .i64 0, .int .u64 0, .int .u64 0, .slice none 0 0, .slice none 0 0, .int .i64 0]
theorem NoLog.ext {p : Value} {w w' : World} (h : NoLog p w) (he : Ext w w') : NoLog p w' := h.imp id fun ⟨d, e, hb⟩ => ⟨d, e, hb.ext he⟩
theorem lused (h : G.At v N C w) : Calls Tryd.prog 23 #[G.ptr] w fun e w' => e = .returned (.int .i64 (G.st.sm.length : Int)) ∧ w = w' := by
  have hb := h.hb
  refine enter Tryd.func23 rfl (by kernel_rfl) ?_
  refine J.seq ?_
  refine J.region ?_
  refine L.va rfl (X.assign (by conv => lhs; whnf)) ?_
  refine L.nil ?_
  refine J.seq ?_
  refine J.seq ?_
  refine J.region ?_
  refine L.va rfl (X.move (by conv => lhs; whnf)) ?_
  refine L.va rfl (X.eqlPn rfl rfl (by kernel_rfl)) ?_
  refine L.nil ?_
  refine J.iteF rfl ?_
  refine J.skip ?_
  refine J.seq ?_
  refine J.region ?_
  refine L.va rfl (X.move (by conv => lhs; whnf)) ?_
  refine L.va rfl (X.nilCheck rfl) ?_
  refine L.va rfl (X.fieldAddr rfl Tryd.underlying83 rfl sz_39 (by decide)) ?_
  refine L.va rfl (X.load rfl sc_39 (by first | exact Ld.blk hb rfl)) ?_
  refine L.va rfl (X.len rfl Tryd.underlying39) ?_
  refine L.va rfl (X.assign (by conv => lhs; whnf)) ?_
  refine L.nil ?_
  refine J.ret ?_
  refine fin1 ?_
  exact ⟨rfl, rfl⟩
theorem lroom (h : G.At v N C w) (hct : G.st.ct ≤ 8192) : Calls Tryd.prog 24 #[G.ptr] w fun e w' => e = .returned (.int .i64 ((G.st.ct : Int) * 991 - (G.st.sm.length : Int))) ∧ Ext w w' := by
  have hb := h.hb
  have hsb := h.hs.bd
  unfold maxLen at hsb
  refine enter Tryd.func24 rfl (by kernel_rfl) ?_
  refine J.seq ?_
  refine J.region ?_
  refine L.va rfl (X.assign (by conv => lhs; whnf)) ?_
  refine L.nil ?_
  refine J.seq ?_
  refine J.seq ?_
  refine J.region ?_
  refine L.va rfl (X.move (by conv => lhs; whnf)) ?_
  refine L.va rfl (X.eqlPn rfl rfl (by kernel_rfl)) ?_
  refine L.nil ?_
  refine J.iteF rfl ?_
  refine J.skip ?_
  refine J.seq ?_
  refine J.quiet mixed (by kernel_rfl) ?_
  refine Qt.va rfl (fun w' hw => X.move (by conv => lhs; whnf)) ?_
  refine Qt.va rfl (fun w' hw => X.nilCheck rfl) ?_
  refine Qt.va rfl (fun w' hw => X.fieldAddr rfl Tryd.underlying83 rfl sz_3 (by decide)) ?_
  refine Qt.va rfl (fun w' hw => X.load rfl sc_3 (by first | exact Ld.blk (hb.ext hw) rfl)) ?_
  refine Qt.va rfl (fun w' hw => X.mul rfl rfl (by omega)) ?_
  refine Qt.va rfl (fun w' hw => X.move (by conv => lhs; whnf)) ?_
  refine Qt.va rfl (fun w' hw => X.nilCheck rfl) ?_
  refine Qt.va rfl (fun w' hw => X.fieldAddr rfl Tryd.underlying83 rfl sz_39 (by decide)) ?_
  refine Qt.va rfl (fun w' hw => X.load rfl sc_39 (by first | exact Ld.blk (hb.ext hw) rfl)) ?_
  refine Qt.va rfl (fun w' hw => X.len rfl Tryd.underlying39) ?_
  refine Qt.va rfl (fun w' hw => X.sub rfl rfl (by omega)) ?_
  refine Qt.va rfl (fun w' hw => X.assign (by conv => lhs; whnf)) ?_
  refine Qt.nil (fun w2 hq => ?_)
  replace hb := hb.ext hq
  refine J.ret ?_
  refine fin1 ?_
  exact ⟨rfl, hq⟩
end
end Go.Proofs.YtjdimgigbgafbaaDoor
namespace Go.Proofs.YtjdimgigbgafbaaDoor
set_option maxRecDepth 100000
open Go.RowKit H
open Lo Byts Seal Fram
set_option linter.unusedVariables false
section
variable {G : Lg} {v : Dk} {N : Nat} {C : Nat → Prop} {w w' : World}
theorem Dk.At.off {r : Option Nat} (h : v.At N C w) (hg : w.grownBy w' r) (hr : ∀ g, r = some g → ∃ t, IsT w g t ∧ t ≠ 39 ∧ t ≠ 105 ∧ t ≠ 107 ∧ (t ≠ 5 ∨ ∀ x, v.Cl x → sblk x ≠ some g)) : v.At N C w' := by
  have n1 : some v.kb ≠ r := fun e => by obtain ⟨t, ht, h1, _⟩ := hr _ e.symm; exact h1 (ht.fun_ h.kT.1)
  have n2 : some v.d ≠ r := fun e => by obtain ⟨t, ht, _, h1, _⟩ := hr _ e.symm; exact h1 (ht.fun_ h.dT)
  have dat : ∀ {x : Value} {zs : List Int}, v.Cl x → Dat w x zs → Dat w' x zs := by
    rintro x zs hx ⟨b, off, c, cs, rfl, hl, hb, hc⟩
    refine ⟨b, off, c, cs, rfl, hl, hb.grown hg (fun e => ?_), hc⟩
    obtain ⟨t, ht, _, _, _, h4⟩ := hr _ e.symm
    rcases h4 with h4 | h4
    · exact h4 (ht.fun_ hb.isT)
    · exact h4 _ hx rfl
  refine ⟨h.hb.grown hg n2, h.hk.kept hg (.inr n1), h.hp.kept hg ?_, h.hC, fun b hb => Nat.lt_of_lt_of_le (h.hL b hb) hg.size, h.hCN, fun x hx => dat (.inl ⟨x, hx, rfl⟩) (h.kd x hx), fun x hx => ⟨(h.pd x hx).1, dat (.inr ⟨x, hx, rfl⟩) (h.pd x hx).2⟩, h.hN, h.h1, h.hl⟩
  cases ho : v.pend.ownBlock with
  | none => exact .inl rfl
  | some g => exact .inr (fun e => by obtain ⟨t, ht, _, _, h3, _⟩ := hr g e.symm; exact h3 (ht.fun_ (own_isT h.hp ho).1))
namespace Lg
theorem At.tput {w1 w2 : World} {tA : Option Addr} {tc : Nat} {l : Ls} (h : G.At v N C w) (hg1 : w.grownBy w1 G.ts.ownBlock) (ho : w1.ownsRow N 35 1 (.slice tA l.tm.length tc) l.tm.length (nums .u64 l.tm))
    (hor : ∀ g, Value.ownBlock (.slice tA l.tm.length tc) = some g → G.ts.ownBlock = some g ∨ w.heap.size ≤ g) (hg2 : w1.grownBy w2 (some G.p)) (hb : Blk w2 G.p 83 (Lg.cs ⟨G.p, G.sA, G.sc, tA, tc, l⟩ v)) (hl : l.sm = G.st.sm) :
    Lg.At ⟨G.p, G.sA, G.sc, tA, tc, l⟩ v N C w2 ∧ Chg (G.LS v C w) w w2 ∧ Gr G ⟨G.p, G.sA, G.sc, tA, tc, l⟩ w.heap.size := by
  have hd1 : v.At N C w1 := h.hd.off hg1 fun g hg => ⟨_, (own_isT h.ht hg).1, by decide, by decide, by decide, .inl (by decide)⟩
  have hb1 : Blk w1 G.p 83 (G.cs v) := h.hb.grown hg1 (fun e => own_blk_ne h.ht h.hb (by decide) e.symm)
  have hs1 := h.hs.kept hg1 fun g hg e => absurd ((own_isT h.ht e).1.fun_ (h.hs.own hg).1) (by decide)
  have c1 : Chg (G.LS v C w) w w1 := Chg.of_grown hg1 fun g hg => .inr (.inr (.inr (.inr (.inr hg))))
  have c12 : Chg (fun g => g = G.p) w1 w2 := Chg.of_grown hg2 fun g hg => by injection hg with hg; exact hg.symm
  have c2 : Chg (G.LS v C w) w w2 := c1.trans c12 fun g _ e => .inr (.inr (.inr (.inl e)))
  have hT := hb1.isT
  refine ⟨⟨hd1.off hg2 fun g hg => ⟨_, by injection hg with hg; subst hg; exact hT, by decide, by decide, by decide, .inl (by decide)⟩, hb, ?_, ho.kept hg2 (.inr fun e => absurd (hT.fun_ (own_isT ho e).1) (by decide)), ?_, h.hN, h.tab.low (h.below c2) h.tN, h.tN⟩, c2, ⟨rfl, fun g hg => .inl ?_, hor⟩⟩
  · show Sm .u8 5 N w2 G.sA l.sm.length G.sc l.sm
    rw [hl]
    exact hs1.kept hg2 fun g hg e => by injection e with e; subst e; exact absurd (hT.fun_ (hs1.own hg).1) (by decide)
  · show ∀ x, v.Cl x → ∀ g, sblk x = some g → Value.ownBlock (.slice G.sA l.sm.length G.sc) ≠ some g
    rw [hl]
    exact h.sep
  · have hg : Value.ownBlock (.slice G.sA l.sm.length G.sc) = some g := hg
    rwa [hl] at hg
theorem At.sput {w1 w2 : World} {sA : Option Addr} {sc : Nat} {l : Ls} (h : G.At v N C w) (hg1 : w.grownBy w1 G.ss.ownBlock) (ho : w1.ownsRow N 5 1 (.slice sA l.sm.length sc) l.sm.length (nums .u8 l.sm))
    (hor : ∀ g, Value.ownBlock (.slice sA l.sm.length sc) = some g → G.ss.ownBlock = some g ∨ w.heap.size ≤ g) (hg2 : w1.grownBy w2 (some G.p)) (hb : Blk w2 G.p 83 (Lg.cs ⟨G.p, sA, sc, G.tA, G.tc, l⟩ v)) (hl : l.tm = G.st.tm) :
    Lg.At ⟨G.p, sA, sc, G.tA, G.tc, l⟩ v N C w2 ∧ Chg (G.LS v C w) w w2 ∧ Gr G ⟨G.p, sA, sc, G.tA, G.tc, l⟩ w.heap.size := by
  have hd1 : v.At N C w1 := h.hd.off hg1 fun g hg => ⟨_, (h.hs.own hg).1, by decide, by decide, by decide, .inr fun x hx e => h.sep x hx g e hg⟩
  have hb1 : Blk w1 G.p 83 (G.cs v) := h.hb.grown hg1 (fun e => absurd ((h.hs.own e.symm).1.fun_ h.hb.isT) (by decide))
  have ht1 : w1.ownsRow N 35 1 G.ts G.st.tm.length (nums .u64 G.st.tm) := h.ht.kept hg1 (by
    cases e : G.ts.ownBlock with
    | none => exact .inl rfl
    | some g => exact .inr fun e2 => absurd ((own_isT h.ht e).1.fun_ (h.hs.own e2.symm).1) (by decide))
  have c1 : Chg (G.LS v C w) w w1 := Chg.of_grown hg1 fun g hg => .inr (.inr (.inr (.inr (.inl hg))))
  have c12 : Chg (fun g => g = G.p) w1 w2 := Chg.of_grown hg2 fun g hg => by injection hg with hg; exact hg.symm
  have c2 : Chg (G.LS v C w) w w2 := c1.trans c12 fun g _ e => .inr (.inr (.inr (.inl e)))
  have hT := hb1.isT
  refine ⟨⟨hd1.off hg2 fun g hg => ⟨_, by injection hg with hg; subst hg; exact hT, by decide, by decide, by decide, .inl (by decide)⟩, hb, .inl (ho.kept hg2 (.inr fun e => absurd (hT.fun_ (own_isT ho e).1) (by decide))), ?_, fun x hx g hg e => ?_, h.hN, h.tab.low (h.below c2) h.tN, h.tN⟩, c2, ⟨rfl, hor, fun g hg => .inl ?_⟩⟩
  · show w2.ownsRow N 35 1 (.slice G.tA l.tm.length G.tc) l.tm.length (nums .u64 l.tm)
    rw [hl]
    exact ht1.kept hg2 (.inr fun e => absurd (hT.fun_ (own_isT ht1 e).1) (by decide))
  · rcases hor g e with h1 | h1
    · exact h.sep x hx g hg h1
    · have : Dat w x [] → False := fun hd => by have := hd.len; simp at this
      have hdat : ∃ zs, Dat w x zs := by
        rcases hx with ⟨y, hy, rfl⟩ | ⟨y, hy, rfl⟩
        · exact ⟨_, h.hd.kd y hy⟩
        · exact ⟨_, (h.hd.pd y hy).2⟩
      obtain ⟨zs, b, off, c, cs, rfl, _, hbk, _⟩ := hdat
      have e2 : b = g := by injection hg
      have := hbk.lt
      omega
  · have hg : Value.ownBlock (.slice G.tA l.tm.length G.tc) = some g := hg
    rwa [hl] at hg
theorem At.toL (h : G.At v N C w) : G.To v N C v.abs G.st w w := ⟨G, v, h, rfl, rfl, rfl, rfl, Chg.of_ext (Ext.refl _), Gr.refl _ _⟩
end Lg
theorem lsync (h : G.At v N C w) {m : Nat} (hok : v.abs.Ok m) (hm : m ≤ 1000000) : Calls Tryd.prog 15 #[G.ptr] w fun e w' => e = .returned (.int .i64 (syncL v.abs G.st).2.2) ∧ G.To v N C (syncL v.abs G.st).1 (syncL v.abs G.st).2.1 w w' := by
  have hb := h.hb
  refine enter Tryd.func15 rfl (by kernel_rfl) ?_
  refine J.seq ?_
  refine J.region ?_
  refine L.va rfl (X.assign (by conv => lhs; whnf)) ?_
  refine L.nil ?_
  refine J.seq ?_
  refine J.seq ?_
  refine J.region ?_
  refine L.va rfl (X.move (by conv => lhs; whnf)) ?_
  refine L.call rfl en_45 rfl (lfine h) ?_
  rintro e _ ⟨rfl, rfl⟩
  refine ⟨_, rfl, ?_⟩
  refine L.va rfl (X.assign (by conv => lhs; whnf)) ?_
  refine L.nil ?_
  refine J.seq ?_
  refine J.region ?_
  refine L.va rfl (X.move (by conv => lhs; whnf)) ?_
  refine L.va rfl (X.neq rfl rfl) ?_
  refine L.nil ?_
  refine J.ndec rfl (fun h1 => ?_) (fun h1 => ?_)
  · have e : syncL v.abs G.st = (v.abs, G.st, G.st.bad) := if_pos h1
    rw [e]
    refine J.seq ?_
    refine J.region ?_
    refine L.va rfl (X.move (by conv => lhs; whnf)) ?_
    refine L.va rfl (X.assign (by conv => lhs; whnf)) ?_
    refine L.nil ?_
    refine J.ret ?_
    refine thn_ret <| ?_
    refine fin1 ?_
    exact ⟨rfl, h.toL⟩
  · have e : syncL v.abs G.st = ((v.abs.do_ ⟨2, 0, [], true, []⟩).1, { G.st with bad := (v.abs.do_ ⟨2, 0, [], true, []⟩).2.2 }, (v.abs.do_ ⟨2, 0, [], true, []⟩).2.2) := if_neg (by omega)
    rw [e]
    obtain ⟨r, hr⟩ : ∃ r, r = v.abs.do_ ⟨2, 0, [], true, []⟩ := ⟨_, rfl⟩
    have K := h.hd.flush_anyF hok hm ⟨2, 0, [], true, []⟩ rfl
    rw [← hr] at K ⊢
    refine J.skip ?_
    refine J.seq ?_
    refine J.region ?_
    refine L.va rfl (X.move (by conv => lhs; whnf)) ?_
    refine L.va rfl (X.move (by conv => lhs; whnf)) ?_
    refine L.va rfl (X.nilCheck rfl) ?_
    refine L.va rfl (X.fieldAddr rfl Tryd.underlying83 rfl sz_26 (by decide)) ?_
    refine L.va rfl (X.load rfl sc_26 (by first | exact Ld.blk hb rfl)) ?_
    refine L.call rfl en_32 rfl (K) ?_
    rintro e w1 ⟨rfl, ⟨v1, p1, p2, p3, p4, p5, p6⟩, _⟩
    refine ⟨_, rfl, ?_⟩
    have H1 := h.disk p1 p2 p5 p6
    have hb1 := H1.hb
    have c1 : Chg (G.LS v C w) w w1 := Lg.chg_kq (Chg.of_ext (Ext.refl _)) rfl rfl (Lg.Gr.refl _ _) p5
    refine L.va rfl (X.nilCheck rfl) ?_
    refine L.va rfl (X.fieldAddr rfl Tryd.underlying83 rfl sz_27 (by decide)) ?_
    refine L.store rfl rfl (by conv => lhs; whnf) rfl sz_27 (hb1) (by first | decide | exact Nat.le_of_ble_eq_true rfl) ?_
    intro w2 hb2 hg2 hs2
    obtain ⟨H2, c2, g2⟩ := H1.put' (l := { G.st with bad := r.2.2 }) (sA := G.sA) (sc := G.sc) (tA := G.tA) (tc := G.tc) hg2 hb2 H1.hs rfl H1.ht rfl
    refine L.nil ?_
    refine J.seq ?_
    refine J.region ?_
    refine L.va rfl (X.move (by conv => lhs; whnf)) ?_
    refine L.va rfl (X.nilCheck rfl) ?_
    refine L.va rfl (X.fieldAddr rfl Tryd.underlying83 rfl sz_27 (by decide)) ?_
    refine L.va rfl (X.load rfl sc_27 (by first | exact Ld.blk hb2 rfl)) ?_
    refine L.va rfl (X.assign (by conv => lhs; whnf)) ?_
    refine L.nil ?_
    refine J.ret ?_
    refine fin1 ?_
    exact ⟨rfl, _, v1, H2, p2, p3, p4, rfl, Lg.chg_trans c1 p2 p3 (Lg.Gr.refl _ _) c2, (Lg.Gr.refl G _).trans g2 c1.size⟩
end
end Go.Proofs.YtjdimgigbgafbaaDoor
namespace Go.Proofs.YtjdimgigbgafbaaDoor
set_option maxRecDepth 100000
open Go.RowKit H
open Lo Byts Seal Fram
set_option linter.unusedVariables false
theorem secL_len (ep nx : Int) (body : List Int) (h : body.length ≤ 1001) : (secL ep nx body).length = 1024 := by
  unfold secL sec
  rw [List.length_append, hd_length _ _ _ _ h]
  rfl
theorem be2_is (i : Nat) : be 2 (i : Int) = [IntKind.u8.wrap ((i : Int) / 2 ^ min (8 : Int).toNat IntKind.i64.bits), IntKind.u8.wrap (i : Int)] := by
  have e : be 2 (i : Int) = [(i : Int) / 256 % 256, (i : Int) / 1 % 256] := rfl
  rw [e, Int.ediv_one]
  rfl
theorem shB_bytes {i : Nat} {p : Int} {ch : List Int} (h : Bytes ch) : Bytes (shB i p ch) := by
  intro z hz
  unfold shB at hz
  rcases List.mem_append.1 hz with hz | hz
  · exact be_bytes _ _ z hz
  · rcases List.mem_append.1 hz with hz | hz
    · exact be_bytes _ _ z hz
    · exact h z hz
theorem chunk_le (l : Ls) (i : Nat) : (chunk l i).length ≤ 991 := by unfold chunk; rw [List.length_take]; omega
theorem chunk_bytes {l : Ls} (h : Bytes l.sm) (i : Nat) : Bytes (chunk l i) := fun z hz => h z (List.mem_of_mem_drop (List.mem_of_mem_take hz))
theorem Lg.At.cskeep {G : Lg} {v v' : Dk} {N : Nat} {C : Nat → Prop} {w w' : World} (h : G.At v N C w) (hv : v'.At N C w') (hd : v'.d = v.d) (k : Kq v.kb v.d C w w') (hF : v.Fr v' w.heap.size) : Blk w' G.p 83 (G.cs v) := by
  have := (h.disk hv hd k hF).hb
  rwa [show G.cs v' = G.cs v by unfold Lg.cs Dk.ptr; rw [hd]] at this
section
variable {G : Lg} {v : Dk} {N : Nat} {C : Nat → Prop} {w w' : World}
theorem lwrite (h : G.At v N C w) {m : Nat} (hok : v.abs.Ok m) (hm : m ≤ 1000000) (i : Nat) (hi : i ≤ G.st.tm.length) (hi2 : i * 991 ≤ G.st.sm.length) (h8 : i ≤ 8192) (hfr : G.st.fr ≤ 8192) (hn : 0 ≤ G.st.nx ∧ G.st.nx ≤ 4611686018427387904) (hep : 0 ≤ G.st.ep ∧ G.st.ep ≤ 18446744073709551615) (hby : Bytes G.st.sm) (hsl : G.st.sm.length ≤ 9000000) (htt : ∀ t ∈ G.st.tm, 0 ≤ t ∧ t ≤ 4611686018427387904) :
    Calls Tryd.prog 47 #[G.ptr, .int .i64 (i : Int)] w fun e w' => e = .returned (.int .i64 (wrL v.abs G.st i).2.2) ∧ G.To v N C (wrL v.abs G.st i).1 (wrL v.abs G.st i).2.1 w w' := by
  have hb := h.hb
  have ht := Reads.of_own h.ht
  have htl : G.st.tm.length = G.st.tm.length := rfl
  have hsb := h.hs.bd
  have htb := own_bd h.ht
  have hNw := h.hd.nsz
  obtain ⟨p, hp⟩ : ∃ p, p = prevL G.st i := ⟨_, rfl⟩
  have hpb : 0 ≤ p ∧ p ≤ 18446744073709551615 := by
    rw [hp]
    unfold prevL
    split
    · omega
    · have : i - 1 < G.st.tm.length := by omega
      rw [List.getD, List.getElem?_eq_getElem this]
      have := htt _ (List.getElem_mem this)
      show 0 ≤ G.st.tm[i - 1] ∧ G.st.tm[i - 1] ≤ 18446744073709551615
      omega
  refine enter Tryd.func47 rfl (by kernel_rfl) ?_
  refine J.seq ?_
  refine J.region ?_
  refine L.va rfl (X.assign (by conv => lhs; whnf)) ?_
  refine L.nil ?_
  refine J.seq ?_
  refine J.region ?_
  refine L.va rfl (X.assign (by conv => lhs; whnf)) ?_
  refine L.nil ?_
  refine J.cut (X := Unit) [5, 11, 12, 13, 14, 15, 16, 17, 18, 19, 20] (fun _ => [(5, .int .u64 p)]) (fun _ w' => w' = w) ?_ ?_
  · refine J.seq ?_
    refine J.region ?_
    refine L.va rfl (X.move (by conv => lhs; whnf)) ?_
    refine L.va rfl (X.gtr rfl rfl) ?_
    refine L.nil ?_
    refine J.dec rfl (fun h0 => ?_) (fun h0 => ?_)
    · have hA := ht.some_ (by omega)
      obtain ⟨k, rfl⟩ : ∃ k, i = k + 1 := ⟨i - 1, by omega⟩
      have ep : p = G.st.tm.getD (((k + 1 : Nat) : Int) - 1).toNat 0 := by
        rw [hp, prevL, if_neg (by omega), show (((k + 1 : Nat) : Int) - 1).toNat = k by omega]
        rfl
      rw [ep]
      refine J.region ?_
      refine L.va rfl (X.move (by conv => lhs; whnf)) ?_
      refine L.va rfl (X.nilCheck rfl) ?_
      refine L.va rfl (X.fieldAddr rfl Tryd.underlying83 rfl sz_40 (by decide)) ?_
      refine L.va rfl (X.load rfl sc_40 (by first | exact Ld.blk hb rfl | exact Ld.num ht (by omega) | exact hA)) ?_
      refine L.va rfl (X.move (by conv => lhs; whnf)) ?_
      refine L.va rfl (X.sub rfl rfl (by omega)) ?_
      refine L.va rfl ((by first | exact X.index1n rfl rfl Tryd.underlying40 sz_35 (by first | exact Option.some_ne_none _ | exact ht.some_ (by omega) | exact hA) (by omega) | exact X.index1 rfl rfl Tryd.underlying40 sz_35 (by first | exact Option.some_ne_none _ | exact ht.some_ (by omega) | exact hA) (by omega))) ?_
      refine L.va rfl (X.load rfl sc_35 (by first | exact Ld.blk hb rfl | exact Ld.num ht (by omega) | exact hA)) ?_
      refine L.va rfl (X.assign (by conv => lhs; whnf)) ?_
      refine L.nil ?_
      refine ⟨(), At1 (by first | rfl | exact at_int rfl (by omega) | exact at_slice rfl (by omega) | exact at_int rfl (by simp)), (by (iterate 11 refine Agr.lk rfl ?_); exact Agr.rfl'), ?_⟩
      rfl
    · have e0 : p = 0 := by rw [hp, prevL, if_pos (by omega)]
      rw [e0]
      refine J.skip ?_
      refine ⟨(), At1 (by first | rfl | exact at_int rfl (by omega) | exact at_slice rfl (by omega) | exact at_int rfl (by simp)), (by (iterate 2 refine Agr.lk rfl ?_); exact Agr.rfl'), ?_⟩
      rfl
  · rintro _ g w1 rfl
    refine J.seq ?_
    refine J.region ?_
    refine L.va rfl (X.move (by conv => lhs; whnf)) ?_
    refine L.va rfl (X.shr rfl rfl (by omega)) ?_
    refine L.va rfl ((by first | exact X.conv8 rfl is_3 Tryd.underlying5 (by omega) | exact X.convw rfl is_3 Tryd.underlying5)) ?_
    refine L.va rfl (X.move (by conv => lhs; whnf)) ?_
    refine L.va rfl ((by first | exact X.conv8 rfl is_3 Tryd.underlying5 (by omega) | exact X.convw rfl is_3 Tryd.underlying5)) ?_
    refine L.bslice (vs := [_, _]) rfl (Evs.cons (by conv => lhs; whnf) (Evs.cons (by conv => lhs; whnf) Evs.nil)) rfl rfl rfl rfl Tryd.underlying39 sz_5 zr_5 (by decide) ?_
    intro b2 w2 hb2 hs2 hk2 he2
    have hk2 : Blk w2 b2 5 (nums .u8 (be 2 (i : Int))).toArray := by rw [be2_is]; exact hk2
    have ho2 : w2.ownsRow w1.heap.size 5 1 (.slice (some ⟨b2, 0, none⟩) 2 2) 2 (nums .u8 (be 2 (i : Int))) := blk_own1 (q := 2) hk2 (by omega) (by decide) (by simp [nums, be_length])
    have e08 : be 2 (i : Int) ++ (be 8 p).take 0 = be 2 (i : Int) := by simp
    refine L.va rfl (X.assign (by conv => lhs; whnf)) ?_
    refine L.nil ?_
    refine J.seq ?_
    refine J.seq ?_
    refine J.region ?_
    refine L.va rfl (X.move (by conv => lhs; whnf)) ?_
    refine L.nil ?_
    refine J.block ?_
    refine J.loop (X := Nat × Option Addr × Nat) [6, 7, 27, 28, 29, 30, 31, 32, 33, 34, 35, 36, 37, 38, 39] (fun (k, B, d) => [(27, .int .i64 (k : Int)), (6, .slice B (2 + k) d)]) (fun (k, B, d) w' => k ≤ 8 ∧ w'.ownsRow w1.heap.size 5 1 (.slice B (2 + k) d) (2 + k) (nums .u8 (be 2 (i : Int) ++ (be 8 p).take k)) ∧ Ext w1 w') (fun (k, _) => 8 - k) ((0, some ⟨b2, 0, none⟩, 2)) (At2 (by first | rfl | exact at_int rfl (by omega) | exact at_slice rfl (by omega) | exact at_int rfl (by simp)) (by first | rfl | exact at_int rfl (by omega) | exact at_slice rfl (by omega) | exact at_int rfl (by simp))) ?_ ?_
    · exact ⟨by omega, by rw [e08]; exact ho2, he2⟩
    · rintro ⟨k, B, d⟩ g w3 ⟨hk, ho3, he3⟩
      have z3 := he3.le
      refine J.seq ?_
      refine J.region ?_
      refine L.va rfl (X.lss rfl rfl) ?_
      refine L.nil ?_
      refine J.seq ?_
      refine J.dec rfl (fun hlt => ?_) (fun hlt => ?_)
      · have hk8 : k < 8 := by omega
        have hbx := byte_at p (7 - k) hpb.1 (by omega) (z := 56 - 8 * (k : Int)) (by omega)
        have hgd := be_getD 8 p k hk8
        refine J.skip ?_
        refine J.seq ?_
        refine J.block ?_
        refine J.seq ?_
        refine J.region ?_
        refine L.va rfl (X.move (by conv => lhs; whnf)) ?_
        refine L.va rfl (X.assign (by conv => lhs; whnf)) ?_
        refine L.nil ?_
        refine J.region ?_
        refine L.va rfl (X.move (by conv => lhs; whnf)) ?_
        refine L.va rfl (X.move (by conv => lhs; whnf)) ?_
        refine L.va rfl (X.move (by conv => lhs; whnf)) ?_
        refine L.va rfl (X.mul rfl rfl (by omega)) ?_
        refine L.va rfl (X.sub rfl rfl (by omega)) ?_
        refine L.va rfl (X.shr rfl rfl (by omega)) ?_
        refine L.va rfl ((by first | exact X.conv8 rfl is_35 Tryd.underlying5 (by omega) | exact X.convw rfl is_35 Tryd.underlying5)) ?_
        refine L.bslice (vs := [_]) rfl (Evs.cons (by conv => lhs; whnf) Evs.nil) rfl rfl rfl rfl Tryd.underlying39 sz_5 zr_5 (by decide) ?_
        intro b4 w4 hb4 hs4 hk4 he4
        rw [hbx] at hk4
        have e4 : (be 2 (i : Int) ++ (be 8 p).take k) ++ [p / 256 ^ (7 - k) % 256] = be 2 (i : Int) ++ (be 8 p).take (k + 1) := by
          rw [List.append_assoc]
          congr 1
          have hl : k < (be 8 p).length := by rw [be_length]; exact hk8
          rw [List.take_succ_eq_append_getElem hl]
          congr 2
          have := be_getD 8 p k hk8
          rw [show 7 - k = 8 - 1 - k by omega, ← this]
          simp [List.getD, hl]
        refine L.appendQ (q := 2 + (k + 1)) (ys := (be 2 (i : Int) ++ (be 8 p).take k) ++ [p / 256 ^ (7 - k) % 256]) rfl rfl rfl Tryd.underlying39 el_5 (ho3.ext he4) ((blk_reads (q := 1) (l := nums .u8 [p / 256 ^ (7 - k) % 256]) hk4 (by omega : b4 < w4.heap.size) rfl)) (by omega) (by simp) (by unfold maxLen; omega) (by omega) ?_
        intro A5 c5 w5 ho5 hg5 hb5 hor5
        rw [e4] at ho5
        refine L.va rfl (X.assign (by conv => lhs; whnf)) ?_
        refine L.nil ?_
        refine J.region ?_
        refine L.va rfl (X.add rfl rfl (by omega)) ?_
        refine L.va rfl (X.move (by conv => lhs; whnf)) ?_
        refine L.nil ?_
        refine ⟨(k + 1, A5, c5), At2 (by first | rfl | exact at_int rfl (by omega) | exact at_slice rfl (by omega) | exact at_int rfl (by simp)) (by first | rfl | exact at_int rfl (by omega) | exact at_slice rfl (by omega) | exact at_int rfl (by simp)), (by (iterate 15 refine Agr.lk rfl ?_); exact Agr.lk rfl (Agr.hav rfl Agr.rfl')), ?_⟩
        exact ⟨⟨by omega, ho5, (he3.trans he4).low hb5 (Nat.le_refl _)⟩, by show 8 - (k + 1) < 8 - k; omega⟩
      · obtain rfl : k = 8 := by omega
        have eB : be 2 (i : Int) ++ (be 8 p).take 8 = be 2 (i : Int) ++ be 8 p := by rw [List.take_of_length_le (by rw [be_length]; omega)]
        rw [eB] at ho3
        have hb3 := hb.ext he3
        have hcl := chunk_le G.st i
        refine J.exit ?_
        refine J.cut (X := Option Addr × Nat) [6, 40, 41, 42, 43, 44, 45, 46, 47, 48, 49, 50, 51, 52, 53, 54, 55, 56, 57] (fun (B, d) => [(6, .slice B (shB i p (chunk G.st i)).length d)]) (fun (B, d) w' => w'.ownsRow w1.heap.size 5 1 (.slice B (shB i p (chunk G.st i)).length d) (shB i p (chunk G.st i)).length (nums .u8 (shB i p (chunk G.st i))) ∧ Ext w1 w') ?_ ?_
        · obtain ⟨a, ha⟩ : ∃ a, a = ((i : Int) * 991).toNat := ⟨_, rfl⟩
          obtain ⟨j, hj⟩ : ∃ j, j = (min (((i : Int) + 1) * 991) (G.st.sm.length : Int)).toNat := ⟨_, rfl⟩
          have ea : a = i * 991 := by omega
          have ej : j = min ((i + 1) * 991) G.st.sm.length := by omega
          have ec : (G.st.sm.drop a).take (j - a) = chunk G.st i := by
            unfold chunk
            rw [ea, List.take_eq_take_iff, List.length_drop]
            omega
          have hcl2 : (chunk G.st i).length = j - a := by rw [← ec, List.length_take, List.length_drop]; omega
          have esh : (be 2 (i : Int) ++ be 8 p) ++ chunk G.st i = shB i p (chunk G.st i) := by unfold shB; rw [List.append_assoc]
          have el : (shB i p (chunk G.st i)).length = 2 + 8 + (j - a) := by rw [← esh, List.length_append, List.length_append, be_length, be_length, hcl2]
          have hrd := part_nums (i := a) (j := j) h.hs.reads (by omega) (by omega) hsb.1
          rw [ec] at hrd
          refine J.draw (ℓ := 1000000) (S := (fun w' => Ext w1 w')) mixed (fun w4 hSE hS_h => ?_)
          have hS : ((fun w' => Ext w1 w')) w4 := he3.trans hSE
          have z4 := hS.le
          refine D.va 0 rfl (by kernel_rfl) (fun _ _ _ h => h) rfl (fun w' hw => X.move (by conv => lhs; whnf)) hS ?_
          refine D.va 1 rfl (by kernel_rfl) (fun _ _ _ h => h) rfl (fun w' hw => X.move (by conv => lhs; whnf)) hS ?_
          refine D.va 2 rfl (by kernel_rfl) (fun _ _ _ h => h) rfl (fun w' hw => X.nilCheck rfl) hS ?_
          refine D.va 3 rfl (by kernel_rfl) (fun _ _ _ h => h) rfl (fun w' hw => X.fieldAddr rfl Tryd.underlying83 rfl sz_39 (by decide)) hS ?_
          refine D.va 4 rfl (by kernel_rfl) (fun _ _ _ h => h) rfl (fun w' hw => X.load rfl sc_39 (by first | exact Ld.blk (hb.ext hw) rfl)) hS ?_
          refine D.va 5 rfl (by kernel_rfl) (fun _ _ _ h => h) rfl (fun w' hw => X.move (by conv => lhs; whnf)) hS ?_
          refine D.va 6 rfl (by kernel_rfl) (fun _ _ _ h => h) rfl (fun w' hw => X.mul rfl rfl (by omega)) hS ?_
          refine D.va 7 rfl (by kernel_rfl) (fun _ _ _ h => h) rfl (fun w' hw => X.move (by conv => lhs; whnf)) hS ?_
          refine D.va 8 rfl (by kernel_rfl) (fun _ _ _ h => h) rfl (fun w' hw => X.add rfl rfl (by omega)) hS ?_
          refine D.va 9 rfl (by kernel_rfl) (fun _ _ _ h => h) rfl (fun w' hw => X.mul rfl rfl (by omega)) hS ?_
          refine D.va 10 rfl (by kernel_rfl) (fun _ _ _ h => h) rfl (fun w' hw => X.move (by conv => lhs; whnf)) hS ?_
          refine D.va 11 rfl (by kernel_rfl) (fun _ _ _ h => h) rfl (fun w' hw => X.nilCheck rfl) hS ?_
          refine D.va 12 rfl (by kernel_rfl) (fun _ _ _ h => h) rfl (fun w' hw => X.fieldAddr rfl Tryd.underlying83 rfl sz_39 (by decide)) hS ?_
          refine D.va 13 rfl (by kernel_rfl) (fun _ _ _ h => h) rfl (fun w' hw => X.load rfl sc_39 (by first | exact Ld.blk (hb.ext hw) rfl)) hS ?_
          refine D.va 14 rfl (by kernel_rfl) (fun _ _ _ h => h) rfl (fun w' hw => X.len rfl Tryd.underlying39) hS ?_
          refine D.va 15 rfl (by kernel_rfl) (fun _ _ _ h => h) rfl (fun w' hw => X.min2 rfl rfl) hS ?_
          refine D.va 16 rfl (by kernel_rfl) (fun _ _ _ h => h) rfl (fun w' hw => (by first | exact X.slicen rfl rfl rfl Tryd.underlying39 sz_5 (by omega) | exact X.slice rfl rfl rfl Tryd.underlying39 sz_5 (by omega))) hS ?_
          rw [← ha, ← hj]
          refine D.one 17 (by kernel_rfl) rfl ?_
          refine L.appendQ (q := 2 + 8 + (j - a)) (ys := (be 2 (i : Int) ++ be 8 p) ++ chunk G.st i) rfl rfl rfl Tryd.underlying39 el_5 (ho3.ext hSE) ((hrd.ext hS)) (by omega) (by simp) (by unfold maxLen; omega) (by omega) ?_
          intro A5 c5 w5 ho5 hg5 hb5 hor5
          have hS1 := hS.low hb5 (Nat.le_refl _)
          refine L.nil ?_
          refine ⟨fun _ => hS1, ?_⟩
          rw [esh] at ho5
          refine D.va 18 rfl (by kernel_rfl) (fun _ _ _ h => h) rfl (fun w' hw => X.assign (by conv => lhs; whnf)) hS1 ?_
          refine D.done (by kernel_rfl) ?_
          replace hb := hb.ext hS1
          refine ⟨(A5, c5), At1 (by rw [el]; rfl), (by (iterate 19 refine Agr.lk rfl ?_); exact Agr.rfl'), ?_⟩
          rw [el]
          exact ⟨ho5, hS1⟩
        · rintro ⟨B5, d5⟩ g w5 ⟨ho5, he5⟩
          obtain ⟨bd, hbd⟩ : ∃ bd, bd = shB i p (chunk G.st i) := ⟨_, rfl⟩
          have hbl : bd.length ≤ 1001 := by
            rw [hbd]
            unfold shB
            rw [List.length_append, List.length_append, be_length, be_length]
            omega
          have hbb : Bytes bd := by rw [hbd]; exact shB_bytes (chunk_bytes hby i)
          rw [← hbd] at ho5 ⊢
          have hb5 := hb.ext he5
          have z5 := he5.le
          have H5 := h.ext he5
          have wr : wrL v.abs G.st i = ((v.abs.do_ ⟨1, ((G.st.fr + i : Nat) : Int), secL G.st.ep G.st.nx bd, true, []⟩).1, if (v.abs.do_ ⟨1, ((G.st.fr + i : Nat) : Int), secL G.st.ep G.st.nx bd, true, []⟩).2.2 = 0 then { G.st with tm := G.st.tm.take i ++ [G.st.nx], nx := G.st.nx + 1 } else G.st, (v.abs.do_ ⟨1, ((G.st.fr + i : Nat) : Int), secL G.st.ep G.st.nx bd, true, []⟩).2.2) := by rw [hbd, hp]; rfl
          rw [wr]
          refine J.cut (X := Nat) [8, 9, 58, 59, 60, 61, 62, 63, 64, 65, 66, 67, 68, 69, 70, 71] (fun b => [(8, .slice (some ⟨b, 0, none⟩) 1024 1024), (9, .int .i64 0)]) (fun b w' => Blk w' b 5 (nums .u8 (secL G.st.ep G.st.nx bd)).toArray ∧ w5.heap.size ≤ b ∧ Ext w5 w') ?_ ?_
          · refine J.draw (ℓ := 1000000) (S := Ext w5) mixed (fun w6 hS hS_h => ?_)
            refine D.va 0 rfl (by kernel_rfl) (fun _ _ _ h => h) rfl (fun w' hw => X.move (by conv => lhs; whnf)) hS ?_
            refine D.va 1 rfl (by kernel_rfl) (fun _ _ _ h => h) rfl (fun w' hw => X.nilCheck rfl) hS ?_
            refine D.va 2 rfl (by kernel_rfl) (fun _ _ _ h => h) rfl (fun w' hw => X.fieldAddr rfl Tryd.underlying83 rfl sz_35 (by decide)) hS ?_
            refine D.va 3 rfl (by kernel_rfl) (fun _ _ _ h => h) rfl (fun w' hw => X.load rfl sc_35 (by first | exact Ld.blk (hb5.ext hw) rfl)) hS ?_
            refine D.va 4 rfl (by kernel_rfl) (fun _ _ _ h => h) rfl (fun w' hw => X.move (by conv => lhs; whnf)) hS ?_
            refine D.va 5 rfl (by kernel_rfl) (fun _ _ _ h => h) rfl (fun w' hw => X.nilCheck rfl) hS ?_
            refine D.va 6 rfl (by kernel_rfl) (fun _ _ _ h => h) rfl (fun w' hw => X.fieldAddr rfl Tryd.underlying83 rfl sz_35 (by decide)) hS ?_
            refine D.va 7 rfl (by kernel_rfl) (fun _ _ _ h => h) rfl (fun w' hw => X.load rfl sc_35 (by first | exact Ld.blk (hb5.ext hw) rfl)) hS ?_
            refine D.va 8 rfl (by kernel_rfl) (fun _ _ _ h => h) rfl (fun w' hw => X.move (by conv => lhs; whnf)) hS ?_
            refine D.va 9 rfl (by kernel_rfl) (fun _ _ _ h => h) rfl (fun w' hw => X.build (l := [_, _, _, _]) (Evs.cons (by conv => lhs; whnf) (Evs.cons (by conv => lhs; whnf) (Evs.cons (by conv => lhs; whnf) (Evs.cons (by conv => lhs; whnf) Evs.nil)))) (bld_run Tryd.underlying75 (bp_75 Tryd.underlying75) zr_75 rfl)) hS ?_
            refine D.one 10 (by kernel_rfl) rfl ?_
            refine L.call rfl en_63 rfl (put_ok 1 G.st.ep G.st.nx B5 bd.length d5 bd w6 (tabx H5.tab hS) (by omega) (by omega) hep.1 hep.2 hn.1 (by omega) hbl (Reads.of_own (ho5.ext hS)) hbb) ?_
            rintro e w7 ⟨rfl, hk7, he7⟩
            refine ⟨_, rfl, ?_⟩
            have hS1 := hS.trans he7
            refine L.nil ?_
            refine ⟨fun _ => hS1, ?_⟩
            have q6 := hS.le
            refine D.va 11 rfl (by kernel_rfl) (fun _ _ _ h => h) rfl (fun w' hw => X.move (by conv => lhs; whnf)) hS1 ?_
            refine D.va 12 rfl (by kernel_rfl) (fun _ _ _ h => h) rfl (fun w' hw => X.extract rfl rfl) hS1 ?_
            refine D.va 13 rfl (by kernel_rfl) (fun _ _ _ h => h) rfl (fun w' hw => X.extract rfl rfl) hS1 ?_
            refine D.va 14 rfl (by kernel_rfl) (fun _ _ _ h => h) rfl (fun w' hw => X.assign (by conv => lhs; whnf)) hS1 ?_
            refine D.va 15 rfl (by kernel_rfl) (fun _ _ _ h => h) rfl (fun w' hw => X.assign (by conv => lhs; whnf)) hS1 ?_
            refine D.done (by kernel_rfl) ?_
            replace hb5 := hb5.ext hS1
            refine ⟨w6.heap.size + 1, At2 (by first | rfl | exact at_int rfl (by omega) | exact at_slice rfl (by omega) | exact at_int rfl (by simp)) (by first | rfl | exact at_int rfl (by omega) | exact at_slice rfl (by omega) | exact at_int rfl (by simp)), (by (iterate 16 refine Agr.lk rfl ?_); exact Agr.rfl'), ?_⟩
            exact ⟨hk7, by omega, hS1⟩
          · rintro b8 g w6 ⟨hk6, hb6, he6⟩
            have he06 := he5.trans he6
            have H6 := h.ext he06
            have hb6' := hb.ext he06
            have hsl : (secL G.st.ep G.st.nx bd).length = 1024 := secL_len _ _ _ hbl
            have ho6 : w6.ownsRow w1.heap.size 5 1 (.slice (some ⟨b8, 0, none⟩) 1024 1024) 1024 (nums .u8 (secL G.st.ep G.st.nx bd)) := blk_own1 hk6 (by omega) (by decide) (by simp [nums, hsl])
            refine J.seq ?_
            refine J.seq ?_
            refine J.region ?_
            refine L.va rfl (X.move (by conv => lhs; whnf)) ?_
            refine L.va rfl (X.neq rfl rfl) ?_
            refine L.nil ?_
            refine J.iteF rfl ?_
            refine J.skip ?_
            refine J.seq ?_
            obtain ⟨x, hx⟩ : ∃ x : Dd, x = ⟨1, ((G.st.fr + i : Nat) : Int), secL G.st.ep G.st.nx bd, true, []⟩ := ⟨_, rfl⟩
            rw [← hx]
            refine J.cut (X := Unit) [10, 75, 76, 77, 78, 79, 80, 81, 82, 83, 84, 85, 86] (fun _ => [(10, .int .i64 (v.abs.do_ x).2.2)]) (fun _ w' => v.ToF N C (v.abs.do_ x).1 w6 w') ?_ ?_
            · skip
              refine J.draw (ℓ := 1000000) (S := (fun w' => Blk w' G.p 83 (G.cs v))) mixed (fun w7 hSE hS_h => ?_)
              have hS : ((fun w' => Blk w' G.p 83 (G.cs v))) w7 := hb6'.ext hSE
              have H7 := H6.ext hSE
              have K := H7.hd.write_anyF hok hm x (by rw [hx]) (Nat.le_refl N) (some ⟨b8, 0, none⟩) 1024 (fun _ => .inl (by rw [hx]; exact Dat.of_own (ho6.ext hSE)))
              rw [show x.bytes.length = 1024 by rw [hx]; exact hsl, show x.n = (G.st.fr : Int) + (i : Int) by rw [hx]; show ((G.st.fr + i : Nat) : Int) = _; omega] at K
              refine D.va 0 rfl (by kernel_rfl) (fun _ _ _ h => h) rfl (fun w' hw => X.move (by conv => lhs; whnf)) hS ?_
              refine D.va 1 rfl (by kernel_rfl) (fun _ _ _ h => h) rfl (fun w' hw => X.nilCheck rfl) hS ?_
              refine D.va 2 rfl (by kernel_rfl) (fun _ _ _ h => h) rfl (fun w' hw => X.fieldAddr rfl Tryd.underlying83 rfl sz_26 (by decide)) hS ?_
              refine D.va 3 rfl (by kernel_rfl) (fun _ _ _ h => h) rfl (fun w' hw => X.load rfl sc_26 (by first | exact Ld.blk hw rfl)) hS ?_
              refine D.va 4 rfl (by kernel_rfl) (fun _ _ _ h => h) rfl (fun w' hw => X.move (by conv => lhs; whnf)) hS ?_
              refine D.va 5 rfl (by kernel_rfl) (fun _ _ _ h => h) rfl (fun w' hw => X.nilCheck rfl) hS ?_
              refine D.va 6 rfl (by kernel_rfl) (fun _ _ _ h => h) rfl (fun w' hw => X.fieldAddr rfl Tryd.underlying83 rfl sz_3 (by decide)) hS ?_
              refine D.va 7 rfl (by kernel_rfl) (fun _ _ _ h => h) rfl (fun w' hw => X.load rfl sc_3 (by first | exact Ld.blk hw rfl)) hS ?_
              refine D.va 8 rfl (by kernel_rfl) (fun _ _ _ h => h) rfl (fun w' hw => X.move (by conv => lhs; whnf)) hS ?_
              refine D.va 9 rfl (by kernel_rfl) (fun _ _ _ h => h) rfl (fun w' hw => X.add rfl rfl (by omega)) hS ?_
              refine D.va 10 rfl (by kernel_rfl) (fun _ _ _ h => h) rfl (fun w' hw => X.move (by conv => lhs; whnf)) hS ?_
              refine D.one 11 (by kernel_rfl) rfl ?_
              refine L.call rfl en_31 rfl (K) ?_
              rintro e w8 ⟨rfl, ⟨v1, p1, p2, p3, p4, p5, p6⟩, _⟩
              refine ⟨_, rfl, ?_⟩
              have hS1 := (H7.cskeep p1 p2 p5 p6)
              refine L.nil ?_
              refine ⟨fun _ => hS1, ?_⟩
              refine D.va 12 rfl (by kernel_rfl) (fun _ _ _ h => h) rfl (fun w' hw => X.assign (by conv => lhs; whnf)) hS1 ?_
              refine D.done (by kernel_rfl) ?_
              refine ⟨(), At1 (by first | rfl | exact at_int rfl (by omega) | exact at_slice rfl (by omega) | exact at_int rfl (by simp)), (by (iterate 13 refine Agr.lk rfl ?_); exact Agr.rfl'), ?_⟩
              exact ⟨v1, p1, p2, p3, p4, (Kq.of_ext hSE).trans p5, fun y hy => (p6 y hy).imp id fun h2 g hg => Nat.le_trans hSE.le (h2 g hg)⟩
            · rintro _ g w7 ⟨v1, p1, p2, p3, p4, p5, p6⟩
              have H7 := H6.disk p1 p2 p5 p6
              have hb7 := H7.hb
              have c7 : Chg (G.LS v C w1) w1 w7 := Lg.chg_kq (Chg.of_ext he06) rfl rfl (Lg.Gr.refl _ _) p5
              refine J.seq ?_
              refine J.region ?_
              refine L.va rfl (X.move (by conv => lhs; whnf)) ?_
              refine L.va rfl (X.neq rfl rfl) ?_
              refine L.nil ?_
              refine J.ndec rfl (fun h0 => ?_) (fun h0 => ?_)
              · rw [if_neg (by omega)]
                refine J.seq ?_
                refine J.region ?_
                refine L.va rfl (X.move (by conv => lhs; whnf)) ?_
                refine L.va rfl (X.assign (by conv => lhs; whnf)) ?_
                refine L.nil ?_
                refine J.ret ?_
                refine thn_ret <| ?_
                refine fin1 ?_
                exact ⟨rfl, G, v1, H7, p2, p3, p4, rfl, c7, Lg.Gr.refl _ _⟩
              · have h00 : (v.abs.do_ x).2.2 = 0 := by omega
                rw [if_pos h00, h00]
                have htl7 : (G.st.tm.take i ++ [G.st.nx]).length = i + 1 := by rw [List.length_append, List.length_take]; simp; omega
                refine J.skip ?_
                refine J.seq ?_
                refine J.draw (ℓ := 15) (S := (fun w' => Blk w' G.p 83 (G.cs v1))) mixed (fun w8 hSE hS_h => ?_)
                have hS : ((fun w' => Blk w' G.p 83 (G.cs v1))) w8 := hb7.ext hSE
                have H8 := H7.ext hSE
                have z8 := hSE.le
                refine D.va 0 rfl (by kernel_rfl) (fun _ _ _ h => h) rfl (fun w' hw => X.move (by conv => lhs; whnf)) hS ?_
                refine D.va 1 rfl (by kernel_rfl) (fun _ _ _ h => h) rfl (fun w' hw => X.move (by conv => lhs; whnf)) hS ?_
                refine D.va 2 rfl (by kernel_rfl) (fun _ _ _ h => h) rfl (fun w' hw => X.nilCheck rfl) hS ?_
                refine D.va 3 rfl (by kernel_rfl) (fun _ _ _ h => h) rfl (fun w' hw => X.fieldAddr rfl Tryd.underlying83 rfl sz_40 (by decide)) hS ?_
                refine D.va 4 rfl (by kernel_rfl) (fun _ _ _ h => h) rfl (fun w' hw => X.load rfl sc_40 (by first | exact Ld.blk hw rfl)) hS ?_
                refine D.va 5 rfl (by kernel_rfl) (fun _ _ _ h => h) rfl (fun w' hw => X.move (by conv => lhs; whnf)) hS ?_
                refine D.va 6 rfl (by kernel_rfl) (fun _ _ _ h => h) rfl (fun w' hw => (by first | exact X.sliceTon rfl rfl Tryd.underlying40 sz_35 (by omega) | exact X.sliceTo rfl rfl Tryd.underlying40 sz_35 (by omega))) hS ?_
                refine D.va 7 rfl (by kernel_rfl) (fun _ _ _ h => h) rfl (fun w' hw => X.move (by conv => lhs; whnf)) hS ?_
                refine D.va 8 rfl (by kernel_rfl) (fun _ _ _ h => h) rfl (fun w' hw => X.nilCheck rfl) hS ?_
                refine D.va 9 rfl (by kernel_rfl) (fun _ _ _ h => h) rfl (fun w' hw => X.fieldAddr rfl Tryd.underlying83 rfl sz_35 (by decide)) hS ?_
                refine D.va 10 rfl (by kernel_rfl) (fun _ _ _ h => h) rfl (fun w' hw => X.load rfl sc_35 (by first | exact Ld.blk hw rfl)) hS ?_
                refine D.one 11 (by kernel_rfl) rfl ?_
                refine L.bslice (vs := [_]) rfl (Evs.cons (by conv => lhs; whnf) Evs.nil) rfl rfl rfl rfl Tryd.underlying40 sz_35 zr_35 (by decide) ?_
                intro b9 w9 hb9 hs9 hk9 he9
                have hS1 := hS.ext he9
                refine L.nil ?_
                refine ⟨fun _ => hS1, ?_⟩
                have H9 := H8.ext he9
                have hoT := own_cutN H9.ht hi
                have hne9 : some G.p ≠ Value.ownBlock (.slice G.tA i G.tc) := fun e => own_blk_ne hoT H9.hb (by decide) e.symm
                have hz9 := H9.hd.nsz
                refine D.one 12 (by kernel_rfl) rfl ?_
                refine L.appendQ (q := i + 1) (ys := G.st.tm.take i ++ [G.st.nx]) rfl rfl rfl Tryd.underlying40 el_35 (hoT) ((blk_reads (q := 1) (l := nums .u64 [G.st.nx]) hk9 hk9.lt rfl)) (by omega) (by simp) (by unfold maxLen; omega) (by omega) ?_
                intro A10 c10 w10 ho10 hg10 hb10 hor10
                have hS2 := hS1.grown hg10 hne9
                refine L.nil ?_
                refine ⟨fun _ => hS2, ?_⟩
                refine D.va 13 rfl (by kernel_rfl) (fun _ _ _ h => h) rfl (fun w' hw => X.nilCheck rfl) hS2 ?_
                refine D.va 14 rfl (by kernel_rfl) (fun _ _ _ h => h) rfl (fun w' hw => X.fieldAddr rfl Tryd.underlying83 rfl sz_40 (by decide)) hS2 ?_
                refine D.one 15 (by kernel_rfl) rfl ?_
                refine L.store rfl rfl (by conv => lhs; whnf) rfl sz_40 (hS2) (by first | decide | exact Nat.le_of_ble_eq_true rfl) ?_
                intro w11 hk11 hg11 hs11
                refine L.nil ?_
                refine ⟨fun h => absurd rfl h, ?_⟩
                refine D.done (by kernel_rfl) ?_
                obtain ⟨H11, c11, g11⟩ := H9.tput (l := { G.st with tm := G.st.tm.take i ++ [G.st.nx] }) (tA := A10) (tc := c10) (by rw [show G.ts.ownBlock = Value.ownBlock (.slice G.tA i G.tc) from ob_len _ _ _ _ _]; exact hg10) (by show w10.ownsRow N 35 1 (.slice A10 (G.st.tm.take i ++ [G.st.nx]).length c10) (G.st.tm.take i ++ [G.st.nx]).length _; rw [htl7]; exact ho10) (fun b hb => by
                  rw [show Value.ownBlock (.slice A10 (G.st.tm.take i ++ [G.st.nx]).length c10) = Value.ownBlock (.slice A10 (i + 1) c10) from ob_len _ _ _ _ _] at hb
                  rcases hor10 with e | e
                  · exact .inl (by rw [← hb, e]; exact ob_len _ _ _ _ _)
                  · rw [e] at hb
                    injection hb with hb
                    exact .inr (by omega)) hg11 (by unfold Lg.cs Lg.ts; dsimp only; rw [htl7]; exact hk11) rfl
                have hb11 : Blk w11 G.p 83 #[.bool true, v1.ptr, .int .i64 (G.st.fr : Int), .int .i64 (G.st.ct : Int), .int .u64 G.st.ep, .int .u64 G.st.nx, G.ss, .slice A10 (G.st.tm.take i ++ [G.st.nx]).length c10, .int .i64 G.st.bad] := H11.hb
                have c12 := Lg.chg_trans (Lg.chg_ext (Lg.chg_ext c7 hSE) he9) p2 p3 (Lg.Gr.refl G _) c11
                have g12 := (Lg.Gr.refl G w1.heap.size).trans g11 (Nat.le_trans c7.size (Nat.le_trans hSE.le he9.le))
                refine J.seq ?_
                refine J.region ?_
                refine L.va rfl (X.move (by conv => lhs; whnf)) ?_
                refine L.va rfl (X.nilCheck rfl) ?_
                refine L.va rfl (X.fieldAddr rfl Tryd.underlying83 rfl sz_35 (by decide)) ?_
                refine L.va rfl (X.load rfl sc_35 (by first | exact Ld.blk hb11 rfl | exact hn)) ?_
                refine L.va rfl (X.addU rfl rfl (by omega)) ?_
                refine L.va rfl (X.nilCheck rfl) ?_
                refine L.va rfl (X.fieldAddr rfl Tryd.underlying83 rfl sz_35 (by decide)) ?_
                refine L.store rfl rfl (by conv => lhs; whnf) rfl sz_35 (hb11) (by first | decide | exact Nat.le_of_ble_eq_true rfl) ?_
                intro w12 hb12 hg12 hs12
                obtain ⟨H12, c13, g13⟩ := H11.put' (l := { G.st with tm := G.st.tm.take i ++ [G.st.nx], nx := G.st.nx + 1 }) (sA := G.sA) (sc := G.sc) (tA := A10) (tc := c10) hg12 hb12 H11.hs rfl H11.ht rfl
                refine L.nil ?_
                refine J.seq ?_
                refine J.region ?_
                refine L.va rfl (X.assign (by conv => lhs; whnf)) ?_
                refine L.nil ?_
                refine J.ret ?_
                refine fin1 ?_
                exact ⟨rfl, _, v1, H12, p2, p3, p4, rfl, Lg.chg_trans c12 p2 p3 g12 c13, g12.trans g13 c12.size⟩
end
end Go.Proofs.YtjdimgigbgafbaaDoor
namespace Go.Proofs.YtjdimgigbgafbaaDoor
set_option maxRecDepth 100000
open Go.RowKit H
open Lo Byts Seal Fram
set_option linter.unusedVariables false
theorem wrL_good {s : Ds} {l : Ls} {i : Nat} (h : (wrL s l i).2.2 = 0) : (wrL s l i).2.1 = { l with tm := l.tm.take i ++ [l.nx], nx := l.nx + 1 } := if_pos h
theorem wrL_Ok {s : Ds} {l : Ls} {i m : Nat} (hs : s.Ok m) (h : l.fr + i ≤ 20000) : (wrL s l i).1.Ok (m + 1) := hs.do_ _ (show ((l.fr + i : Nat) : Int) ≤ 9223372036854775807 by omega)
structure Wr (l1 l : Ls) (first j : Nat) : Prop where
  fr : l.fr = l1.fr
  ct : l.ct = l1.ct
  ep : l.ep = l1.ep
  nx : l.nx = l1.nx + j
  sm : l.sm = l1.sm
  bad : l.bad = l1.bad
  tl : first + j ≤ l.tm.length
  tt : ∀ t ∈ l.tm, 0 ≤ t ∧ t ≤ 4611686018427387904
theorem Wr.next {l1 l : Ls} {first j : Nat} (h : Wr l1 l first j) (h0 : 0 ≤ l1.nx) (hn : l1.nx + j ≤ 4611686018427387904) : Wr l1 { l with tm := l.tm.take (first + j) ++ [l.nx], nx := l.nx + 1 } first (j + 1) := by
  have hx := h.nx
  have ht := h.tl
  refine ⟨h.fr, h.ct, h.ep, by show l.nx + 1 = l1.nx + ((j + 1 : Nat) : Int); omega, h.sm, h.bad, ?_, ?_⟩
  · show first + (j + 1) ≤ (l.tm.take (first + j) ++ [l.nx]).length
    rw [List.length_append, List.length_take]
    simp
    omega
  · intro t ht'
    rcases List.mem_append.1 ht' with h1 | h1
    · exact h.tt t (List.mem_of_mem_take h1)
    · obtain rfl : t = l.nx := by simpa using h1
      omega
section
variable {G : Lg} {v : Dk} {N : Nat} {C : Nat → Prop} {w w' : World}
theorem lappend (h : G.At v N C w) {m : Nat} (hok : v.abs.Ok m) (hm : m + 8192 ≤ 1000000) (hL : Lo.Ok G.st v.kp.length) (A : Option Addr) (n c : Nat) (zs : List Int) (hr : Reads w w.heap.size 1 A n (nums .u8 zs)) (hz : Bytes zs) (hn : n ≤ 1000000) :
    Calls Tryd.prog 12 #[G.ptr, .slice A n c] w fun e w' => e = .returned (.int .i64 (appL v.abs G.st zs).2.2) ∧ G.To v N C (appL v.abs G.st zs).1 (appL v.abs G.st zs).2.1 w w' := by
  have hb := h.hb
  have hzl : zs.length = n := by have := hr.1; simpa [nums] using this
  obtain ⟨f1, f2, hep, n1, n2, hsb, hsl, htl, htt, htc⟩ := hL
  have hkl := h.hd.h1
  have hsb2 := h.hs.bd
  have hNw := h.hd.nsz
  refine enter Tryd.func12 rfl (by kernel_rfl) ?_
  refine J.seq ?_
  refine J.region ?_
  refine L.va rfl (X.assign (by conv => lhs; whnf)) ?_
  refine L.nil ?_
  refine J.seq ?_
  refine J.seq ?_
  refine J.region ?_
  refine L.va rfl (X.move (by conv => lhs; whnf)) ?_
  refine L.call rfl en_45 rfl (lfine h) ?_
  rintro e _ ⟨rfl, rfl⟩
  refine ⟨_, rfl, ?_⟩
  refine L.va rfl (X.assign (by conv => lhs; whnf)) ?_
  refine L.nil ?_
  refine J.seq ?_
  refine J.region ?_
  refine L.va rfl (X.move (by conv => lhs; whnf)) ?_
  refine L.va rfl (X.neq rfl rfl) ?_
  refine L.nil ?_
  refine J.ndec rfl (fun h1 => ?_) (fun h1 => ?_)
  · have e : appL v.abs G.st zs = (v.abs, G.st, G.st.bad) := if_pos h1
    rw [e]
    refine J.seq ?_
    refine J.region ?_
    refine L.va rfl (X.move (by conv => lhs; whnf)) ?_
    refine L.va rfl (X.assign (by conv => lhs; whnf)) ?_
    refine L.nil ?_
    refine J.ret ?_
    refine thn_ret <| ?_
    refine fin1 ?_
    exact ⟨rfl, h.toL⟩
  · have h1' : G.st.bad = 0 := by omega
    have htl := htl h1'
    by_cases hlong : 60000 < n
    · have e : appL v.abs G.st zs = (v.abs, G.st, 4) := by unfold appL; rw [if_neg (by omega), if_pos (by omega)]
      rw [e]
      refine J.skip ?_
      refine J.seq ?_
      refine J.region ?_
      refine L.va rfl (X.move (by conv => lhs; whnf)) ?_
      refine L.call rfl en_46 rfl (fput_long A n c w hlong (by omega)) ?_
      rintro e _ ⟨rfl, rfl⟩
      refine ⟨_, rfl, ?_⟩
      refine L.va rfl (X.move (by conv => lhs; whnf)) ?_
      refine L.va rfl (X.extract rfl rfl) ?_
      refine L.va rfl (X.extract rfl rfl) ?_
      refine L.va rfl (X.assign (by conv => lhs; whnf)) ?_
      refine L.va rfl (X.assign (by conv => lhs; whnf)) ?_
      refine L.nil ?_
      refine J.seq ?_
      refine J.seq ?_
      refine J.region ?_
      refine L.va rfl (X.move (by conv => lhs; whnf)) ?_
      refine L.va rfl (X.neq rfl rfl) ?_
      refine L.nil ?_
      refine J.iteT rfl ?_
      refine J.seq ?_
      refine J.region ?_
      refine L.va rfl (X.move (by conv => lhs; whnf)) ?_
      refine L.va rfl (X.assign (by conv => lhs; whnf)) ?_
      refine L.nil ?_
      refine J.ret ?_
      refine thn_ret <| ?_
      refine fin1 ?_
      exact ⟨rfl, h.toL⟩
    · obtain ⟨f, hf⟩ : ∃ f, f = frm smZ zs := ⟨_, rfl⟩
      have hfl : f.length = 8 + n := by rw [hf, frm_length smZ (fun _ => rfl), hzl]
      obtain ⟨first, hfi⟩ : ∃ q, q = G.st.sm.length / 991 := ⟨_, rfl⟩
      obtain ⟨last, hla⟩ : ∃ q, q = (G.st.sm.length + (8 + n) - 1) / 991 := ⟨_, rfl⟩
      have e : appL v.abs G.st zs = if G.st.ct * 991 < G.st.sm.length + (8 + n) ∨ 4611686018427387904 ≤ G.st.nx + ((last - first : Nat) : Int) then (v.abs, G.st, 12) else wrN v.abs { G.st with sm := G.st.sm ++ f } first (last + 1 - first) := by
        unfold appL
        rw [if_neg (by omega), if_neg (by omega), ← hf]
        dsimp only
        rw [hfl, ← hfi, ← hla]
      have ei : (G.st.sm.length : Int) / 991 = (first : Int) := by omega
      have el : ((G.st.sm.length : Int) + ((8 + n : Nat) : Int) - 1) / 991 = (last : Int) := by omega
      have hfb : Bytes f := by
        rw [hf]
        intro z hz'
        unfold frm at hz'
        rcases List.mem_append.1 hz' with h2 | h2
        · exact fhd_bytes zs hz z h2
        · exact smZ_bytes _ z h2
      refine J.skip ?_
      refine J.seq ?_
      refine J.region ?_
      refine L.va rfl (X.move (by conv => lhs; whnf)) ?_
      refine L.call rfl en_46 rfl (fput_ok A n c zs w h.tab (by omega) hr hz) ?_
      rintro e w1 ⟨A1, c1, rfl, hr1, he1, hc1, hc1'⟩
      refine ⟨_, rfl, ?_⟩
      have he1 : Ext w w1 := he1
      rw [← hf] at hr1
      rw [hzl] at hr1 hc1 ⊢
      have H1 := h.ext he1
      have hb1 := hb.ext he1
      refine L.va rfl (X.move (by conv => lhs; whnf)) ?_
      refine L.va rfl (X.extract rfl rfl) ?_
      refine L.va rfl (X.extract rfl rfl) ?_
      refine L.va rfl (X.assign (by conv => lhs; whnf)) ?_
      refine L.va rfl (X.assign (by conv => lhs; whnf)) ?_
      refine L.nil ?_
      refine J.seq ?_
      refine J.seq ?_
      refine J.region ?_
      refine L.va rfl (X.move (by conv => lhs; whnf)) ?_
      refine L.va rfl (X.neq rfl rfl) ?_
      refine L.nil ?_
      refine J.iteF rfl ?_
      refine J.skip ?_
      refine J.seq ?_
      refine J.region ?_
      refine L.va rfl (X.move (by conv => lhs; whnf)) ?_
      refine L.va rfl (X.nilCheck rfl) ?_
      refine L.va rfl (X.fieldAddr rfl Tryd.underlying83 rfl sz_39 (by decide)) ?_
      refine L.va rfl (X.load rfl sc_39 (by first | exact Ld.blk hb1 rfl)) ?_
      refine L.va rfl (X.len rfl Tryd.underlying39) ?_
      refine L.va rfl (X.quo rfl rfl (by omega)) ?_
      refine L.va rfl (X.assign (by conv => lhs; whnf)) ?_
      refine L.nil ?_
      rw [ei]
      refine J.seq ?_
      refine J.region ?_
      refine L.va rfl (X.move (by conv => lhs; whnf)) ?_
      refine L.va rfl (X.nilCheck rfl) ?_
      refine L.va rfl (X.fieldAddr rfl Tryd.underlying83 rfl sz_39 (by decide)) ?_
      refine L.va rfl (X.load rfl sc_39 (by first | exact Ld.blk hb1 rfl)) ?_
      refine L.va rfl (X.len rfl Tryd.underlying39) ?_
      refine L.va rfl (X.move (by conv => lhs; whnf)) ?_
      refine L.va rfl (X.len rfl Tryd.underlying39) ?_
      refine L.va rfl (X.add rfl rfl (by omega)) ?_
      refine L.va rfl (X.sub rfl rfl (by omega)) ?_
      refine L.va rfl (X.quo rfl rfl (by omega)) ?_
      refine L.va rfl (X.assign (by conv => lhs; whnf)) ?_
      refine L.nil ?_
      rw [el]
      refine J.seq ?_
      refine J.seq ?_
      refine J.region ?_
      refine L.va rfl (X.move (by conv => lhs; whnf)) ?_
      refine L.va rfl (X.len rfl Tryd.underlying39) ?_
      refine L.va rfl (X.move (by conv => lhs; whnf)) ?_
      refine L.call rfl en_24 rfl (lroom H1 (by omega)) ?_
      rintro e w2 ⟨rfl, he2⟩
      refine ⟨_, rfl, ?_⟩
      have he2 : Ext w1 w2 := he2
      have he02 := he1.trans he2
      have H2 := h.ext he02
      have hb2 := hb1.ext he2
      refine L.va rfl (X.gtr rfl rfl) ?_
      refine L.va rfl (X.move (by conv => lhs; whnf)) ?_
      refine L.caseDec (k := 46) rfl (fun h3 => ?_) (fun h3 => ?_)
      · rw [e, if_pos (.inl (by omega))]
        refine L.no rfl ?_
        refine L.no rfl ?_
        refine L.no rfl ?_
        refine L.no rfl ?_
        refine L.no rfl ?_
        refine L.no rfl ?_
        refine L.no rfl ?_
        refine L.no rfl ?_
        refine L.no rfl ?_
        refine L.no rfl ?_
        refine L.va rfl (X.pickT rfl (by conv => lhs; whnf)) ?_
        refine L.nil ?_
        refine J.iteT rfl ?_
        refine J.seq ?_
        refine J.region ?_
        refine L.va rfl (X.assign (by conv => lhs; whnf)) ?_
        refine L.nil ?_
        refine J.ret ?_
        refine thn_ret <| ?_
        refine fin1 ?_
        exact ⟨rfl, G, v, H2, rfl, rfl, rfl, rfl, Chg.of_ext he02, Lg.Gr.refl _ _⟩
      · refine L.va rfl (X.move (by conv => lhs; whnf)) ?_
        refine L.va rfl (X.nilCheck rfl) ?_
        refine L.va rfl (X.fieldAddr rfl Tryd.underlying83 rfl sz_35 (by decide)) ?_
        refine L.va rfl (X.load rfl sc_35 (by first | exact Ld.blk hb2 rfl)) ?_
        refine L.va rfl (X.move (by conv => lhs; whnf)) ?_
        refine L.va rfl (X.move (by conv => lhs; whnf)) ?_
        refine L.va rfl (X.sub rfl rfl (by omega)) ?_
        refine L.va rfl ((by first | exact X.convU rfl is_3 Tryd.underlying35 (by omega) | exact X.convw rfl is_3 Tryd.underlying35)) ?_
        refine L.va rfl (X.addU rfl rfl (by omega)) ?_
        refine L.va rfl (X.geq rfl rfl) ?_
        refine L.va rfl (X.pickF rfl (by conv => lhs; whnf)) ?_
        refine L.nil ?_
        refine J.dec rfl (fun h4 => ?_) (fun h4 => ?_)
        · rw [e, if_pos (.inr (by omega))]
          refine J.seq ?_
          refine J.region ?_
          refine L.va rfl (X.assign (by conv => lhs; whnf)) ?_
          refine L.nil ?_
          refine J.ret ?_
          refine thn_ret <| ?_
          refine fin1 ?_
          exact ⟨rfl, G, v, H2, rfl, rfl, rfl, rfl, Chg.of_ext he02, Lg.Gr.refl _ _⟩
        · rw [e, if_neg (by omega)]
          obtain ⟨l1, hl1⟩ : ∃ l1 : Ls, l1 = { G.st with sm := G.st.sm ++ f } := ⟨_, rfl⟩
          have l1l : l1.sm.length = G.st.sm.length + (8 + n) := by rw [hl1]; show (G.st.sm ++ f).length = _; rw [List.length_append, hfl]
          rw [← hl1]
          have hr2 := (hr1.ext he2).more he2.le
          have z2 := he02.le
          refine J.skip ?_
          refine J.seq ?_
          refine J.region ?_
          refine L.va rfl (X.move (by conv => lhs; whnf)) ?_
          refine L.va rfl (X.move (by conv => lhs; whnf)) ?_
          refine L.va rfl (X.nilCheck rfl) ?_
          refine L.va rfl (X.fieldAddr rfl Tryd.underlying83 rfl sz_39 (by decide)) ?_
          refine L.va rfl (X.load rfl sc_39 (by first | exact Ld.blk hb2 rfl)) ?_
          refine L.va rfl (X.move (by conv => lhs; whnf)) ?_
          refine L.appendSm rfl rfl rfl Tryd.underlying39 el_5 H2.hs hr2 (by omega) (by unfold maxLen; omega) (by omega) ?_
          intro A3 c3 w3 ho3 hg3 hor3
          have hb3 : Blk w3 G.p 83 (G.cs v) := hb2.grown hg3 (fun e => absurd ((H2.hs.own e.symm).1.fun_ hb2.isT) (by decide))
          refine L.va rfl (X.nilCheck rfl) ?_
          refine L.va rfl (X.fieldAddr rfl Tryd.underlying83 rfl sz_39 (by decide)) ?_
          refine L.store rfl rfl (by conv => lhs; whnf) rfl sz_39 (hb3) (by first | decide | exact Nat.le_of_ble_eq_true rfl) ?_
          intro w4 hb4 hg4 hs4
          obtain ⟨H4, c4, g4⟩ := H2.sput (l := l1) (sA := A3) (sc := c3) hg3 (by rw [l1l, hl1]; exact ho3) (fun b hb => by rw [l1l] at hb; exact hor3 b hb) hg4 (by unfold Lg.cs Lg.ss; dsimp only; rw [l1l, hl1]; exact hb4) (by rw [hl1])
          have c04 : Chg (G.LS v C w) w w4 := Lg.chg_trans (Chg.of_ext he02) rfl rfl (Lg.Gr.refl G _) c4
          have g04 : Lg.Gr G ⟨G.p, A3, c3, G.tA, G.tc, l1⟩ w.heap.size := (Lg.Gr.refl G w.heap.size).trans g4 z2
          obtain ⟨k, hk⟩ : ∃ k, k = last + 1 - first := ⟨_, rfl⟩
          have hfl2 : first ≤ last := by omega
          have hW : Wr l1 l1 first 0 := by
            refine ⟨rfl, rfl, rfl, by simp, rfl, rfl, ?_, ?_⟩
            · rw [hl1]; show first + 0 ≤ G.st.tm.length; omega
            · rw [hl1]; exact htt
          have hl1b : Bytes l1.sm := by
            rw [hl1]
            intro z hz'
            rcases List.mem_append.1 (show z ∈ G.st.sm ++ f from hz') with h2 | h2
            · exact hsb z h2
            · exact hfb z h2
          have hl1x : l1.nx = G.st.nx := by rw [hl1]
          have hl1f : l1.fr = G.st.fr := by rw [hl1]
          have hl1e : l1.ep = G.st.ep := by rw [hl1]
          have hl1d : l1.bad = 0 := by rw [hl1]; exact h1'
          rw [← hk]
          refine L.nil ?_
          refine J.seq ?_
          refine J.seq ?_
          refine J.region ?_
          refine L.va rfl (X.move (by conv => lhs; whnf)) ?_
          refine L.va rfl (X.assign (by conv => lhs; whnf)) ?_
          refine L.nil ?_
          refine J.block ?_
          refine J.loop (X := Nat × Lg × Dk) [4, 10, 11, 68, 69, 70, 71, 72, 73, 74, 75, 76, 77, 78, 79, 80, 81, 82] (fun (j, _, _) => [(10, .int .i64 ((first : Int) + (j : Int)))]) (fun (j, G2, v2) w' => j ≤ k ∧ G2.At v2 N C w' ∧ v2.d = v.d ∧ v2.kb = v.kb ∧ v2.abs.Ok (m + j) ∧ Wr l1 G2.st first j ∧ wrN v.abs l1 first k = wrN v2.abs G2.st (first + j) (k - j) ∧ Chg (G.LS v C w) w w' ∧ Lg.Gr G G2 w.heap.size) (fun (j, _, _) => k - j) ((0, ⟨G.p, A3, c3, G.tA, G.tc, l1⟩, v)) (At1 (by first | rfl | exact at_int rfl (by omega) | exact at_slice rfl (by omega) | exact at_int rfl (by simp))) ?_ ?_
          · exact ⟨Nat.zero_le _, H4, rfl, rfl, hok, hW, rfl, c04, g04⟩
          · rintro ⟨j, G2, v2⟩ g w5 ⟨hj, H5, d5, k5, ok5, W5, e5, c5, g5⟩
            have hx5 := W5.nx
            have hb5 := H5.hb
            rw [g5.p] at hb5
            refine J.seq ?_
            refine J.seq ?_
            refine J.region ?_
            refine L.va rfl (X.move (by conv => lhs; whnf)) ?_
            refine L.va rfl (X.move (by conv => lhs; whnf)) ?_
            refine L.va rfl (X.leq rfl rfl) ?_
            refine L.nil ?_
            refine J.dec rfl (fun hlt => ?_) (fun hlt => ?_)
            · have hjk : j < k := by omega
              obtain ⟨k', hk'⟩ : ∃ k', k - j = k' + 1 := ⟨k - j - 1, by omega⟩
              have K := lwrite H5 ok5 (by omega) (first + j) W5.tl (by rw [W5.sm, l1l]; omega) (by omega) (by rw [W5.fr, hl1f]; omega) (by omega) (by rw [W5.ep, hl1e]; exact hep) (by rw [W5.sm]; exact hl1b) (by rw [W5.sm, l1l]; omega) W5.tt
              rw [show G2.ptr = G.ptr by unfold Lg.ptr; rw [g5.p], show ((first + j : Nat) : Int) = (first : Int) + (j : Int) by omega] at K
              rw [hk'] at e5
              have eN : wrN v2.abs G2.st (first + j) (k' + 1) = if (wrL v2.abs G2.st (first + j)).2.2 = 0 then wrN (wrL v2.abs G2.st (first + j)).1 (wrL v2.abs G2.st (first + j)).2.1 (first + j + 1) k' else ((wrL v2.abs G2.st (first + j)).1, { (wrL v2.abs G2.st (first + j)).2.1 with bad := (wrL v2.abs G2.st (first + j)).2.2 }, (wrL v2.abs G2.st (first + j)).2.2) := rfl
              rw [eN] at e5
              have hgood := wrL_good (s := v2.abs) (l := G2.st) (i := first + j)
              have hwok := wrL_Ok (l := G2.st) (i := first + j) ok5 (by rw [W5.fr, hl1f]; omega)
              obtain ⟨r, hr0⟩ : ∃ r, r = wrL v2.abs G2.st (first + j) := ⟨_, rfl⟩
              rw [← hr0] at K e5 hgood hwok
              refine J.skip ?_
              refine J.seq ?_
              refine J.block ?_
              refine J.seq ?_
              refine J.region ?_
              refine L.va rfl (X.move (by conv => lhs; whnf)) ?_
              refine L.va rfl (X.move (by conv => lhs; whnf)) ?_
              refine L.call rfl en_47 rfl (K) ?_
              rintro e w6 ⟨rfl, G6, v6, H6, d6, k6, a6, s6, c6, g6⟩
              refine ⟨_, rfl, ?_⟩
              have c06 := Lg.chg_trans c5 d5 k5 g5 c6
              have g06 := g5.trans g6 c5.size
              have hb6 := H6.hb
              rw [g06.p] at hb6
              refine L.va rfl (X.assign (by conv => lhs; whnf)) ?_
              refine L.nil ?_
              refine J.seq ?_
              refine J.region ?_
              refine L.va rfl (X.move (by conv => lhs; whnf)) ?_
              refine L.va rfl (X.neq rfl rfl) ?_
              refine L.nil ?_
              refine J.ndec rfl (fun h0 => ?_) (fun h0 => ?_)
              · rw [if_neg (by omega)] at e5
                rw [e5]
                refine J.seq ?_
                refine J.region ?_
                refine L.va rfl (X.move (by conv => lhs; whnf)) ?_
                refine L.va rfl (X.move (by conv => lhs; whnf)) ?_
                refine L.va rfl (X.nilCheck rfl) ?_
                refine L.va rfl (X.fieldAddr rfl Tryd.underlying83 rfl sz_27 (by decide)) ?_
                refine L.store rfl rfl (by conv => lhs; whnf) rfl sz_27 (hb6) (by first | decide | exact Nat.le_of_ble_eq_true rfl) ?_
                intro w7 hb7 hg7 hs7
                obtain ⟨H7, c7, g7⟩ := H6.put' (l := { r.2.1 with bad := r.2.2 }) (sA := G6.sA) (sc := G6.sc) (tA := G6.tA) (tc := G6.tc) (by rw [g06.p]; exact hg7) (by rw [g06.p]; unfold Lg.cs Lg.ss Lg.ts; dsimp only; rw [← s6]; exact hb7) (by show Sm _ _ _ _ _ r.2.1.sm.length _ r.2.1.sm; rw [← s6]; exact H6.hs) (by show Value.ownBlock (.slice G6.sA r.2.1.sm.length G6.sc) = _; rw [← s6]) (by show World.ownsRow _ _ _ _ (.slice G6.tA r.2.1.tm.length G6.tc) r.2.1.tm.length (nums .u64 r.2.1.tm); rw [← s6]; exact H6.ht) (by show Value.ownBlock (.slice G6.tA r.2.1.tm.length G6.tc) = _; rw [← s6])
                refine L.nil ?_
                refine J.seq ?_
                refine J.region ?_
                refine L.va rfl (X.move (by conv => lhs; whnf)) ?_
                refine L.va rfl (X.assign (by conv => lhs; whnf)) ?_
                refine L.nil ?_
                refine J.ret ?_
                refine inB_ret <|  thn_ret <|  thn_ret <|  inB_ret <|  thn_ret <| ?_
                refine fin1 ?_
                exact ⟨rfl, _, v6, H7, d6.trans d5, k6.trans k5, a6, rfl, Lg.chg_trans c06 (d6.trans d5) (k6.trans k5) g06 c7, g06.trans g7 c06.size⟩
              · have h00 : r.2.2 = 0 := by omega
                rw [if_pos h00] at e5
                have hgood := hgood h00
                refine J.skip ?_
                refine J.region ?_
                refine L.va rfl (X.move (by conv => lhs; whnf)) ?_
                refine L.va rfl (X.add rfl rfl (by omega)) ?_
                refine L.va rfl (X.assign (by conv => lhs; whnf)) ?_
                refine L.nil ?_
                refine ⟨(j + 1, G6, v6), At1 (by first | rfl | exact at_int rfl (by omega) | exact at_slice rfl (by omega) | exact at_int rfl (by simp)), (by (iterate 12 refine Agr.lk rfl ?_); exact Agr.lk rfl (Agr.hav rfl Agr.rfl')), ?_⟩
                refine ⟨⟨by omega, H6, d6.trans d5, k6.trans k5, by rw [a6]; exact hwok, ?_, ?_, c06, g06⟩, by show k - (j + 1) < k - j; omega⟩
                · rw [s6, hgood]
                  exact W5.next (by omega) (by omega)
                · rw [e5, a6, s6, show k' = k - (j + 1) by omega, Nat.add_assoc]
            · have hjk : j = k := by omega
              have e6 : wrN v2.abs G2.st (first + j) (k - j) = (v2.abs, G2.st, 0) := by rw [hjk, Nat.sub_self]; rfl
              rw [e5, e6]
              refine J.exit ?_
              refine J.seq ?_
              refine J.region ?_
              refine L.va rfl (X.assign (by conv => lhs; whnf)) ?_
              refine L.nil ?_
              refine J.ret ?_
              refine fin1 ?_
              exact ⟨rfl, G2, v2, H5, d5, k5, rfl, rfl, c5, g5⟩
end
end Go.Proofs.YtjdimgigbgafbaaDoor
namespace Go.Proofs.YtjdimgigbgafbaaDoor.H
open Go.RowKit Go.Proofs.YtjdimgigbgafbaaDoor
set_option linter.unusedVariables false
set_option linter.unusedSimpArgs false
section
variable {P : Program} {m n : Nat} {ops rest : List Oper} {Q : Exit → Fr → World → Prop} {f : Fr} {w w' : World} {o : Oper} {v : Value}
def LI (m : Nat) (P : Program) (n : Nat) (ops : List Oper) (Q : Exit → Fr → World → Prop) (l : List Oper) (f : Fr) (w : World) : Prop :=
  l.all (fitO n) = true → ∀ a, Rep n f a → wpListIn Fence.wide m P ops.toArray (lft n Q) l a w
theorem LI.nil (h : Q .normal f w) : LI m P n ops Q [] f w := fun _ _ hr => ⟨f, hr, h⟩
theorem J.listIn {id : Nat} {l : List Oper} (h : LI m P n l Q l f w) : J P n (.region id l.toArray false) Q f w := by
  intro hf a hr
  simp only [fitC] at hf
  exact wpIn_wide.1 (wpIn_region_lit (h hf a hr))
theorem LI.val (hg : wn ops f o.guard = true) (hx : (execOp (ev f) o).run P w = .ok (.value v) w') (h : LI m P n ops Q rest (putO f o.dst v) w') : LI m P n ops Q (o :: rest) f w := by
  intro hf a hr
  simp only [List.all_cons, Bool.and_eq_true] at hf
  refine wpListIn_step fun K hK => ?_
  rw [wanted_eq hr, hg, if_pos rfl]
  refine ⟨fun _ _ => trivial, ?_⟩
  rw [Fence.wide_round, Oper.semAt_none, hr.eval, hx]
  exact hK _ _ (h hf.2 _ (hr.put v hf.1))
theorem LI.va {k : Nat} {op : Op} {ty : TypeId} {pos : String} {aft : Array Edge} {g : Option (Nat × Bool)} (hg : wn ops f g = true) (hx : (execOp (ev f) ⟨some k, op, ty, pos, aft, g⟩).run P w = .ok (.value v) w') (h : LI m P n ops Q rest (lk [(k, v)] f) w') : LI m P n ops Q (⟨some k, op, ty, pos, aft, g⟩ :: rest) f w := LI.val hg hx h
theorem LI.yield {r fn : Nat} {tmps : Array Value} {assign body : Code} {R : Ending → World → Prop} (hg : wn ops f o.guard = true) (hx : (execOp (ev f) o).run P w = .ok (.round r fn tmps assign body) w') (hR : RoundIn Fence.wide (m - 1) P r fn tmps assign body w' R)
    (h : ∀ e w'', R e w'' → ∃ v, e = .returned v ∧ LI m P n ops Q rest (putO f o.dst v) w'') : LI m P n ops Q (o :: rest) f w := by
  intro hf a hr
  simp only [List.all_cons, Bool.and_eq_true] at hf
  refine wpListIn_step fun K hK => ?_
  rw [wanted_eq hr, hg, if_pos rfl]
  refine ⟨fun _ _ => trivial, ?_⟩
  rw [Fence.wide_round, Oper.semAt_none, hr.eval, hx]
  refine ⟨by simp [Fence.wide], hR.mono fun e w'' hq => ?_⟩
  obtain ⟨v, rfl, hl⟩ := h e w'' hq
  exact hK _ _ (hl hf.2 _ (hr.put v hf.1))
theorem X.yield {ρ : Operand → Value} {d : Option Tmp} {ty : TypeId} {pos : String} {aft : Array Edge} {g : Option (Nat × Bool)} {c : Operand} {l : List Operand} {ts : Array TypeId} {vs : List Value} {r fn : Nat} {tmps : Array Value} {assign body : Code} (hfn : ρ c = .func (.yield r) #[] #[]) (hv : l.map ρ = vs)
    (hy : (Instr.yield r vs.toArray).run P w = .ok (.round r fn tmps assign body) w') : (execOp ρ ⟨d, .call { callee := .value c, args := l.toArray, argTypes := ts }, ty, pos, aft, g⟩).run P w = .ok (.round r fn tmps assign body) w' := by
  subst hv
  simp only [execOp, resolve, hfn, Deferred.ofValue, Sem.run_bind, Sem.run_pure, Result.andThen_ok, invoke, List.map_toArray, Array.append_empty, Array.empty_append]
  simp only [Go.invoke, Array.append_empty]
  exact hy
theorem wpListIn_of {r m : Nat} {ops : Array Oper} {Q : Exit → Act → World → Prop} (hQ : ¬ LetsOut Q) : ∀ (l : List Oper) (a : Act) (w : World), (∀ o ∈ l, ∀ c, o.op ≠ .defer c) → wpList P ops Q l a w → wpListIn (Fence.wide.inRound r) m P ops Q l a w
  | [], a, w, _, h => h
  | o :: rest, a, w, hd, h => by
    have ih := fun a w => wpListIn_of (r := r) (m := m) (ops := ops) hQ rest a w (fun o' ho => hd o' (by simp [ho]))
    unfold wpList at h
    unfold wpListIn
    by_cases hw : Region.wanted o (yielded ops a.tmps) = true
    · rw [if_pos hw] at h ⊢
      rcases h with h | ⟨_, h⟩
      · refine ⟨fun _ _ => trivial, ?_⟩
        rw [Fence.inRound_round, Oper.semAt_some _ _ _ (hd o (by simp))]
        unfold Oper.wp at h
        revert h
        generalize (execOp a.eval o).run P w = x
        intro h
        cases x with
        | ok v w' =>
          cases v with
          | value v => exact ih _ _ h
          | skip => exact ih _ _ h
          | defer d => exact ih _ _ h
          | enter fn args =>
            refine ⟨by simp [Fence.wide], CallsIn.inRound r (callsIn_wide.2 (Calls.mono h fun e w'' hq => ?_))⟩
            cases e with
            | returned v => exact ih _ _ hq
            | panicked chain => exact hq
            | outgrown => exact hq
          | row row args =>
            refine ⟨by simp [Fence.wide], fun c cs _ => ?_⟩
            obtain ⟨v, w'', hq, hs⟩ := h c cs
            exact ⟨v, w'', ih _ _ hq, stepsIn_wide.2 hs⟩
          | _ => exact h.elim
        | halt x w' =>
          cases x with
          | panic v => exact h
          | _ => exact h.elim
      · exact absurd h hQ
    · rw [if_neg hw] at h ⊢
      exact ⟨fun _ _ => trivial, ih _ _ h⟩
theorem rep0 {l : List Value} (hle : l.length ≤ n) : Rep n (lk (args l 0) fun _ => undef) { tmps := l.toArray ++ Array.replicate (n - l.toArray.size) undef, defers := [] } := by
  refine ⟨by simp; omega, rfl, ?_⟩
  intro j
  have key : ∀ (l : List Value) (i j : Nat), lk ((List.range' i l.length).zip l) (fun _ => undef) j = if i ≤ j then l.getD (j - i) undef else undef := by
    intro l
    induction l with
    | nil => intro i j; simp [lk]
    | cons a l ih =>
      intro i j
      simp only [List.length_cons, List.range'_succ, List.zip_cons_cons, lk]
      rw [ih (i + 1) j]
      cases hb : Nat.beq j i with
      | true =>
        have := Nat.eq_of_beq_eq_true hb
        subst this
        simp
      | false =>
        have hne : j ≠ i := fun e => by subst e; rw [Nat.beq_refl] at hb; cases hb
        by_cases hij : i + 1 ≤ j
        · rw [if_pos hij, if_pos (by omega), show j - i = (j - (i + 1)) + 1 by omega]
          simp
        · rw [if_neg hij, if_neg (by omega)]
          rfl
  show (l.toArray ++ Array.replicate (n - l.toArray.size) undef).getD j undef = _
  unfold args
  rw [key l 0 j, if_pos (Nat.zero_le _), Nat.sub_zero, Array.getD_eq_getD_getElem?, Array.getElem?_append]
  by_cases hj : j < l.length
  · simp [hj, List.getD]
  · simp only [List.size_toArray, hj, if_false, List.getD, List.getElem?_eq_none (Nat.le_of_not_lt hj)]
    rw [Array.getElem?_replicate]
    split <;> rfl
def JX (P : Program) (n : Nat) (c : Code) (K : Exit → Act → World → Prop) (f : Fr) (w : World) : Prop := ∀ a, Rep n f a → c.wp P K a w
section
variable {c x y : Code} {K : Exit → Act → World → Prop}
theorem enterM {id : FuncId} {fn : Func} {l : List Value} {R : Ending → World → Prop} (hf : P.funcs[id]? = some fn) (hb : fn.body = some c) (hk : Nat.ble l.length fn.ntmps = true)
    (h : JX P fn.ntmps c (bodyPostM Fence.wide 1 P fn R) (lk (args l 0) fun _ => undef) w) : Calls P id l.toArray w R :=
  callsIn_wide.1 (callsIn_of_wp_marks hf hb trivial (wpIn_wide.2 (h _ (rep0 (Nat.le_of_ble_eq_true hk)))) rfl)
theorem JX.seq (hx : fitC n x = true) (h : J P n x (thn (JX P n y K) fun _ _ _ => False) f w) : JX P n (.seq x y) K f w := by
  intro a hr
  refine wp_seq (wp_mono (h hx a hr) ?_)
  rintro e a' w' ⟨f', hr', hq⟩
  cases e
  case normal => exact hq a' hr'
  all_goals exact hq.elim
theorem JX.seqX (h : JX P n x (fun e a w => e = .normal ∧ y.wp P K a w) f w) : JX P n (.seq x y) K f w := by
  intro a hr
  refine wp_seq (wp_mono (h a hr) ?_)
  rintro e a' w' ⟨rfl, hq⟩
  exact hq
theorem JX.block {id : Nat} (h : JX P n c (fun e a w => e = .normal ∧ K .normal a w) f w) : JX P n (.block id c) K f w := by
  intro a hr
  refine wp_block (wp_mono (h a hr) ?_)
  rintro e a' w' ⟨rfl, hq⟩
  exact hq
theorem JX.rangeF {o : Operand} {ps : Array Tmp} {assign body : Code} {gf : Nat} {cs : List Value} (hx : ev f o = .func (.func gf) #[] cs.toArray) (he : Ent P gf)
    (h : ∀ (fn : Nat) (a : Act), Rep n f a → ∀ rec : Loop, rec = { state := .ready, pending := none, fn, tmps := a.tmps, params := ps, assign, body, defers := w.heap.size } →
      Calls P gf (#[.func (.yield (w.heap.size + 1)) #[] #[]] ++ cs.toArray) ((w.alloc (.deferred (some []))).alloc (.loop rec)) fun e w3 => (∃ v, e = .returned v) ∧ w3.heap[w.heap.size + 1]? = some (.loop rec) ∧
        K .normal { a with defers := [{ target := .collected w.heap.size, args := #[] }] } (w3.putObj (w.heap.size + 1) (.loop { rec with state := .exhausted }))) :
    JX P n (.rangeFunc o ps assign body) K f w := by
  intro a hr
  refine wpIn_wide.1 (wpIn_rangeFunc (n := 1) ?_)
  intro fn _
  obtain ⟨rec, hrec⟩ : ∃ rec : Loop, rec = { state := .ready, pending := none, fn, tmps := a.tmps, params := ps, assign, body, defers := w.heap.size } := ⟨_, rfl⟩
  have h1 : (Instr.enterLoop fn a.tmps ps assign body Fence.wide.round).run P w = .ok (w.heap.size + 1, [{ target := .collected w.heap.size, args := #[] }]) ((w.alloc (.deferred (some []))).alloc (.loop rec)) := by
    rw [hrec, Fence.wide_round]
    exact run_enterLoop_outer _ _ _ _ _
  have h2 : ∀ W : World, (resolve a.eval (rangeCall o (w.heap.size + 1)) 0).run P W = .ok { target := .fn (.func gf) cs.toArray, args := #[.func (.yield (w.heap.size + 1)) #[] #[]] } W := fun W => by
    rw [hr.eval]
    simp only [resolve, hx]
    simp [go_sem, ev]
  have h3 : ∀ W : World, (Go.invoke (.fn (.func gf) cs.toArray) #[.func (.yield (w.heap.size + 1)) #[] #[]]).run P W = .ok (.enter gf (#[.func (.yield (w.heap.size + 1)) #[] #[]] ++ cs.toArray)) W := fun W => by
    simp only [Go.invoke, he.run]
  have h4 := h fn a hr rec hrec
  refine ⟨_, _, _, _, _, gf, _, _, h1, h2 _, fun _ _ => trivial, h3 _, fun h => by simp [Fence.wide] at h, callsIn_wide.2 (h4.mono ?_)⟩
  rintro e w3 ⟨⟨v, rfl⟩, hl, hk⟩
  have h5 := run_endLoop (P := P) hl (by rw [hrec]; simp)
  have h6 : rec.pending = none := by rw [hrec]
  refine ⟨none, w3.putObj (w.heap.size + 1) (.loop { rec with state := .exhausted }), h5.trans (congrArg (fun j => Result.ok j _) h6), ?_⟩
  show K .normal { tmps := a.tmps, defers := [{ target := .collected w.heap.size, args := #[] }] ++ a.defers } _
  rw [hr.defers]
  exact hk
theorem wpQuiet_dfr {C : World → Prop} {ops : Array Oper} {D : List Deferred} {Q : Act → Prop} : ∀ (l : List Oper) (a : Act), wpQuiet P ops C Q l a → wpQuiet P ops C (fun a' => ∃ a0, Q a0 ∧ a' = { a0 with defers := D }) l { a with defers := D }
  | [], a, h => ⟨a, h, rfl⟩
  | o :: rest, a, h => by
    have ev_ : Act.eval { a with defers := D } = a.eval := by
      funext x
      cases x <;> rfl
    have put_ : ∀ v, Act.put { a with defers := D } o.dst v = { a.put o.dst v with defers := D } := fun v => by
      cases o.dst <;> rfl
    unfold wpQuiet at h ⊢
    show if Region.wanted o (yielded ops a.tmps) then _ else _
    by_cases hw : Region.wanted o (yielded ops a.tmps) = true
    · rw [if_pos hw] at h ⊢
      obtain ⟨v, h1, h2⟩ := h
      refine ⟨v, fun w' hw' => ?_, ?_⟩
      · have := h1 w' hw'
        unfold Oper.quietAt at this ⊢
        rw [ev_]
        exact this
      · rw [put_]
        exact wpQuiet_dfr rest _ h2
    · rw [if_neg hw] at h ⊢
      rw [put_]
      exact wpQuiet_dfr rest _ h
theorem tailM {fn : Func} {R : Ending → World → Prop} {D id : Nat} {l : List Oper} {a : Act} (hr : Rep n f a) (hm : P.follows .mixedOrders = true) (hB : Region.lexB .any l.toArray = true) (hfit : l.all (fitO n) = true)
    (hD : w.heap[D]? = some (.deferred (some [])))
    (hq : Qt P n l (Ext w) (fun f' => ∀ w', Ext w w' → fin P fn.results R .ret f' (w'.putObj D (.deferred none))) l f) :
    (Code.seq (.region id l.toArray true) .ret).wp P (bodyPostM Fence.wide 1 P fn R) { a with defers := [{ target := .collected D, args := #[] }] } w := by
  refine wp_seq (wp_region_quiet (C := Ext w) hm hB (Ext.drew w) (wpQuiet_mono ?_ (wpQuiet_dfr l a (hq hfit a hr))))
  rintro a' ⟨a0, ⟨f', hr', hf⟩, rfl⟩ w' hw'
  refine wp_ret ?_
  obtain ⟨v, hv, hR⟩ := hf w' hw'
  have hD' : w'.heap[D]? = some (.deferred (some [])) := (hw'.block D (Array.getElem?_eq_some_iff.1 hD).1).trans hD
  refine ⟨by simp, .inl ⟨D, _, rfl, run_takeDeferred hD', ?_⟩⟩
  exact ⟨v, by rw [results_eq hr']; exact hv, hR⟩
end
def JI (r m : Nat) (P : Program) (n : Nat) (c : Code) (Q : Exit → Fr → World → Prop) (f : Fr) (w : World) : Prop :=
  fitC n c = true → ∀ a, Rep n f a → c.wpIn (Fence.wide.inRound r) m P (lft n Q) a w
section
variable {r : Nat} {c x y : Code}
theorem JI.seq (h : JI r m P n x (thn (JI r m P n y Q) Q) f w) : JI r m P n (.seq x y) Q f w := by
  intro hf a hr
  simp only [fitC, Bool.and_eq_true] at hf
  refine wpIn_seq (wpIn_mono (h hf.1 a hr) ?_)
  rintro e a' w' ⟨f', hr', hq⟩
  cases e
  case normal => exact hq hf.2 a' hr'
  all_goals exact ⟨f', hr', hq⟩
theorem JI.block {id : Nat} (h : JI r m P n c (fun e f w => e = .normal ∧ Q .normal f w) f w) : JI r m P n (.block id c) Q f w := by
  intro hf a hr
  simp only [fitC] at hf
  refine wpIn_block (wpIn_mono (h hf a hr) ?_)
  rintro e a' w' ⟨f', hr', rfl, hq⟩
  exact ⟨f', hr', hq⟩
def noDf (o : Oper) : Bool := match o.op with
  | .defer _ => false
  | _ => true
theorem JI.region {id : Nat} {l : List Oper} (hnd : l.all noDf = true) (hQ : ∀ f w, ¬ Q .outgrown f w) (h : L P n l Q l f w) : JI r m P n (.region id l.toArray false) Q f w := by
  intro hf a hr
  simp only [fitC] at hf
  refine wpIn_region_lit (wpListIn_of ?_ _ _ _ (fun o ho c e => ?_) (h hf a hr))
  · rintro ⟨a', w', f', _, hq⟩
    exact hQ f' w' hq
  · have := List.all_eq_true.1 hnd o ho
    unfold noDf at this
    rw [e] at this
    cases this
theorem round_of {assign body : Code} {a : Act} {fn : Nat} {R : Ending → World → Prop} (hr : Rep n f a) (hf1 : fitC n assign = true) (hf2 : fitC n body = true)
    (h : JI r m P n assign (fun e f' w' => e = .normal ∧ ∃ w2, (Instr.beginRound r).run P w' = .ok () w2 ∧ JI r m P n body (fun e f3 w3 => e = .normal ∧ ∃ v w4, (Instr.endRound r none).run P w3 = .ok v w4 ∧ R (.returned v) w4) f' w2) f w) :
    RoundIn Fence.wide m P r fn a.tmps assign body w R := by
  refine roundIn_of_wpIn trivial ?_
  have ha : ({ tmps := a.tmps, defers := [] } : Act) = a := by
    have := hr.defers
    cases a
    cases this
    rfl
  rw [ha]
  refine wpIn_mono (h hf1 a hr) ?_
  rintro e a' w' ⟨f', hr', rfl, w2, hb, hj⟩
  refine ⟨w2, hb, wpIn_mono (hj hf2 a' hr') ?_⟩
  rintro e a3 w3 ⟨f3, hr3, rfl, v, w4, he, hR⟩
  exact ⟨v, w4, he, hR⟩
end
end
end Go.Proofs.YtjdimgigbgafbaaDoor.H
namespace Go.Proofs.YtjdimgigbgafbaaDoor
set_option maxRecDepth 100000
open Go.RowKit H
open Byts Fram
set_option linter.unusedVariables false
structure Bo where
  A : Option Addr
  c : Nat
  l : List Int
def Bo.v (b : Bo) : Value := .slice b.A b.l.length b.c
theorem own_low {w : World} {base base' e sz n : Nat} {v : Value} {xs : List Value} (h : w.ownsRow base e sz v n xs) (hb : base' ≤ base) : w.ownsRow base' e sz v n xs := by
  refine ⟨h.1, ?_⟩
  rcases h.2 with h1 | ⟨b, cap, cur, h1, h2, h3⟩
  · exact .inl h1
  · exact .inr ⟨b, cap, cur, h1, Nat.le_trans hb h2, h3⟩
theorem frames_ (A : Option Addr) (n c : Nat) (y : Nat) (w : World) : Calls Tryd.prog 58 #[.slice A n c, .pointer (some ⟨y, 0, none⟩)] w fun e w' =>
    ∃ b1 b2, e = .returned (.func (.func 68) #[] #[.pointer (some ⟨b1, 0, none⟩), .pointer (some ⟨b2, 0, none⟩)]) ∧ w.heap.size ≤ b1 ∧ w.heap.size ≤ b2 ∧ Blk w' b1 39 #[.slice A n c] ∧ Blk w' b2 120 #[.pointer (some ⟨y, 0, none⟩)] ∧ Ext w w' := by
  refine enter Tryd.func58 rfl (by kernel_rfl) ?_
  refine J.seq ?_
  refine J.region ?_
  refine L.box rfl (by conv => lhs; whnf) ?_
  intro b1 w1 hb1 hs1 hk1 he1
  refine L.box rfl (by conv => lhs; whnf) ?_
  intro b2 w2 hb2 hs2 hk2 he2
  refine L.va rfl (X.assign (by conv => lhs; whnf)) ?_
  refine L.nil ?_
  refine J.seq ?_
  refine J.region ?_
  refine L.va rfl (X.makeFn rfl) ?_
  refine L.va rfl (X.assign (by conv => lhs; whnf)) ?_
  refine L.nil ?_
  refine J.ret ?_
  refine fin1 ?_
  exact ⟨b1, b2, rfl, by omega, by omega, hk1.ext he2, hk2, he1.trans he2⟩
theorem frames1 (l b1 b2 y : Nat) (A : Option Addr) (n c N : Nat) (zs : List Int) (w0 : World) (Inv : Nat → List Bo → World → Prop) (Fin : Nat → List Bo → Int → World → Prop)
    (ht : Tab w0) (hN : N = w0.heap.size) (hr : Reads w0 N 1 A n (nums .u8 zs)) (hz : ∀ z ∈ zs, 0 ≤ z ∧ z < 256) (hnc : n ≤ c) (hc0 : c ≤ 9223372036854775807)
    (hI : ∀ p bs W, Inv p bs W → Below N w0 W ∧ Blk W b1 39 #[.slice A n c] ∧ Blk W b2 120 #[.pointer (some ⟨y, 0, none⟩)] ∧ Blk W y 27 #[.int .i64 0])
    (hE : ∀ p bs W W', Inv p bs W → Ext W W' → Inv p bs W')
    (hY : ∀ p bs W b, Inv p bs W → W.ownsRow N 5 1 b.v b.l.length (nums .u8 b.l) → p < n → gE smZ (zs.drop p) = 0 → b.l = gB smZ (zs.drop p) →
      ∃ fn tmps assign body, (Instr.yield l #[.int .i64 ((p + gStep (zs.drop p) : Nat) : Int), b.v]).run Tryd.prog W = .ok (.round l fn tmps assign body) W ∧ RoundIn Fence.wide (1 - 1) Tryd.prog l fn tmps assign body W fun e W' => e = .returned (.bool true) ∧ Inv (p + gStep (zs.drop p)) (bs ++ [b]) W')
    (hS : ∀ p bs W W' e, Inv p bs W → Blk W' y 27 #[.int .i64 e] → W.grownBy W' (some y) → p < n → gE smZ (zs.drop p) = e → e ≠ 0 → Fin p bs e W')
    (hF : ∀ p bs W, Inv p bs W → n ≤ p → Fin p bs 0 W)
    (w : World) (h0 : Inv 0 [] w) :
    Calls Tryd.prog 68 #[.func (.yield l) #[] #[], .pointer (some ⟨b1, 0, none⟩), .pointer (some ⟨b2, 0, none⟩)] w fun e w' => e = .returned (.tuple #[]) ∧ ∃ p bs e', Fin p bs e' w' := by
  have hl : zs.length = n := by have := hr.1; simpa [nums] using this
  refine enter Tryd.func68 rfl (by kernel_rfl) ?_
  refine J.seq ?_
  refine J.region ?_
  refine L.va rfl (X.assign (by conv => lhs; whnf)) ?_
  refine L.nil ?_
  refine J.block ?_
  refine J.loop (X := Nat × List Bo) [4, 5, 6, 7, 8, 9, 10, 11, 12, 13, 14, 15, 16, 17, 18, 19, 20, 21, 22, 23, 24, 25, 26, 27, 28, 29, 30, 31, 32] (fun (p, bs) => [(4, .int .i64 (p : Int))]) (fun (p, bs) w' => p ≤ n ∧ Inv p bs w') (fun (p, _) => n - p) ((0, [])) (At1 (by first | rfl | exact at_int rfl (by omega) | exact at_slice rfl (by omega) | exact at_int rfl (by simp))) ?_ ?_
  · exact ⟨Nat.zero_le _, h0⟩
  · rintro ⟨p, bs⟩ g w2 ⟨hp, hI2⟩
    obtain ⟨hB2, k1, k2, ky⟩ := hI p bs w2 hI2
    refine J.seq ?_
    refine J.seq ?_
    refine J.region ?_
    refine L.va rfl (X.move (by conv => lhs; whnf)) ?_
    refine L.va rfl (X.load rfl sc_39 (by first | exact Ld.blk k1 rfl | exact Ld.blk k2 rfl)) ?_
    refine L.va rfl (X.len rfl Tryd.underlying39) ?_
    refine L.va rfl (X.lss rfl rfl) ?_
    refine L.nil ?_
    refine J.dec rfl (fun hlt => ?_) (fun hlt => ?_)
    · have hlt : p < n := by omega
      have hr2 := hr.below hB2
      have ht2 := ht.below hB2 (by omega)
      have hsz := hB2.size
      have hr3 := part_nums hr2 (i := p) (j := n) (by omega) (Nat.le_refl _) hnc
      rw [List.take_of_length_le (by rw [List.length_drop]; omega)] at hr3
      refine J.skip ?_
      refine J.block ?_
      refine J.seq ?_
      refine J.region ?_
      refine L.va rfl (X.load rfl sc_39 (by first | exact Ld.blk k1 rfl | exact Ld.blk k2 rfl)) ?_
      refine L.va rfl (X.move (by conv => lhs; whnf)) ?_
      refine L.va rfl ((by first | exact X.sliceFromn rfl rfl Tryd.underlying39 sz_5 (by omega) | exact X.sliceFrom rfl rfl Tryd.underlying39 sz_5 (by omega))) ?_
      refine L.call rfl en_69 rfl (fgetO_any _ (n - p) (c - p) (zs.drop p) w2 ht2 (hr3.more (by omega)) (fun z h ↦ hz z (List.mem_of_mem_drop h)) (by omega) (by omega)) ?_
      rintro e w4 ⟨A4, c4, rfl, ho4, hb4⟩
      refine ⟨_, rfl, ?_⟩
      have hI4 := hE p bs w2 w4 hI2 hb4
      obtain ⟨hB4, k41, k42, ky4⟩ := hI p bs w4 hI4
      refine L.va rfl (X.move (by conv => lhs; whnf)) ?_
      refine L.va rfl (X.extract rfl rfl) ?_
      refine L.va rfl (X.extract rfl rfl) ?_
      refine L.va rfl (X.extract rfl rfl) ?_
      refine L.va rfl (X.assign (by conv => lhs; whnf)) ?_
      refine L.va rfl (X.assign (by conv => lhs; whnf)) ?_
      refine L.va rfl (X.assign (by conv => lhs; whnf)) ?_
      refine L.nil ?_
      refine J.seq ?_
      refine J.seq ?_
      refine J.region ?_
      refine L.va rfl (X.move (by conv => lhs; whnf)) ?_
      refine L.va rfl (X.neq rfl rfl) ?_
      refine L.nil ?_
      refine J.ndec rfl (fun hbad => ?_) (fun hbad => ?_)
      · skip
        refine J.seq ?_
        refine J.region ?_
        refine L.va rfl (X.load rfl sc_120 (by first | exact Ld.blk k41 rfl | exact Ld.blk k42 rfl | exact Ld.blk ky4 rfl)) ?_
        refine L.va rfl (X.move (by conv => lhs; whnf)) ?_
        refine L.va rfl (X.nilCheck rfl) ?_
        refine L.store rfl rfl (by conv => lhs; whnf) rfl sz_27 (ky4) (by first | decide | exact Nat.le_of_ble_eq_true rfl) ?_
        intro w5 hk5 hg5 hs5
        refine L.nil ?_
        refine J.ret ?_
        refine thn_ret <|  inB_ret <|  thn_ret <|  inB_ret <| ?_
        refine fin0 (.inl rfl) ?_
        exact ⟨rfl, p, bs, _, hS p bs w4 w5 _ hI4 hk5 hg5 hlt rfl hbad⟩
      · have hok : gE smZ (zs.drop p) = 0 := hbad
        obtain ⟨h8, hle, hst⟩ := gN_ok (fun z h => hz z (List.mem_of_mem_drop h)) hok
        rw [List.length_drop] at hle
        rw [← hst]
        obtain ⟨fn, tmps, asn, bdy, hy, hR⟩ := hY p bs w4 ⟨A4, c4, gB smZ (zs.drop p)⟩ hI4 (own_low ho4 (by omega)) hlt hok rfl
        refine J.skip ?_
        refine J.seq ?_
        refine J.region ?_
        refine L.va rfl (X.move (by conv => lhs; whnf)) ?_
        refine L.va rfl (X.move (by conv => lhs; whnf)) ?_
        refine L.va rfl (X.add rfl rfl (by omega)) ?_
        refine L.va rfl (X.assign (by conv => lhs; whnf)) ?_
        refine L.nil ?_
        refine J.seq ?_
        refine J.listIn (m := 1) ?_
        refine LI.va rfl (X.move (by conv => lhs; whnf)) ?_
        refine LI.va rfl (X.move (by conv => lhs; whnf)) ?_
        refine LI.va rfl (X.move (by conv => lhs; whnf)) ?_
        refine LI.yield rfl (X.yield rfl rfl (hy)) (hR) ?_
        rintro e w5 ⟨rfl, hI5⟩
        refine ⟨_, rfl, ?_⟩
        refine LI.va rfl (X.not rfl) ?_
        refine LI.nil ?_
        refine J.iteF rfl ?_
        refine J.skip ?_
        refine ⟨(p + gStep (zs.drop p), bs ++ [⟨A4, c4, gB smZ (zs.drop p)⟩]), At1 (by first | rfl | exact at_int rfl (by omega) | exact at_slice rfl (by omega) | exact at_int rfl (by simp)), (by (iterate 26 refine Agr.lk rfl ?_); exact Agr.lk rfl (Agr.hav rfl Agr.rfl')), ?_⟩
        exact ⟨⟨by omega, hI5⟩, by show n - (p + gStep (zs.drop p)) < n - p; omega⟩
    · refine J.exit ?_
      refine thn_exit <| thn_exit <| inB_eq ?_
      refine fin0 (.inr rfl) ?_
      exact ⟨rfl, p, bs, 0, hF p bs w2 hI2 (by omega)⟩
end Go.Proofs.YtjdimgigbgafbaaDoor
namespace Go.Proofs.YtjdimgigbgafbaaDoor
set_option maxRecDepth 100000
open Go.RowKit H
open Byts Fram
set_option linter.unusedVariables false
structure FrJ (N M l D b1 b2 y : Nat) (A : Option Addr) (n c : Nat) (rec : Loop) (w0 : World) (er : Int) (bs : List Bo) (W : World) : Prop where
  bel : Below N w0 W
  lp : W.heap[l]? = some (.loop rec)
  df : W.heap[D]? = some (.deferred (some []))
  k1 : Blk W b1 39 #[.slice A n c]
  k2 : Blk W b2 120 #[.pointer (some ⟨y, 0, none⟩)]
  ky : Blk W y 27 #[.int .i64 er]
  el : ∀ b ∈ bs, W.ownsRow N 5 1 b.v b.l.length (nums .u8 b.l)
  lt : b1 < M
theorem blk_put {W : World} {b l t : Nat} {cs : Array Value} {o : Loop} (h : Blk W b t cs) (hl : W.heap[l]? = some (.loop o)) (o' : Obj) : Blk (W.putObj l o') b t cs := by
  have hne : b ≠ l := fun e => by
    subst e
    have h2 : W.heap[b]? = some (.cells cs t (0, 0)) := h
    rw [hl] at h2
    cases h2
  exact (World.putObj_heap_other hne).trans h
theorem blk_one {W : World} {g t t' : Nat} {cs cs' : Array Value} (h : Blk W g t cs) (h' : Blk W g t' cs') : t = t' := by
  have h1 : W.heap[g]? = some (.cells cs t (0, 0)) := h
  have h2 : W.heap[g]? = some (.cells cs' t' (0, 0)) := h'
  rw [h1] at h2
  injection h2 with h2
  injection h2
theorem own_blk {w : World} {base e size n : Nat} {v : Value} {xs : List Value} (h : w.ownsRow base e size v n xs) {g : Nat} (hg : v.ownBlock = some g) : (∃ cs, Blk w g e cs) ∧ base ≤ g := by
  rcases h.2 with ⟨rfl, _⟩ | ⟨b, cap, cur, rfl, hb, hh, _⟩
  · cases hg
  · obtain rfl : b = g := by injection hg
    exact ⟨⟨cur, hh⟩, hb⟩
section
variable {N M l D b1 b2 y : Nat} {A : Option Addr} {n c : Nat} {rec : Loop} {w0 : World} {er : Int} {bs : List Bo} {W W' : World} {S : Nat → Prop}
theorem FrJ.chg (h : FrJ N M l D b1 b2 y A n c rec w0 er bs W) (hC : Chg S W W') (hN : N ≤ W.heap.size) (h1 : ∀ g, S g → N ≤ g)
    (h2 : ∀ g, S g → ∃ t cs, Blk W g t cs ∧ t ≠ 5 ∧ t ≠ 120 ∧ t ≠ 27 ∧ g ≠ b1) : FrJ N M l D b1 b2 y A n c rec w0 er bs W' := by
  have nl : ∀ g (o : Obj), W.heap[g]? = some o → (∀ cs t, o ≠ .cells cs t (0, 0)) → W'.heap[g]? = some o := fun g o hg ho => by
    refine (hC.block g (Array.getElem?_eq_some_iff.1 hg).1 fun hS => ?_).trans hg
    obtain ⟨t, cs, hb, _⟩ := h2 g hS
    have hb : W.heap[g]? = some (.cells cs t (0, 0)) := hb
    rw [hg] at hb
    exact ho cs t (Option.some.inj hb)
  refine ⟨h.bel.trans (hC.below hN h1), nl _ _ h.lp (fun _ _ e => by cases e), nl _ _ h.df (fun _ _ e => by cases e), hC.blk h.k1 fun hS => ?_, hC.blk h.k2 fun hS => ?_, hC.blk h.ky fun hS => ?_, fun b hb => hC.own (h.el b hb) fun g hg hS => ?_, h.lt⟩
  · obtain ⟨t, cs, _, _, _, _, hne⟩ := h2 _ hS
    exact hne rfl
  · obtain ⟨t, cs, hb, _, hne, _⟩ := h2 _ hS
    exact hne (blk_one hb h.k2)
  · obtain ⟨t, cs, hb, _, _, hne, _⟩ := h2 _ hS
    exact hne (blk_one hb h.ky)
  · obtain ⟨t, cs, hb', hne, _⟩ := h2 _ hS
    obtain ⟨⟨cs', h5⟩, _⟩ := own_blk (h.el b hb) hg
    exact hne (blk_one hb' h5)
theorem FrJ.ext (h : FrJ N M l D b1 b2 y A n c rec w0 er bs W) (he : Ext W W') (hN : N ≤ W.heap.size) : FrJ N M l D b1 b2 y A n c rec w0 er bs W' :=
  h.chg (S := fun _ => False) (Chg.of_ext he) hN (fun _ h => h.elim) (fun _ h => h.elim)
theorem FrJ.put (h : FrJ N M l D b1 b2 y A n c rec w0 er bs W) (hN : N ≤ l) (hD : D ≠ l) (rec' : Loop) : FrJ N M l D b1 b2 y A n c rec' w0 er bs (W.putObj l (.loop rec')) := by
  have hlt := (Array.getElem?_eq_some_iff.1 h.lp).1
  refine ⟨?_, World.putObj_heap_same hlt, (World.putObj_heap_other hD).trans h.df, blk_put h.k1 h.lp _, blk_put h.k2 h.lp _, blk_put h.ky h.lp _, fun b hb => ownsRow_putObj (h.el b hb) _ h.lp rfl, h.lt⟩
  exact h.bel.trans (Chg.below (S := fun g => g = l) (Chg.of_grown (grownBy_putObj' W l _) fun g e => by injection e with e; exact e.symm) (by omega) (fun g e => by omega))
theorem FrJ.snoc (h : FrJ N M l D b1 b2 y A n c rec w0 er bs W) {b : Bo} (hb : W.ownsRow N 5 1 b.v b.l.length (nums .u8 b.l)) : FrJ N M l D b1 b2 y A n c rec w0 er (bs ++ [b]) W :=
  ⟨h.bel, h.lp, h.df, h.k1, h.k2, h.ky, fun b' hb' => by
    rcases List.mem_append.1 hb' with h1 | h1
    · exact h.el b' h1
    · rw [List.mem_singleton] at h1
      rw [h1]
      exact hb, h.lt⟩
structure FrK (M bo bu p : Nat) (bs : List Bo) (W : World) : Prop where
  ku : Blk W bu 3 #[.int .i64 (p : Int)]
  ro : ∃ Ao co, Blk W bo 30 #[.slice Ao bs.length co] ∧ W.ownsRow M 39 1 (.slice Ao bs.length co) bs.length (bs.map Bo.v)
theorem FrK.chg {bo bu p : Nat} (h : FrK M bo bu p bs W) (hC : Chg S W W') (h2 : ∀ g, S g → ∀ t cs, Blk W g t cs → t ≠ 3 ∧ t ≠ 30 ∧ t ≠ 39) : FrK M bo bu p bs W' := by
  obtain ⟨Ao, co, r1, r2⟩ := h.ro
  refine ⟨hC.blk h.ku fun hS => (h2 _ hS _ _ h.ku).1 rfl, Ao, co, hC.blk r1 fun hS => (h2 _ hS _ _ r1).2.1 rfl, hC.own r2 fun g hg hS => ?_⟩
  obtain ⟨⟨cs, h5⟩, _⟩ := own_blk r2 hg
  exact (h2 _ hS _ _ h5).2.2 rfl
theorem FrK.ext {bo bu p : Nat} (h : FrK M bo bu p bs W) (he : Ext W W') : FrK M bo bu p bs W' := h.chg (S := fun _ => False) (Chg.of_ext he) (fun _ h => h.elim)
theorem FrK.put {bo bu p : Nat} (h : FrK M bo bu p bs W) (hl : W.heap[l]? = some (.loop rec)) (rec' : Loop) : FrK M bo bu p bs (W.putObj l (.loop rec')) := by
  obtain ⟨Ao, co, r1, r2⟩ := h.ro
  exact ⟨blk_put h.ku hl _, Ao, co, blk_put r1 hl _, ownsRow_putObj r2 _ hl rfl⟩
end
theorem fold2 (T : Array Value) (v u : Value) : ((#[12, 13] : Array Tmp).zip #[v, u]).foldl (fun tmps (t, a) => tmps.setIfInBounds t a) T = (T.setIfInBounds 12 v).setIfInBounds 13 u := by
  simp
theorem fall (A : Option Addr) (n c : Nat) (zs : List Int) (w : World) (ht : Tab w) (hr : Reads w w.heap.size 1 A n (nums .u8 zs)) (hz : ∀ z ∈ zs, 0 ≤ z ∧ z < 256) (hnc : n ≤ c) (hc0 : c ≤ 9223372036854775807) (hn : n ≤ 1000000) :
    Calls Tryd.prog 39 #[.slice A n c] w fun e w' => ∃ Ao co bs p er, e = .returned (.tuple #[.slice Ao (bs : List Bo).length co, .int .i64 ((p : Nat) : Int), .int .i64 er]) ∧ allF zs 0 = (bs.map Bo.l, p, er) ∧
      w'.ownsRow w.heap.size 39 1 (.slice Ao bs.length co) bs.length (bs.map Bo.v) ∧ (∀ b ∈ bs, w'.ownsRow w.heap.size 5 1 b.v b.l.length (nums .u8 b.l)) ∧ Below w.heap.size w w' := by
  have hl : zs.length = n := by have := hr.1; simpa [nums] using this
  refine enterM Tryd.func39 rfl (by kernel_rfl) ?_
  refine JX.seq rfl ?_
  refine J.region ?_
  refine L.va rfl (X.assign (by conv => lhs; whnf)) ?_
  refine L.va rfl (X.assign (by conv => lhs; whnf)) ?_
  refine L.va rfl (X.assign (by conv => lhs; whnf)) ?_
  refine L.nil ?_
  refine JX.seq rfl ?_
  refine J.region ?_
  refine L.alloc rfl zr_30 ?_
  intro bo w1 hbo hs1 kbo1 he1
  refine L.nil ?_
  refine JX.seq rfl ?_
  refine J.region ?_
  refine L.alloc rfl zr_3 ?_
  intro bu w2 hbu hs2 kbu2 he2
  refine L.alloc rfl zr_27 ?_
  intro y w3 hy hs3 ky3 he3
  have kbu3 := kbu2.ext he3
  refine L.store rfl rfl (by conv => lhs; whnf) rfl sz_3 (kbu3) (by first | decide | exact Nat.le_of_ble_eq_true rfl) ?_
  intro w4 kbu4 hg4 hs4
  have ky4 : Blk w4 y 27 #[.int .i64 0] := ky3.grown hg4 (by intro e; injection e with e; omega)
  refine L.store rfl rfl (by conv => lhs; whnf) rfl sz_27 (ky4) (by first | decide | exact Nat.le_of_ble_eq_true rfl) ?_
  intro w5 ky5 hg5 hs5
  refine L.nil ?_
  refine JX.seqX ?_
  refine JX.seq rfl ?_
  refine J.region ?_
  refine L.va rfl (X.move (by conv => lhs; whnf)) ?_
  refine L.call rfl en_58 rfl (frames_ A n c y w5) ?_
  rintro e w6 ⟨b1, b2, rfl, hb1, hb2, k1, k2, he6⟩
  refine ⟨_, rfl, ?_⟩
  refine L.nil ?_
  refine JX.block ?_
  refine JX.rangeF (cs := [.pointer (some ⟨b1, 0, none⟩), .pointer (some ⟨b2, 0, none⟩)]) rfl en_68 ?_
  intro fn a hra rec hrec
  have he03 : Ext w w3 := (he1.trans he2).trans he3
  have he04 : Ext w w4 := he03.grw hg4 (by intro g e; injection e with e; omega)
  have he05 : Ext w w5 := he04.grw hg5 (by intro g e; injection e with e; omega)
  have he06 : Ext w w6 := he05.trans he6
  have kbo5 : Blk w5 bo 30 #[.slice none 0 0] := ((kbo1.ext (he2.trans he3)).grown hg4 (by intro e; injection e with e; omega)).grown hg5 (by intro e; injection e with e; omega)
  have kbu5 : Blk w5 bu 3 #[.int .i64 0] := kbu4.grown hg5 (by intro e; injection e with e; omega)
  have z6 := he06.le
  obtain ⟨W1, hW1⟩ : ∃ W1, (w6.alloc (.deferred (some []))).alloc (.loop rec) = W1 := ⟨_, rfl⟩
  rw [hW1]
  have zW : W1.heap.size = w6.heap.size + 2 := by rw [← hW1]; simp
  have he7 : Ext w6 W1 := by rw [← hW1]; exact ((Below.refl _ w6).alloc (Nat.le_refl _) _).alloc (by simp) _
  have hL1 : W1.heap[w6.heap.size + 1]? = some (.loop rec) := by
    rw [← hW1]; have := World.alloc_heap_new (w6.alloc (.deferred (some []))) (.loop rec); rwa [World.size_alloc] at this
  have hK1 : W1.heap[w6.heap.size]? = some (.deferred (some [])) := by
    rw [← hW1]; exact (Below.heap_alloc _ _ _ (by simp)).trans (World.alloc_heap_new w6 _)
  have J0 : FrJ w.heap.size (w6.heap.size + 2) (w6.heap.size + 1) w6.heap.size b1 b2 y A n c rec w 0 [] W1 :=
    ⟨he06.trans he7, hL1, hK1, k1.ext he7, k2.ext he7, (ky5.ext he6).ext he7, fun b hb => by (cases hb), by have := k1.lt; omega⟩
  have K0 : FrK (w6.heap.size + 2) bo bu 0 [] W1 := ⟨(kbu5.ext he6).ext he7, none, 0, (kbo5.ext he6).ext he7, own_nil _ _ _ _⟩
  refine (frames1 (w6.heap.size + 1) b1 b2 y A n c w.heap.size zs w
    (fun p bs W => AllSt zs p (bs.map Bo.l) ∧ w6.heap.size + 2 ≤ W.heap.size ∧ FrJ w.heap.size (w6.heap.size + 2) (w6.heap.size + 1) w6.heap.size b1 b2 y A n c rec w 0 bs W ∧ FrK (w6.heap.size + 2) bo bu p bs W)
    (fun p bs e W => allF zs 0 = (bs.map Bo.l, p, e) ∧ FrJ w.heap.size (w6.heap.size + 2) (w6.heap.size + 1) w6.heap.size b1 b2 y A n c rec w e bs W ∧ FrK (w6.heap.size + 2) bo bu p bs W)
    ht rfl hr hz hnc hc0 (fun p bs W h => ⟨h.2.2.1.bel, h.2.2.1.k1, h.2.2.1.k2, h.2.2.1.ky⟩)
    (fun p bs W W' h he => ⟨h.1, Nat.le_trans h.2.1 he.le, h.2.2.1.ext he (by have := h.2.1; omega), h.2.2.2.ext he⟩) ?_ ?_
    (fun p bs W h hp => ⟨h.1.done (by omega), h.2.2⟩) W1 ⟨AllSt.start zs, by omega, J0, K0⟩).mono ?_
  · rintro p bs W b ⟨st, hsz, hJ, hK⟩ hb hp hge hbl
    have hrun := run_yield (P := Tryd.prog) (args := #[.int .i64 ((p + gStep (zs.drop p) : Nat) : Int), b.v]) hJ.lp (by rw [hrec]; rfl)
    refine ⟨rec.fn, _, rec.assign, rec.body, hrun, ?_⟩
    have hT : (rec.params.zip #[.int .i64 ((p + gStep (zs.drop p) : Nat) : Int), b.v]).foldl (fun tmps (t, a) => tmps.setIfInBounds t a) rec.tmps = ((a.put (some 12) (.int .i64 ((p + gStep (zs.drop p) : Nat) : Int))).put (some 13) b.v).tmps := by
      have hpar : rec.params = #[12, 13] := congrArg Loop.params hrec
      have htmp : rec.tmps = a.tmps := congrArg Loop.tmps hrec
      rw [hpar, htmp]
      exact fold2 _ _ _
    have hasn := congrArg Loop.assign hrec
    have hbdy := congrArg Loop.body hrec
    dsimp only at hasn hbdy
    rw [hT, hasn, hbdy]
    refine round_of ((hra.put (d := some 12) _ rfl).put (d := some 13) _ rfl) (by kernel_rfl) (by kernel_rfl) ?_
    refine JI.seq ?_
    refine JI.region (by rfl) (by intro _ _ h; cases (And.left h)) ?_
    refine L.va rfl (X.assign (by conv => lhs; whnf)) ?_
    refine L.nil ?_
    refine JI.region (by rfl) (by intro _ _ h; cases (And.left h)) ?_
    refine L.va rfl (X.assign (by conv => lhs; whnf)) ?_
    refine L.nil ?_
    refine ⟨rfl, _, run_beginRound hJ.lp (by rw [hrec]), ?_⟩
    have hN6 : w.heap.size ≤ w6.heap.size + 1 := by omega
    have J2 := hJ.put hN6 (by omega) { rec with state := .busy }
    have K2 := hK.put hJ.lp { rec with state := .busy }
    have hb2 : (W.putObj (w6.heap.size + 1) (.loop { rec with state := .busy })).ownsRow w.heap.size 5 1 b.v b.l.length (nums .u8 b.l) := ownsRow_putObj hb _ hJ.lp rfl
    have hz2 : w6.heap.size + 2 ≤ (W.putObj (w6.heap.size + 1) (.loop { rec with state := .busy })).heap.size := by simp; exact hsz
    generalize W.putObj (w6.heap.size + 1) (.loop { rec with state := .busy }) = W2 at J2 K2 hb2 hz2 ⊢
    have J2 := J2.snoc hb2
    obtain ⟨Ao, co, r1, r2⟩ := K2.ro
    have ku2 := K2.ku
    refine JI.block ?_
    refine JI.seq ?_
    refine JI.region (by rfl) (by intro _ _ h; cases (And.left h)) ?_
    refine L.va rfl (X.load rfl sc_30 (by first | exact Ld.blk r1 rfl)) ?_
    refine L.va rfl (X.move (by conv => lhs; whnf)) ?_
    refine L.bslice (vs := [_]) rfl (Evs.cons (by conv => lhs; whnf) Evs.nil) rfl rfl rfl rfl Tryd.underlying30 sz_39 zr_39 (by decide) ?_
    intro b6 W3 hb6 hs6 kb6 he6'
    have ho3 := r2.ext he6'
    have few := st.few
    have stl := st.le
    rw [List.length_map] at few
    refine L.appendV (q := bs.length + 1) (ys := bs.map Bo.v ++ [b.v]) rfl rfl rfl Tryd.underlying30 el_39 (ho3) ((blk_reads (q := 1) (l := [b.v]) kb6 kb6.lt rfl)) (by first | rfl | exact strs_ones _ | assumption) (by omega) (by simp) (by unfold maxLen; omega) (by omega) ?_
    intro A7 c7 W4 ho7 hg7 hb7 hor7
    have r3 := r1.ext he6'
    have ku3 := ku2.ext he6'
    have nb : ∀ {g : Nat} {t : Nat} {cs : Array Value}, Blk W3 g t cs → t ≠ 39 → some g ≠ Value.ownBlock (.slice Ao bs.length co) := fun hk ht e => by
      obtain ⟨⟨cs', h5⟩, _⟩ := own_blk ho3 e.symm
      exact ht (blk_one hk h5)
    have r4 := r3.grown hg7 (nb r3 (by decide))
    have ku4 := ku3.grown hg7 (nb ku3 (by decide))
    have hne : bo ≠ bu := by omega
    refine L.store rfl rfl (by conv => lhs; whnf) rfl sz_30 (r4) (by first | decide | exact Nat.le_of_ble_eq_true rfl) ?_
    intro W5 r5 hg8 hs8
    have ku5 := ku4.grown hg8 (by intro e; injection e with e; exact hne e.symm)
    refine L.nil ?_
    refine JI.region (by rfl) (by intro _ _ h; cases (And.left h)) ?_
    refine L.va rfl (X.move (by conv => lhs; whnf)) ?_
    refine L.store rfl rfl (by conv => lhs; whnf) rfl sz_3 (ku5) (by first | decide | exact Nat.le_of_ble_eq_true rfl) ?_
    intro W6 ku6 hg9 hs9
    have r6 := r5.grown hg9 (by intro e; injection e with e; exact hne e)
    refine L.nil ?_
    have hC : Chg (fun g => g = bo ∨ g = bu ∨ Value.ownBlock (.slice Ao bs.length co) = some g) W3 W6 :=
      ((Chg.of_grown hg7 fun g e => .inr (.inr e)).trans (Chg.of_grown hg8 fun g e => .inl (by injection e with e; exact e.symm)) (fun _ _ h => h)).trans (Chg.of_grown hg9 fun g e => .inr (.inl (by injection e with e; exact e.symm))) (fun _ _ h => h)
    have hC2 : Chg (fun g => g = bo ∨ g = bu) W4 W6 :=
      (Chg.of_grown hg8 fun g e => .inl (by injection e with e; exact e.symm)).trans (Chg.of_grown hg9 fun g e => .inr (by injection e with e; exact e.symm)) (fun _ _ h => h)
    have zW3 := he6'.le
    have zC := hC.size
    have J6 := (J2.ext he6' (by omega)).chg hC (by omega) (fun g hS => by
      rcases hS with rfl | rfl | e
      · omega
      · omega
      · have := (own_blk ho3 e).2
        omega) (fun g hS => by
      rcases hS with rfl | rfl | e
      · exact ⟨_, _, r3, by decide, by decide, by decide, by omega⟩
      · exact ⟨_, _, ku3, by decide, by decide, by decide, by omega⟩
      · obtain ⟨⟨cs', h5⟩, hM⟩ := own_blk ho3 e
        have := J2.lt
        exact ⟨_, _, h5, by decide, by decide, by decide, by omega⟩)
    have ho6 := hC2.own ho7 (fun g hg hS => by
      obtain ⟨⟨cs', h5⟩, _⟩ := own_blk ho7 hg
      rcases hS with rfl | rfl
      · exact absurd (blk_one h5 r4) (by decide)
      · exact absurd (blk_one h5 ku4) (by decide))
    have hend : (Instr.endRound (w6.heap.size + 1) none).run Tryd.prog W6 = .ok (.bool true) (W6.putObj (w6.heap.size + 1) (.loop rec)) := by
      have := run_endRound (P := Tryd.prog) none J6.lp
      rw [this, hrec]
      rfl
    have K6 : FrK (w6.heap.size + 2) bo bu (p + gStep (zs.drop p)) (bs ++ [b]) W6 := ⟨ku6, A7, c7, by rw [List.length_append]; exact r6, by rw [List.length_append, List.map_append]; exact ho6⟩
    have st6 := st.next hz (by omega) hge
    refine ⟨rfl, rfl, _, _, hend, rfl, ?_, by simp; omega, J6.put hN6 (by omega) rec, K6.put J6.lp rec⟩
    rw [List.map_append, List.map_cons, List.map_nil, hbl]
    exact st6
  · rintro p bs W W' er ⟨st, hsz, hJ, hK⟩ hy' hg hp hge he0
    have hC : Chg (fun g => g = y) W W' := Chg.of_grown hg fun g e => by injection e with e; exact e.symm
    have hky := hJ.ky
    refine ⟨by have := st.bad (by omega) (by rw [hge]; exact he0); rwa [hge] at this, ⟨hJ.bel.trans (hC.below (by omega) (fun g e => by rw [e, hy]; omega)), ?_, ?_, hC.blk hJ.k1 fun e => ?_, hC.blk hJ.k2 fun e => ?_, hy', fun b hb => hC.own (hJ.el b hb) fun g hg' e => ?_, hJ.lt⟩, hK.chg hC fun g e t cs hb => ?_⟩
    · refine (hC.block _ (Array.getElem?_eq_some_iff.1 hJ.lp).1 fun e => ?_).trans hJ.lp
      have h2 : W.heap[y]? = some (.cells #[.int .i64 0] 27 (0, 0)) := hky
      rw [← e, hJ.lp] at h2
      cases h2
    · refine (hC.block _ (Array.getElem?_eq_some_iff.1 hJ.df).1 fun e => ?_).trans hJ.df
      have h2 : W.heap[y]? = some (.cells #[.int .i64 0] 27 (0, 0)) := hky
      rw [← e, hJ.df] at h2
      cases h2
    · have := blk_one hJ.k1 (by rw [e]; exact hky)
      exact absurd this (by decide)
    · have := blk_one hJ.k2 (by rw [e]; exact hky)
      exact absurd this (by decide)
    · obtain ⟨⟨cs, h5⟩, _⟩ := own_blk (hJ.el b hb) hg'
      rw [e] at h5
      exact absurd (blk_one h5 hky) (by decide)
    · rw [e] at hb
      have := blk_one hb hky
      subst this
      exact ⟨by decide, by decide, by decide⟩
  · rintro e w3' ⟨rfl, p, bs, er, hfin, hJ, hK⟩
    refine ⟨⟨_, rfl⟩, hJ.lp, rfl, rfl, ?_⟩
    have hN6 : w.heap.size ≤ w6.heap.size + 1 := by omega
    have J2 := hJ.put hN6 (by omega) { rec with state := .exhausted }
    have K2 := hK.put hJ.lp { rec with state := .exhausted }
    generalize w3'.putObj (w6.heap.size + 1) (.loop { rec with state := .exhausted }) = W2 at J2 K2 ⊢
    obtain ⟨Ao, co, r1, r2⟩ := K2.ro
    refine tailM hra (by kernel_rfl) (by kernel_rfl) rfl J2.df ?_
    refine Qt.va rfl (fun w' hw => X.load rfl sc_30 (Ld.blk (r1.ext hw) rfl)) ?_
    refine Qt.va rfl (fun w' hw => X.load rfl sc_3 (Ld.blk (K2.ku.ext hw) rfl)) ?_
    refine Qt.va rfl (fun w' hw => X.load rfl sc_27 (Ld.blk (J2.ky.ext hw) rfl)) ?_
    refine Qt.va rfl (fun w' hw => X.assign (by conv => lhs; whnf)) ?_
    refine Qt.va rfl (fun w' hw => X.assign (by conv => lhs; whnf)) ?_
    refine Qt.va rfl (fun w' hw => X.assign (by conv => lhs; whnf)) ?_
    refine Qt.nil ?_
    intro w' hw
    refine fin3 ?_
    have hD' : w'.heap[w6.heap.size]? = some (.deferred (some [])) := (hw.block _ (Array.getElem?_eq_some_iff.1 J2.df).1).trans J2.df
    refine ⟨Ao, co, bs, p, er, rfl, hfin, own_low (ownsRow_putObj (r2.ext hw) _ hD' rfl) (by omega), fun b hb => ownsRow_putObj ((J2.el b hb).ext hw) _ hD' rfl, ?_⟩
    have hC : Chg (fun g => g = w6.heap.size) w' (w'.putObj w6.heap.size (.deferred none)) := Chg.of_grown (grownBy_putObj' w' _ _) fun g e => by injection e with e; exact e.symm
    have zz := J2.bel.size
    exact (J2.bel.trans (Below.mono hw (by omega))).trans (hC.below (by have := hw.le; omega) (fun g e => by omega))
end Go.Proofs.YtjdimgigbgafbaaDoor
namespace Go.Proofs.YtjdimgigbgafbaaDoor
set_option maxRecDepth 100000
open Go.RowKit H
open Lo Byts Seal Fram
set_option linter.unusedVariables false
def stO (fr ct : Nat) (ep : Int) (o : Lo.Os) : Ls := ⟨fr, ct, ep, o.nx, o.sm, o.tm, 0⟩
theorem opI_succ (s : Ds) (fr : Nat) (ep : Int) (i : Nat) : opI s fr ep (i + 1) = opStep ep i (s.now (fr + i)) (opI s fr ep i) := rfl
structure New (G : Lg) (n : Nat) : Prop where
  p : n ≤ G.p
  s : ∀ g, G.ss.ownBlock = some g → n ≤ g
  t : ∀ g, G.ts.ownBlock = some g → n ≤ g
theorem New.gr {G G' : Lg} {n m : Nat} (h : New G n) (g : Lg.Gr G G' m) (hm : n ≤ m) : New G' n :=
  ⟨by rw [g.p]; exact h.p, fun b hb => (g.s b hb).elim (h.s b) (fun e => by omega), fun b hb => (g.t b hb).elim (h.t b) (fun e => by omega)⟩
theorem Kq.of_chg {kb d : Nat} {C : Nat → Prop} {w w1 w2 : World} {G : Lg} {v1 : Dk} (h : Kq kb d C w w1) (k : Chg (G.LS v1 C w1) w1 w2) (hk : v1.kb = kb) (hd : v1.d = d) (hn : New G w.heap.size) : Kq kb d C w w2 :=
  ⟨k.os.trans h.os, k.tape.trans h.tape, k.output.trans h.output, Nat.le_trans h.size k.size, fun g hg h1 h2 h3 => by
    have e := h.block g hg h1 h2 h3
    refine (k.block g (Nat.lt_of_lt_of_le hg h.size) ?_).trans e
    rintro (h4 | h4 | ⟨h4, h5⟩ | h4 | h4 | h4)
    · exact h1 (h4.trans hk)
    · exact h2 (h4.trans hd)
    · exact h5 (h3 (h4.same e))
    · have := hn.p; omega
    · have := hn.s g h4; omega
    · have := hn.t g h4; omega⟩
theorem Kq.ext_ {kb d : Nat} {C : Nat → Prop} {w w1 w2 : World} (h : Kq kb d C w w1) (k : Ext w1 w2) : Kq kb d C w w2 := h.trans (.of_ext k)
structure Opened (v : Dk) (N : Nat) (C : Nat → Prop) (fr ct : Nat) (ep : Int) (w : World) (G : Lg) (v' : Dk) (Ao : Option Addr) (co : Nat) (bs : List Bo) (w' : World) : Prop where
  at_ : G.At v' N C w'
  d : v'.d = v.d
  kb : v'.kb = v.kb
  ab : v'.abs = rdN v.abs ct
  st : G.st = openL v.abs fr ct ep
  rec_ : bs.map Bo.l = recs (opI v.abs fr ep ct).sm
  row : w'.ownsRow w.heap.size 39 1 (.slice Ao bs.length co) bs.length (bs.map Bo.v)
  els : ∀ b ∈ bs, w'.ownsRow w.heap.size 5 1 b.v b.l.length (nums .u8 b.l)
  kq : Kq v.kb v.d C w w'
  new : New G w.heap.size
  ok : Lo.Ok G.st v'.kp.length
  sep : ∀ b ∈ bs, ∀ g, b.v.ownBlock = some g → G.ss.ownBlock ≠ some g
theorem openL_ok {s : Ds} (hB : Byte s) {fr ct : Nat} {ep : Int} (hfc : fr + ct ≤ s.kept.length) (h1 : 1 ≤ ct) (hep : 0 ≤ ep ∧ ep ≤ 18446744073709551615) : Lo.Ok (openL s fr ct ep) s.kept.length := by
  have ho := opI_ok hB ep hfc
  have hu := used_le ho.sb
  have h2 := ho.c2
  have h3 := ho.sl
  have h4 := ho.sg
  refine ⟨hfc, h1, hep, ho.n1, ho.n2, fun z hz => ho.sb z (List.mem_of_mem_take hz), ?_, fun _ => ?_, fun t ht => ho.tt t (List.mem_of_mem_take ht), ?_⟩
  · show ((opI s fr ep ct).sm.take _).length ≤ ct * 991
    rw [List.length_take]; omega
  · show ((opI s fr ep ct).tm.take _).length = (((opI s fr ep ct).sm.take _).length + 990) / 991
    rw [List.length_take, List.length_take]; omega
  · show ((opI s fr ep ct).tm.take _).length ≤ ct
    rw [List.length_take]; omega
theorem rd_do {s : Ds} (hoff : s.off = false) (i a : Nat) (ha : a < s.kept.length) : (rdN s i).do_ ⟨0, (a : Int), [], true, []⟩ = (rdN s (i + 1), s.now a, 0) := by
  have h : (rdN s i).do_ ⟨0, (a : Int), [], true, []⟩ = ({ rdN s i with rd := (rdN s i).rd + 1 }, (rdN s i).now a, 0) := by
    unfold Ds.do_
    rw [if_neg (show ¬ (0 : Int) = 3 by decide), if_neg (show ¬ (0 : Int) = 4 by decide), if_neg (show ¬ (rdN s i).off = true by show ¬ s.off = true; rw [hoff]; decide), if_neg, if_pos (show (0 : Int) = 0 from rfl)]
    · rfl
    · rintro ⟨_, h | h⟩
      · have h : (a : Int) < 0 := h
        omega
      · have h : (s.kept.length : Int) ≤ (a : Int) := h
        omega
  rw [h]
  have e : s.rd + (i : Int) + 1 = s.rd + ((i + 1 : Nat) : Int) := by omega
  show (({ s with rd := s.rd + (i : Int) + 1 } : Ds), s.now a, (0 : Int)) = _
  rw [e]
  rfl
theorem rdN_ok {s : Ds} {m : Nat} (h : s.Ok m) (i : Nat) : (rdN s i).Ok (m + i) := by
  have h2 := h.hm
  refine ⟨h.hn, h.hk, h.hp, ?_, h.hl⟩
  show s.pend.length ≤ m + i ∧ (0 ≤ s.rd + (i : Int) ∧ s.rd + (i : Int) ≤ ((m + i : Nat) : Int)) ∧ (0 ≤ s.wr ∧ s.wr ≤ ((m + i : Nat) : Int)) ∧ (0 ≤ s.fl ∧ s.fl ≤ ((m + i : Nat) : Int))
  omega
theorem Reads.fresh {w w' : World} {B n c K : Nat} {A : Option Addr} {xs : List Value} (h : Reads w B 1 A n xs) (hf : ∀ g, Value.ownBlock (.slice A n c) = some g → K ≤ g) {r : Option Nat} (hg : w.grownBy w' r) (hb : ∀ b, r = some b → b < K) : Reads w' B 1 A n xs := by
  refine ⟨h.1, fun h0 => ?_⟩
  obtain ⟨g, off, u, rfl, hB, hu, hc⟩ := h.at_ (k := 0) h0
  obtain ⟨ad, e2, _, hcs⟩ := h.2 h0
  injection e2 with e2
  subst e2
  have hK := hf g rfl
  refine ⟨_, rfl, hB, fun j u hu => ?_⟩
  have h1 := hcs j u hu
  rw [Addr.add_mid] at h1 ⊢
  have hlt : g < w.heap.size := by
    apply Classical.byContradiction
    intro hn
    have hno : w.heap[g]? = none := Array.getElem?_eq_none (by omega)
    simp [World.cell?, hno] at h1
  rw [← h1]
  exact World.cell?_of_block (a := ⟨g, off + j, none⟩) (hg.block g hlt (fun e => by have := hb g e.symm; omega))
theorem not_LS {G : Lg} {v : Dk} {N : Nat} {C : Nat → Prop} {w w' : World} (h : G.At v N C w) {g t : Nat} (hge : w.heap.size ≤ g) (ht : IsT w' g t) (hne : t ≠ 107) : ¬ G.LS v C w' g := by
  have lt : ∀ {g t : Nat}, IsT w g t → g < w.heap.size := fun ⟨cs, hc⟩ => by
    have hc : Blk w _ _ cs := hc
    exact hc.lt
  rintro (h1 | h1 | ⟨h1, _⟩ | h1 | h1 | h1)
  · have := lt h.hd.kT.1; omega
  · have := lt h.hd.dT; omega
  · exact hne (ht.fun_ h1)
  · have := h.hb.lt; omega
  · have := lt (h.hs.own h1).1; omega
  · have := lt (own_isT h.ht h1).1; omega
section
variable {v : Dk} {N : Nat} {C : Nat → Prop} {w w' : World}
theorem lopen (h : v.At N C w) {m : Nat} (hok : v.abs.Ok m) (hm : m + 8192 ≤ 1000000) (hoff : v.off = false) (hB : Byte v.abs) (ht : Tab w) (tN : 0 < N) (fr ct : Nat) (hfc : fr + ct ≤ v.kp.length) (hc1 : 1 ≤ ct) (hct : ct ≤ 1000) (ep : Int) (hep : 0 ≤ ep ∧ ep ≤ 18446744073709551615) :
    Calls Tryd.prog 10 #[v.ptr, .int .i64 (fr : Int), .int .i64 (ct : Int), .int .u64 ep] w fun e w' => ∃ G v' Ao co bs, e = .returned (.tuple #[G.ptr, .slice Ao (bs : List Bo).length co, .int .i64 0]) ∧ Opened v N C fr ct ep w G v' Ao co bs w' := by
  have hkl := h.h1
  have hak : v.abs.kept.length = v.kp.length := v.klen
  have hNw := h.nsz
  have ooI := fun i (hi : i ≤ ct) => opI_ok hB (fr := fr) ep (i := i) (by omega)
  refine enter Tryd.func10 rfl (by kernel_rfl) ?_
  refine J.seq ?_
  refine J.region ?_
  refine L.va rfl (X.assign (by conv => lhs; whnf)) ?_
  refine L.va rfl (X.assign (by conv => lhs; whnf)) ?_
  refine L.va rfl (X.assign (by conv => lhs; whnf)) ?_
  refine L.nil ?_
  refine J.seq ?_
  refine J.seq ?_
  refine J.region ?_
  refine L.va rfl (X.move (by conv => lhs; whnf)) ?_
  refine L.va rfl (X.lss rfl rfl) ?_
  refine L.va rfl (X.move (by conv => lhs; whnf)) ?_
  refine L.caseDecF (k := 23) rfl (by omega) ?_
  refine L.va rfl (X.move (by conv => lhs; whnf)) ?_
  refine L.va rfl (X.lss rfl rfl) ?_
  refine L.va rfl (X.pickF rfl (by conv => lhs; whnf)) ?_
  refine L.va rfl (X.move (by conv => lhs; whnf)) ?_
  refine L.caseDecF (k := 27) rfl (by omega) ?_
  refine L.va rfl (X.move (by conv => lhs; whnf)) ?_
  refine L.va rfl (X.move (by conv => lhs; whnf)) ?_
  refine L.call rfl en_35 rfl (h.len_) ?_
  rintro e _ ⟨rfl, rfl⟩
  refine ⟨_, rfl, ?_⟩
  refine L.va rfl (X.gtr rfl rfl) ?_
  refine L.va rfl (X.pickF rfl (by conv => lhs; whnf)) ?_
  refine L.va rfl (X.move (by conv => lhs; whnf)) ?_
  refine L.caseDecF (k := 33) rfl (by omega) ?_
  refine L.va rfl (X.move (by conv => lhs; whnf)) ?_
  refine L.va rfl (X.move (by conv => lhs; whnf)) ?_
  refine L.call rfl en_35 rfl (h.len_) ?_
  rintro e _ ⟨rfl, rfl⟩
  refine ⟨_, rfl, ?_⟩
  refine L.va rfl (X.move (by conv => lhs; whnf)) ?_
  refine L.va rfl (X.sub rfl rfl (by omega)) ?_
  refine L.va rfl (X.gtr rfl rfl) ?_
  refine L.va rfl (X.pickF rfl (by conv => lhs; whnf)) ?_
  refine L.nil ?_
  refine J.decF rfl (by omega) ?_
  refine J.skip ?_
  refine J.seq ?_
  refine J.region ?_
  refine L.va rfl (X.move (by conv => lhs; whnf)) ?_
  refine L.va rfl (X.move (by conv => lhs; whnf)) ?_
  refine L.va rfl (X.move (by conv => lhs; whnf)) ?_
  refine L.va rfl (X.move (by conv => lhs; whnf)) ?_
  refine L.va rfl (X.build (l := [_, _, _, _, _, _, _, _, _]) (Evs.cons (by conv => lhs; whnf) (Evs.cons (by conv => lhs; whnf) (Evs.cons (by conv => lhs; whnf) (Evs.cons (by conv => lhs; whnf) (Evs.cons (by conv => lhs; whnf) (Evs.cons (by conv => lhs; whnf) Evs.nil)))))) (bld_run Tryd.underlying83 (bp_83 Tryd.underlying83) zr_83 rfl)) ?_
  refine L.boxA (l := [_, _, _, _, _, _, _, _, _]) rfl rfl ?_
  intro b1 w1 hb1 hs1 hk1 he1
  have H0 : Lg.At ⟨b1, none, 0, none, 0, stO fr ct ep (opI v.abs fr ep 0)⟩ v N C w1 := by
    refine ⟨h.ext he1, hk1, .inl (own_nil _ _ _ _), own_nil _ _ _ _, (fun x hx g hg e => by cases e), (by show N ≤ b1; omega), tabx ht he1, tN⟩
  have N0 : New ⟨b1, none, 0, none, 0, stO fr ct ep (opI v.abs fr ep 0)⟩ w.heap.size := ⟨by show _ ≤ b1; omega, (fun g hg => by cases hg), (fun g hg => by cases hg)⟩
  have ch0 : (opI v.abs fr ep 0).ch = true := rfl
  have kq1 : Kq v.kb v.d C w w1 := .of_ext he1
  refine L.va rfl (X.assign (by conv => lhs; whnf)) ?_
  refine L.nil ?_
  refine J.seq ?_
  refine J.region ?_
  refine L.va rfl (X.assign (by conv => lhs; whnf)) ?_
  refine L.nil ?_
  refine J.seq ?_
  refine J.seq ?_
  refine J.region ?_
  refine L.va rfl (X.move (by conv => lhs; whnf)) ?_
  refine L.va rfl (X.move (by conv => lhs; whnf)) ?_
  refine L.nil ?_
  refine J.block ?_
  refine J.loop (X := Nat × Lg × Dk × Bool) [8, 9, 10, 12, 13, 14, 15, 16, 17, 48, 49, 50, 51, 52, 53, 54, 55, 56, 57, 58, 59, 60, 61, 62, 63, 64, 65, 66, 67, 68, 69, 70, 71, 72, 73, 74, 75, 76, 77, 78, 79, 80, 81, 82, 83, 84, 85, 86, 87, 88, 89, 90, 91, 92, 93, 94, 95, 96, 97, 98, 99, 100, 101, 102, 103, 104, 105, 106, 107, 108, 109, 110, 111, 112] (fun (i, _, _, c) => [(48, .int .i64 (i : Int)), (12, .bool c)]) (fun (i, G, v2, c) w' => i ≤ ct ∧ c = (opI v.abs fr ep i).ch ∧ G.At v2 N C w' ∧ v2.d = v.d ∧ v2.kb = v.kb ∧ v2.abs = rdN v.abs i ∧ G.st = stO fr ct ep (opI v.abs fr ep i) ∧ Kq v.kb v.d C w w' ∧ New G w.heap.size ∧ G.p = b1) (fun (i, _) => ct - i) ((0, ⟨b1, none, 0, none, 0, stO fr ct ep (opI v.abs fr ep 0)⟩, v, true)) (At2 (by first | rfl | exact at_int rfl (by omega) | exact at_slice rfl (by omega) | exact at_int rfl (by simp)) (by first | rfl | exact at_int rfl (by omega) | exact at_slice rfl (by omega) | exact at_int rfl (by simp))) ?_ ?_
  · exact ⟨Nat.zero_le _, rfl, H0, rfl, rfl, by unfold rdN; simp, rfl, kq1, N0, rfl⟩
  · rintro ⟨i, G, v2, c⟩ g w2 ⟨hi, hc, H2, d2, k2, a2, s2, q2, n2, p2⟩
    obtain ⟨gp, sA, sc, tA, tc, st⟩ := G
    dsimp only at s2 p2
    subst s2 p2
    obtain ⟨o, hO⟩ : ∃ o, o = opI v.abs fr ep i := ⟨_, rfl⟩
    have oo := ooI i hi
    rw [← hO] at oo hc H2 n2
    have n1 := oo.n1
    have n2' := oo.n2
    have osl := oo.sl
    have oc2 := oo.c2
    refine J.seq ?_
    refine J.region ?_
    refine L.va rfl (X.lss rfl rfl) ?_
    refine L.nil ?_
    refine J.seq ?_
    refine J.dec rfl (fun hlt => ?_) (fun hlt => ?_)
    · have hi' : i < ct := by omega
      obtain ⟨zs, hzs⟩ : ∃ zs, zs = v.abs.now (fr + i) := ⟨_, rfl⟩
      have eS : opI v.abs fr ep (i + 1) = opStep ep i zs o := by rw [opI_succ, ← hO, ← hzs]
      have hzb : Bytes zs := by rw [hzs]; exact now_bytes hB (by omega)
      have hzl : zs.length = 1024 := by rw [hzs]; exact nowI_mem (p := fun y : List Int => y.length = 1024) (by omega) hok.hk (fun y hy => (hok.hp y hy).2) _ (Nat.le_refl _)
      have hpl := pBy_le hzb
      have ok2 : v2.abs.Ok (m + i) := by rw [a2]; exact rdN_ok hok i
      have K := H2.hd.read_anyF ok2 (by omega) ⟨0, ((fr + i : Nat) : Int), [], true, []⟩ rfl
      rw [a2, rd_do hoff i (fr + i) (by omega), ← hzs, show v2.ptr = v.ptr by unfold Dk.ptr; rw [d2]] at K
      dsimp only at K
      rw [show ((fr + i : Nat) : Int) = (fr : Int) + (i : Int) by omega] at K
      refine J.skip ?_
      refine J.seq ?_
      refine J.block ?_
      refine J.seq ?_
      refine J.region ?_
      refine L.va rfl (X.move (by conv => lhs; whnf)) ?_
      refine L.va rfl (X.assign (by conv => lhs; whnf)) ?_
      refine L.nil ?_
      refine J.seq ?_
      refine J.region ?_
      refine L.va rfl (X.move (by conv => lhs; whnf)) ?_
      refine L.va rfl (X.move (by conv => lhs; whnf)) ?_
      refine L.va rfl (X.move (by conv => lhs; whnf)) ?_
      refine L.va rfl (X.add rfl rfl (by omega)) ?_
      refine L.call rfl en_36 rfl (K) ?_
      rintro e w3 ⟨A3, n3, c3, rfl, ho3, v3, p1, p2, p3, p4, p5, p6⟩
      refine ⟨_, rfl, ?_⟩
      have H3 := H2.disk p1 p2 p5 p6
      have q3 : Kq v.kb v.d C w w3 := q2.trans (by rw [← k2, ← d2]; exact p5)
      have d3 : v3.d = v.d := p2.trans d2
      have k3 : v3.kb = v.kb := p3.trans k2
      obtain rfl : n3 = 1024 := by have := ho3.1; simpa [nums, hzl] using this.symm
      refine L.va rfl (X.move (by conv => lhs; whnf)) ?_
      refine L.va rfl (X.extract rfl rfl) ?_
      refine L.va rfl (X.extract rfl rfl) ?_
      refine L.va rfl (X.assign (by conv => lhs; whnf)) ?_
      refine L.va rfl (X.assign (by conv => lhs; whnf)) ?_
      refine L.nil ?_
      refine J.seq ?_
      refine J.seq ?_
      refine J.region ?_
      refine L.va rfl (X.move (by conv => lhs; whnf)) ?_
      refine L.va rfl (X.neq rfl rfl) ?_
      refine L.nil ?_
      refine J.iteF rfl ?_
      refine J.skip ?_
      refine J.seq ?_
      refine J.region ?_
      refine L.va rfl (X.move (by conv => lhs; whnf)) ?_
      refine L.va rfl (X.move (by conv => lhs; whnf)) ?_
      refine L.call rfl en_37 rfl (lread A3 c3 zs ep w3 H3.tab (Reads.of_own ho3) hzb (own_bd ho3).1 (by have := (own_bd ho3).2; unfold maxLen at this; omega)) ?_
      rintro e w4 ⟨A4, c4, rfl, hr4, he4⟩
      refine ⟨_, rfl, ?_⟩
      have he4 : Ext w3 w4 := he4
      have H4 := H3.ext he4
      have q4 := q3.ext_ he4
      cases hko : okP zs ep
      · have eP : pcV false zs A4 c4 = .agg #[.int .i64 0, .int .u64 0, .int .u64 0, .slice none 0 0] := rfl
        rw [eP]
        have oS : opStep ep i zs o = ⟨o.nx, false, o.tm, o.sm⟩ := by
          unfold opStep opNx
          rw [hko, Bool.and_false, Bool.false_and]
          rfl
        refine L.va rfl (X.move (by conv => lhs; whnf)) ?_
        refine L.va rfl (X.extract rfl rfl) ?_
        refine L.va rfl (X.extract rfl rfl) ?_
        refine L.alloc rfl zr_87 ?_
        intro b5 w5 hb5 hs5 hk5 he5
        refine L.storeAgg (vs := [_, _, _, _]) rfl rfl rfl rfl sz_87 (hk5) rfl ?_
        intro w6 hk6 hg6 hs6
        have he46 : Ext w4 w6 := he5.grw hg6 (by intro g hg; injection hg with hg; omega)
        have H6 := H4.ext he46
        have q6 := q4.ext_ he46
        refine L.va rfl (X.assign (by conv => lhs; whnf)) ?_
        refine L.nil ?_
        refine J.seq ?_
        refine J.seq ?_
        refine J.region ?_
        refine L.va rfl (X.move (by conv => lhs; whnf)) ?_
        refine L.nil ?_
        refine J.iteF rfl ?_
        refine J.skip ?_
        refine J.seq ?_
        refine J.region ?_
        refine L.va rfl (X.move (by conv => lhs; whnf)) ?_
        refine L.va rfl (X.move (by conv => lhs; whnf)) ?_
        cases c
        · refine L.caseBF (k := 81) rfl (by rfl) ?_
          refine L.no rfl ?_
          refine L.va rfl (X.pickF rfl (by conv => lhs; whnf)) ?_
          refine L.va rfl (X.move (by conv => lhs; whnf)) ?_
          refine L.no rfl ?_
          refine L.no rfl ?_
          refine L.no rfl ?_
          refine L.no rfl ?_
          refine L.va rfl (X.pickF rfl (by conv => lhs; whnf)) ?_
          refine L.va rfl (X.assign (by conv => lhs; whnf)) ?_
          refine L.nil ?_
          refine J.seq ?_
          refine J.region ?_
          refine L.va rfl (X.move (by conv => lhs; whnf)) ?_
          refine L.nil ?_
          refine J.iteF rfl ?_
          refine J.skip ?_
          refine J.region ?_
          refine L.va rfl (X.add rfl rfl (by omega)) ?_
          refine L.va rfl (X.move (by conv => lhs; whnf)) ?_
          refine L.nil ?_
          refine ⟨(i + 1, ⟨gp, sA, sc, tA, tc, stO fr ct ep o⟩, v3, false), At2 (by first | rfl | exact at_int rfl (by omega) | exact at_slice rfl (by omega) | exact at_int rfl (by simp)) (by first | rfl | exact at_int rfl (by omega) | exact at_slice rfl (by omega) | exact at_int rfl (by simp)), (by (iterate 39 refine Agr.lk rfl ?_); exact Agr.lk rfl (Agr.hav rfl Agr.rfl')), ?_⟩
          refine ⟨⟨by omega, by rw [eS, oS], H6, d3, k3, p4, by rw [eS, oS]; rfl, q6, n2, rfl⟩, by show ct - (i + 1) < ct - i; omega⟩
        · refine L.caseBT (k := 81) rfl (by rfl) ?_
          refine L.va rfl (X.move (by conv => lhs; whnf)) ?_
          refine L.va rfl (X.pickT rfl (by conv => lhs; whnf)) ?_
          refine L.va rfl (X.move (by conv => lhs; whnf)) ?_
          refine L.caseBF (k := 84) rfl (by rfl) ?_
          refine L.no rfl ?_
          refine L.no rfl ?_
          refine L.no rfl ?_
          refine L.no rfl ?_
          refine L.va rfl (X.pickF rfl (by conv => lhs; whnf)) ?_
          refine L.va rfl (X.assign (by conv => lhs; whnf)) ?_
          refine L.nil ?_
          refine J.seq ?_
          refine J.region ?_
          refine L.va rfl (X.move (by conv => lhs; whnf)) ?_
          refine L.nil ?_
          refine J.iteF rfl ?_
          refine J.skip ?_
          refine J.region ?_
          refine L.va rfl (X.add rfl rfl (by omega)) ?_
          refine L.va rfl (X.move (by conv => lhs; whnf)) ?_
          refine L.nil ?_
          refine ⟨(i + 1, ⟨gp, sA, sc, tA, tc, stO fr ct ep o⟩, v3, false), At2 (by first | rfl | exact at_int rfl (by omega) | exact at_slice rfl (by omega) | exact at_int rfl (by simp)) (by first | rfl | exact at_int rfl (by omega) | exact at_slice rfl (by omega) | exact at_int rfl (by simp)), (by (iterate 40 refine Agr.lk rfl ?_); exact Agr.lk rfl (Agr.hav rfl Agr.rfl')), ?_⟩
          refine ⟨⟨by omega, by rw [eS, oS], H6, d3, k3, p4, by rw [eS, oS]; rfl, q6, n2, rfl⟩, by show ct - (i + 1) < ct - i; omega⟩
      · obtain ⟨hr4', hf4⟩ := hr4 hko
        have eP : pcV true zs A4 c4 = .agg #[.int .i64 (pAt zs), .int .u64 (pPrev zs), .int .u64 (sB smZ zs), .slice A4 (pBy zs).length c4] := rfl
        rw [eP]
        have hq := okP_iff.1 hko
        have hpp := pBy_pos hko
        obtain ⟨nx1, hnx⟩ : ∃ x, x = max o.nx (sB smZ zs + 1) := ⟨_, rfl⟩
        have eN : opNx ep zs o = nx1 := by unfold opNx; rw [if_pos hko, hnx]
        have gp3 : gp < w3.heap.size := H3.hb.lt
        refine L.va rfl (X.move (by conv => lhs; whnf)) ?_
        refine L.va rfl (X.extract rfl rfl) ?_
        refine L.va rfl (X.extract rfl rfl) ?_
        refine L.alloc rfl zr_87 ?_
        intro b5 w5 hb5 hs5 hk5 he5
        refine L.storeAgg (vs := [_, _, _, _]) rfl rfl rfl rfl sz_87 (hk5) rfl ?_
        intro w6 hk6 hg6 hs6
        have he46 : Ext w4 w6 := he5.grw hg6 (by intro g hg; injection hg with hg; omega)
        have H6 := H4.ext he46
        have q6 := q4.ext_ he46
        have hk6 : Blk w6 b5 87 #[.int .i64 (pAt zs), .int .u64 (pPrev zs), .int .u64 (sB smZ zs), .slice A4 (pBy zs).length c4] := hk6
        have hb6 : Blk w6 gp 83 #[.bool true, v3.ptr, .int .i64 (fr : Int), .int .i64 (ct : Int), .int .u64 ep, .int .u64 o.nx, .slice sA o.sm.length sc, .slice tA o.tm.length tc, .int .i64 0] := H6.hb
        have z34 := he4.le
        have hne : b5 ≠ gp := by omega
        refine L.va rfl (X.assign (by conv => lhs; whnf)) ?_
        refine L.nil ?_
        refine J.seq ?_
        refine J.seq ?_
        refine J.region ?_
        refine L.va rfl (X.move (by conv => lhs; whnf)) ?_
        refine L.nil ?_
        refine J.iteT rfl ?_
        refine J.draw (ℓ := 11) (S := Ext w6) mixed (fun w7 hS hS_h => ?_)
        refine D.va 0 rfl (by kernel_rfl) (fun _ _ _ h => h) rfl (fun w' hw => X.move (by conv => lhs; whnf)) hS ?_
        refine D.va 1 rfl (by kernel_rfl) (fun _ _ _ h => h) rfl (fun w' hw => X.move (by conv => lhs; whnf)) hS ?_
        refine D.va 2 rfl (by kernel_rfl) (fun _ _ _ h => h) rfl (fun w' hw => X.nilCheck rfl) hS ?_
        refine D.va 3 rfl (by kernel_rfl) (fun _ _ _ h => h) rfl (fun w' hw => X.fieldAddr rfl Tryd.underlying83 rfl sz_35 (by decide)) hS ?_
        refine D.va 4 rfl (by kernel_rfl) (fun _ _ _ h => h) rfl (fun w' hw => X.load rfl sc_35 (by first | exact Ld.blk (hb6.ext hw) rfl | exact Ld.blk (hk6.ext hw) rfl)) hS ?_
        refine D.va 5 rfl (by kernel_rfl) (fun _ _ _ h => h) rfl (fun w' hw => X.fieldAddr rfl Tryd.underlying87 rfl sz_35 (by decide)) hS ?_
        refine D.va 6 rfl (by kernel_rfl) (fun _ _ _ h => h) rfl (fun w' hw => X.load rfl sc_35 (by first | exact Ld.blk (hb6.ext hw) rfl | exact Ld.blk (hk6.ext hw) rfl)) hS ?_
        refine D.va 7 rfl (by kernel_rfl) (fun _ _ _ h => h) rfl (fun w' hw => X.addU rfl rfl (by omega)) hS ?_
        refine D.va 8 rfl (by kernel_rfl) (fun _ _ _ h => h) rfl (fun w' hw => X.max2 rfl rfl) hS ?_
        refine D.va 9 rfl (by kernel_rfl) (fun _ _ _ h => h) rfl (fun w' hw => X.nilCheck rfl) hS ?_
        refine D.va 10 rfl (by kernel_rfl) (fun _ _ _ h => h) rfl (fun w' hw => X.fieldAddr rfl Tryd.underlying83 rfl sz_35 (by decide)) hS ?_
        refine D.one 11 (by kernel_rfl) rfl ?_
        refine L.store rfl rfl (by conv => lhs; whnf) rfl sz_35 (hb6.ext hS) (by first | decide | exact Nat.le_of_ble_eq_true rfl) ?_
        intro w8 hb8 hg8 hs8
        refine L.nil ?_
        refine ⟨fun h => absurd rfl h, ?_⟩
        refine D.done (by kernel_rfl) ?_
        replace hb6 := hb6.ext hS
        replace hk6 := hk6.ext hS
        rw [← hnx] at hb8
        obtain ⟨H8, c8, g8⟩ := (H6.ext hS).put' (l := ⟨fr, ct, ep, nx1, o.sm, o.tm, 0⟩) (sA := sA) (sc := sc) (tA := tA) (tc := tc) hg8 hb8 (H6.ext hS).hs rfl (H6.ext hS).ht rfl
        have q8 : Kq v.kb v.d C w w8 := (q6.ext_ hS).of_chg c8 k3 d3 n2
        have n8 : New ⟨gp, sA, sc, tA, tc, ⟨fr, ct, ep, nx1, o.sm, o.tm, 0⟩⟩ w.heap.size := n2.gr g8 (q6.ext_ hS).size
        have hb8' : Blk w8 gp 83 #[.bool true, v3.ptr, .int .i64 (fr : Int), .int .i64 (ct : Int), .int .u64 ep, .int .u64 nx1, .slice sA o.sm.length sc, .slice tA o.tm.length tc, .int .i64 0] := H8.hb
        have hk8 := hk6.grown hg8 (fun e => hne (by injection e))
        have hr8 := ((hr4'.ext he46).ext hS).fresh hf4 hg8 (fun b hb => by injection hb with hb; omega)
        have z38 : w3.heap.size ≤ w8.heap.size := Nat.le_trans z34 (Nat.le_trans he46.le (Nat.le_trans hS.le hg8.size))
        refine J.seq ?_
        refine J.region ?_
        refine L.va rfl (X.move (by conv => lhs; whnf)) ?_
        refine L.va rfl (X.move (by conv => lhs; whnf)) ?_
        cases c
        · have oS : opStep ep i zs o = ⟨nx1, false, o.tm, o.sm⟩ := by
            unfold opStep
            rw [← hc, eN, Bool.false_and, Bool.false_and]
            rfl
          refine L.caseBF (k := 81) rfl (by rfl) ?_
          refine L.no rfl ?_
          refine L.va rfl (X.pickF rfl (by conv => lhs; whnf)) ?_
          refine L.va rfl (X.move (by conv => lhs; whnf)) ?_
          refine L.no rfl ?_
          refine L.no rfl ?_
          refine L.no rfl ?_
          refine L.no rfl ?_
          refine L.va rfl (X.pickF rfl (by conv => lhs; whnf)) ?_
          refine L.va rfl (X.assign (by conv => lhs; whnf)) ?_
          refine L.nil ?_
          refine J.seq ?_
          refine J.region ?_
          refine L.va rfl (X.move (by conv => lhs; whnf)) ?_
          refine L.nil ?_
          refine J.iteF rfl ?_
          refine J.skip ?_
          refine J.region ?_
          refine L.va rfl (X.add rfl rfl (by omega)) ?_
          refine L.va rfl (X.move (by conv => lhs; whnf)) ?_
          refine L.nil ?_
          refine ⟨(i + 1, ⟨gp, sA, sc, tA, tc, ⟨fr, ct, ep, nx1, o.sm, o.tm, 0⟩⟩, v3, false), At2 (by first | rfl | exact at_int rfl (by omega) | exact at_slice rfl (by omega) | exact at_int rfl (by simp)) (by first | rfl | exact at_int rfl (by omega) | exact at_slice rfl (by omega) | exact at_int rfl (by simp)), (by (iterate 50 refine Agr.lk rfl ?_); exact Agr.lk rfl (Agr.hav rfl Agr.rfl')), ?_⟩
          refine ⟨⟨by omega, by rw [eS, oS], H8, d3, k3, p4, by rw [eS, oS]; rfl, q8, n8, rfl⟩, by show ct - (i + 1) < ct - i; omega⟩
        · have K2 := lfollows H8 i (by omega) zs A4 c4 o.nx o.ch (fun _ => oo.c1 hc.symm)
          rw [show fol ⟨o.nx, o.ch, o.tm, o.sm⟩ i zs = fol o i zs from rfl] at K2
          refine L.caseBT (k := 81) rfl (by rfl) ?_
          refine L.va rfl (X.move (by conv => lhs; whnf)) ?_
          refine L.va rfl (X.pickT rfl (by conv => lhs; whnf)) ?_
          refine L.va rfl (X.move (by conv => lhs; whnf)) ?_
          refine L.caseBT (k := 84) rfl (by rfl) ?_
          refine L.va rfl (X.move (by conv => lhs; whnf)) ?_
          refine L.va rfl (X.move (by conv => lhs; whnf)) ?_
          refine L.va rfl ((by first | exact X.loadAgg rfl (range_l hb8') Tryd.underlying87 rfl (by kernel_rfl) | exact X.loadAgg rfl (range_blk hb8') Tryd.underlying87 rfl (by kernel_rfl) | exact X.loadAgg rfl (range_l hk8) Tryd.underlying87 rfl (by kernel_rfl) | exact X.loadAgg rfl (range_blk hk8) Tryd.underlying87 rfl (by kernel_rfl))) ?_
          refine L.call rfl en_38 rfl (K2) ?_
          rintro e w9 ⟨rfl, he9⟩
          refine ⟨_, rfl, ?_⟩
          have he9 : Ext w8 w9 := he9
          have H9 := H8.ext he9
          have q9 := q8.ext_ he9
          have hb9 := hb8'.ext he9
          have hk9 := hk8.ext he9
          have hr9 := hr8.ext he9
          refine L.va rfl (X.pickT rfl (by conv => lhs; whnf)) ?_
          refine L.va rfl (X.assign (by conv => lhs; whnf)) ?_
          refine L.nil ?_
          refine J.seq ?_
          refine J.region ?_
          refine L.va rfl (X.move (by conv => lhs; whnf)) ?_
          refine L.nil ?_
          cases hfo : fol o i zs
          · have oS : opStep ep i zs o = ⟨nx1, false, o.tm, o.sm⟩ := by
              unfold opStep
              rw [← hc, eN, hfo, Bool.and_false]
              rfl
            refine J.iteF rfl ?_
            refine J.skip ?_
            refine J.region ?_
            refine L.va rfl (X.add rfl rfl (by omega)) ?_
            refine L.va rfl (X.move (by conv => lhs; whnf)) ?_
            refine L.nil ?_
            refine ⟨(i + 1, ⟨gp, sA, sc, tA, tc, ⟨fr, ct, ep, nx1, o.sm, o.tm, 0⟩⟩, v3, false), At2 (by first | rfl | exact at_int rfl (by omega) | exact at_slice rfl (by omega) | exact at_int rfl (by simp)) (by first | rfl | exact at_int rfl (by omega) | exact at_slice rfl (by omega) | exact at_int rfl (by simp)), (by (iterate 51 refine Agr.lk rfl ?_); exact Agr.lk rfl (Agr.hav rfl Agr.rfl')), ?_⟩
            refine ⟨⟨by omega, by rw [eS, oS], H9, d3, k3, p4, by rw [eS, oS]; rfl, q9, n8, rfl⟩, by show ct - (i + 1) < ct - i; omega⟩
          · have oS : opStep ep i zs o = ⟨nx1, true, o.tm ++ [sB smZ zs], o.sm ++ pBy zs⟩ := by
              unfold opStep
              rw [← hc, eN, hfo, hko, Bool.and_true]
              rfl
            refine J.iteT rfl ?_
            refine J.seq ?_
            refine J.draw (ℓ := 11) (S := (fun w' => Blk w' gp 83 #[.bool true, v3.ptr, .int .i64 (fr : Int), .int .i64 (ct : Int), .int .u64 ep, .int .u64 nx1, .slice sA o.sm.length sc, .slice tA o.tm.length tc, .int .i64 0] ∧ Blk w' b5 87 #[.int .i64 (pAt zs), .int .u64 (pPrev zs), .int .u64 (sB smZ zs), .slice A4 (pBy zs).length c4])) mixed (fun w10 hSE hS_h => ?_)
            have hS : ((fun w' => Blk w' gp 83 #[.bool true, v3.ptr, .int .i64 (fr : Int), .int .i64 (ct : Int), .int .u64 ep, .int .u64 nx1, .slice sA o.sm.length sc, .slice tA o.tm.length tc, .int .i64 0] ∧ Blk w' b5 87 #[.int .i64 (pAt zs), .int .u64 (pPrev zs), .int .u64 (sB smZ zs), .slice A4 (pBy zs).length c4])) w10 := And.intro (hb9.ext hSE) (hk9.ext hSE)
            refine D.va 0 rfl (by kernel_rfl) (fun _ _ _ h => h) rfl (fun w' hw => X.move (by conv => lhs; whnf)) hS ?_
            refine D.va 1 rfl (by kernel_rfl) (fun _ _ _ h => h) rfl (fun w' hw => X.move (by conv => lhs; whnf)) hS ?_
            refine D.va 2 rfl (by kernel_rfl) (fun _ _ _ h => h) rfl (fun w' hw => X.nilCheck rfl) hS ?_
            refine D.va 3 rfl (by kernel_rfl) (fun _ _ _ h => h) rfl (fun w' hw => X.fieldAddr rfl Tryd.underlying83 rfl sz_40 (by decide)) hS ?_
            refine D.va 4 rfl (by kernel_rfl) (fun _ _ _ h => h) rfl (fun w' hw => X.load rfl sc_40 (by first | exact Ld.blk hw.1 rfl | exact Ld.blk hw.2 rfl)) hS ?_
            refine D.va 5 rfl (by kernel_rfl) (fun _ _ _ h => h) rfl (fun w' hw => X.fieldAddr rfl Tryd.underlying87 rfl sz_35 (by decide)) hS ?_
            refine D.va 6 rfl (by kernel_rfl) (fun _ _ _ h => h) rfl (fun w' hw => X.load rfl sc_35 (by first | exact Ld.blk hw.1 rfl | exact Ld.blk hw.2 rfl)) hS ?_
            refine D.one 7 (by kernel_rfl) rfl ?_
            refine L.bslice (vs := [_]) rfl (Evs.cons (by conv => lhs; whnf) Evs.nil) rfl rfl rfl rfl Tryd.underlying40 sz_35 zr_35 (by decide) ?_
            intro b11 w11 hb11 hs11 hk11 he11
            have hS1 := And.intro (hS.1.ext he11) (hS.2.ext he11)
            refine L.nil ?_
            refine ⟨fun _ => hS1, ?_⟩
            have H11 := (H9.ext hSE).ext he11
            have z11 := H11.hd.nsz
            have hx11 := H11.ht
            have ne1 : some gp ≠ Value.ownBlock (.slice tA o.tm.length tc) := fun e => own_blk_ne hx11 H11.hb (by decide) e.symm
            have ne2 : some b5 ≠ Value.ownBlock (.slice tA o.tm.length tc) := fun e => own_blk_ne hx11 hS1.2 (by decide) e.symm
            have hx11' : w11.ownsRow N 35 1 (.slice tA o.tm.length tc) o.tm.length (nums .u64 o.tm) := hx11
            refine D.one 8 (by kernel_rfl) rfl ?_
            refine L.appendQ (q := o.tm.length + 1) (ys := o.tm ++ [sB smZ zs]) rfl rfl rfl Tryd.underlying40 el_35 (hx11') ((blk_reads (q := 1) (l := nums .u64 [sB smZ zs]) hk11 hk11.lt rfl)) (by omega) (by simp) (by unfold maxLen; omega) (by omega) ?_
            intro A12 c12 w12 ho12 hg12 hb12 hor12
            have hS2 := And.intro (hS1.1.grown hg12 ne1) (hS1.2.grown hg12 ne2)
            refine L.nil ?_
            refine ⟨fun _ => hS2, ?_⟩
            refine D.va 9 rfl (by kernel_rfl) (fun _ _ _ h => h) rfl (fun w' hw => X.nilCheck rfl) hS2 ?_
            refine D.va 10 rfl (by kernel_rfl) (fun _ _ _ h => h) rfl (fun w' hw => X.fieldAddr rfl Tryd.underlying83 rfl sz_40 (by decide)) hS2 ?_
            refine D.one 11 (by kernel_rfl) rfl ?_
            refine L.store rfl rfl (by conv => lhs; whnf) rfl sz_40 (hS2.1) (by first | decide | exact Nat.le_of_ble_eq_true rfl) ?_
            intro w13 hk13 hg13 hs13
            refine L.nil ?_
            refine ⟨fun h => absurd rfl h, ?_⟩
            refine D.done (by kernel_rfl) ?_
            have tl : (o.tm ++ [sB smZ zs]).length = o.tm.length + 1 := by simp
            obtain ⟨H13, c13, g13⟩ := H11.tput (l := ⟨fr, ct, ep, nx1, o.sm, o.tm ++ [sB smZ zs], 0⟩) (tA := A12) (tc := c12) hg12 (by show w12.ownsRow N 35 1 (.slice A12 (o.tm ++ [sB smZ zs]).length c12) (o.tm ++ [sB smZ zs]).length _; rw [tl]; exact ho12) (fun b hb => by
              rw [show Value.ownBlock (.slice A12 (o.tm ++ [sB smZ zs]).length c12) = Value.ownBlock (.slice A12 (o.tm.length + 1) c12) from ob_len _ _ _ _ _] at hb
              rcases hor12 with e | e
              · exact .inl (by rw [← hb, e]; rfl)
              · rw [e] at hb
                injection hb with hb
                exact .inr (by omega)) hg13 (by unfold Lg.cs Lg.ts; dsimp only; rw [tl]; exact hk13) rfl
            have q13 : Kq v.kb v.d C w w13 := ((q9.ext_ hSE).ext_ he11).of_chg c13 k3 d3 n8
            have n13 : New ⟨gp, sA, sc, A12, c12, ⟨fr, ct, ep, nx1, o.sm, o.tm ++ [sB smZ zs], 0⟩⟩ w.heap.size := n8.gr g13 ((q9.ext_ hSE).ext_ he11).size
            have hb13 : Blk w13 gp 83 #[.bool true, v3.ptr, .int .i64 (fr : Int), .int .i64 (ct : Int), .int .u64 ep, .int .u64 nx1, .slice sA o.sm.length sc, .slice A12 (o.tm ++ [sB smZ zs]).length c12, .int .i64 0] := H13.hb
            have hk13' := hS2.2.grown hg13 (fun e => hne (by injection e))
            have hr13 := ((((hr9.ext hSE).ext he11).fresh hf4 hg12 (fun b hb => by
              obtain ⟨cs, hcs⟩ := (own_isT H3.ht hb).1
              have hcs : Blk w3 b 35 cs := hcs
              exact hcs.lt)).fresh hf4 hg13 (fun b hb => by injection hb with hb; omega)).more (Nat.le_refl _)
            have z413 : w4.heap.size ≤ w13.heap.size := by
              have a1 := he46.le
              have a2 := hg8.size
              have a3 := he9.le
              have a4 := hSE.le
              have a5 := he11.le
              have a6 := hg12.size
              have a7 := hg13.size
              have a8 : w6.heap.size ≤ w7.heap.size := Ext.le ‹Ext w6 w7›
              omega
            have hr13 := hr13.more (B' := w13.heap.size) (by
              have a1 := he46.le
              have a8 : w6.heap.size ≤ w7.heap.size := Ext.le ‹Ext w6 w7›
              omega)
            refine J.draw (ℓ := 10) (S := (fun w' => Blk w' gp 83 #[.bool true, v3.ptr, .int .i64 (fr : Int), .int .i64 (ct : Int), .int .u64 ep, .int .u64 nx1, .slice sA o.sm.length sc, .slice A12 (o.tm ++ [sB smZ zs]).length c12, .int .i64 0] ∧ Blk w' b5 87 #[.int .i64 (pAt zs), .int .u64 (pPrev zs), .int .u64 (sB smZ zs), .slice A4 (pBy zs).length c4])) mixed (fun w14 hSE hS_h => ?_)
            have hS : ((fun w' => Blk w' gp 83 #[.bool true, v3.ptr, .int .i64 (fr : Int), .int .i64 (ct : Int), .int .u64 ep, .int .u64 nx1, .slice sA o.sm.length sc, .slice A12 (o.tm ++ [sB smZ zs]).length c12, .int .i64 0] ∧ Blk w' b5 87 #[.int .i64 (pAt zs), .int .u64 (pPrev zs), .int .u64 (sB smZ zs), .slice A4 (pBy zs).length c4])) w14 := And.intro (hb13.ext hSE) (hk13'.ext hSE)
            have H14 := H13.ext hSE
            have z14 := H14.hd.nsz
            have hr14 := hr13.ext hSE
            have n4 : some gp ≠ Value.ownBlock (.slice sA o.sm.length sc) := fun e => absurd ((H14.hs.own e.symm).1.fun_ H14.hb.isT) (by decide)
            have n5 : some b5 ≠ Value.ownBlock (.slice sA o.sm.length sc) := fun e => absurd ((H14.hs.own e.symm).1.fun_ hS.2.isT) (by decide)
            refine D.va 0 rfl (by kernel_rfl) (fun _ _ _ h => h) rfl (fun w' hw => X.move (by conv => lhs; whnf)) hS ?_
            refine D.va 1 rfl (by kernel_rfl) (fun _ _ _ h => h) rfl (fun w' hw => X.move (by conv => lhs; whnf)) hS ?_
            refine D.va 2 rfl (by kernel_rfl) (fun _ _ _ h => h) rfl (fun w' hw => X.nilCheck rfl) hS ?_
            refine D.va 3 rfl (by kernel_rfl) (fun _ _ _ h => h) rfl (fun w' hw => X.fieldAddr rfl Tryd.underlying83 rfl sz_39 (by decide)) hS ?_
            refine D.va 4 rfl (by kernel_rfl) (fun _ _ _ h => h) rfl (fun w' hw => X.load rfl sc_39 (by first | exact Ld.blk hw.1 rfl | exact Ld.blk hw.2 rfl)) hS ?_
            refine D.va 5 rfl (by kernel_rfl) (fun _ _ _ h => h) rfl (fun w' hw => X.fieldAddr rfl Tryd.underlying87 rfl sz_39 (by decide)) hS ?_
            refine D.va 6 rfl (by kernel_rfl) (fun _ _ _ h => h) rfl (fun w' hw => X.load rfl sc_39 (by first | exact Ld.blk hw.1 rfl | exact Ld.blk hw.2 rfl)) hS ?_
            refine D.one 7 (by kernel_rfl) rfl ?_
            refine L.appendSm rfl rfl rfl Tryd.underlying39 el_5 H14.hs hr14 hpp (by show o.sm.length + (pBy zs).length ≤ maxLen ∧ (o.sm.length + (pBy zs).length) * 1 ≤ _; unfold maxLen; omega) z14 ?_
            intro A15 c15 w15 ho15 hg15 hor15
            have hS1 := And.intro (hS.1.grown hg15 n4) (hS.2.grown hg15 n5)
            refine L.nil ?_
            refine ⟨fun _ => hS1, ?_⟩
            refine D.va 8 rfl (by kernel_rfl) (fun _ _ _ h => h) rfl (fun w' hw => X.nilCheck rfl) hS1 ?_
            refine D.va 9 rfl (by kernel_rfl) (fun _ _ _ h => h) rfl (fun w' hw => X.fieldAddr rfl Tryd.underlying83 rfl sz_39 (by decide)) hS1 ?_
            refine D.one 10 (by kernel_rfl) rfl ?_
            refine L.store rfl rfl (by conv => lhs; whnf) rfl sz_39 (hS1.1) (by first | decide | exact Nat.le_of_ble_eq_true rfl) ?_
            intro w16 hk16 hg16 hs16
            refine L.nil ?_
            refine ⟨fun h => absurd rfl h, ?_⟩
            refine D.done (by kernel_rfl) ?_
            refine J.region ?_
            refine L.va rfl (X.add rfl rfl (by omega)) ?_
            refine L.va rfl (X.move (by conv => lhs; whnf)) ?_
            refine L.nil ?_
            have sl : (o.sm ++ pBy zs).length = o.sm.length + (pBy zs).length := by simp
            obtain ⟨H16, c16, g16⟩ := H14.sput (l := ⟨fr, ct, ep, nx1, o.sm ++ pBy zs, o.tm ++ [sB smZ zs], 0⟩) (sA := A15) (sc := c15) hg15 (by show w15.ownsRow N 5 1 (.slice A15 (o.sm ++ pBy zs).length c15) (o.sm ++ pBy zs).length _; rw [sl]; exact ho15) (fun b hb => by rw [show Value.ownBlock (.slice A15 (o.sm ++ pBy zs).length c15) = Value.ownBlock (.slice A15 (o.sm.length + (pBy zs).length) c15) from ob_len _ _ _ _ _] at hb; exact hor15 b hb) hg16 (by unfold Lg.cs Lg.ss; dsimp only; rw [sl]; exact hk16) rfl
            have q16 : Kq v.kb v.d C w w16 := (q13.ext_ hSE).of_chg c16 k3 d3 n13
            refine ⟨(i + 1, ⟨gp, A15, c15, A12, c12, ⟨fr, ct, ep, nx1, o.sm ++ pBy zs, o.tm ++ [sB smZ zs], 0⟩⟩, v3, true), At2 (by first | rfl | exact at_int rfl (by omega) | exact at_slice rfl (by omega) | exact at_int rfl (by simp)) (by first | rfl | exact at_int rfl (by omega) | exact at_slice rfl (by omega) | exact at_int rfl (by simp)), (by (iterate 72 refine Agr.lk rfl ?_); exact Agr.lk rfl (Agr.hav rfl Agr.rfl')), ?_⟩
            refine ⟨⟨by omega, by rw [eS, oS], H16, d3, k3, p4, by rw [eS, oS]; rfl, q16, n13.gr g16 (q13.ext_ hSE).size, rfl⟩, by show ct - (i + 1) < ct - i; omega⟩
    · obtain rfl : i = ct := by omega
      have hul := used_le oo.sb
      have osg := oo.sg
      have K := fall sA o.sm.length sc o.sm w2 H2.tab H2.hs.reads oo.sb H2.hs.bd.1 (by have := H2.hs.bd.2; unfold maxLen at this; omega) (by omega)
      have hb2 : Blk w2 gp 83 #[.bool true, v2.ptr, .int .i64 (fr : Int), .int .i64 (i : Int), .int .u64 ep, .int .u64 o.nx, .slice sA o.sm.length sc, .slice tA o.tm.length tc, .int .i64 0] := H2.hb
      refine J.exit ?_
      refine J.seq ?_
      refine J.region ?_
      refine L.va rfl (X.move (by conv => lhs; whnf)) ?_
      refine L.va rfl (X.nilCheck rfl) ?_
      refine L.va rfl (X.fieldAddr rfl Tryd.underlying83 rfl sz_39 (by decide)) ?_
      refine L.va rfl (X.load rfl sc_39 (by first | exact Ld.blk hb2 rfl)) ?_
      refine L.call rfl en_39 rfl (K) ?_
      rintro e w3 ⟨Ao, co, bs, p, er, rfl, eA, hro, hel, he3⟩
      refine ⟨_, rfl, ?_⟩
      have he3 : Ext w2 w3 := he3
      have eU : used o.sm = p := by unfold used; rw [eA]
      have eR : recs o.sm = bs.map Bo.l := by unfold recs; rw [eA]
      rw [eU] at hul
      have H3 := H2.ext he3
      have K2 := lcut H3 p hul (by show (p + 990) / 991 ≤ o.tm.length; omega) (by omega)
      refine L.va rfl (X.move (by conv => lhs; whnf)) ?_
      refine L.va rfl (X.extract rfl rfl) ?_
      refine L.va rfl (X.extract rfl rfl) ?_
      refine L.va rfl (X.extract rfl rfl) ?_
      refine L.va rfl (X.assign (by conv => lhs; whnf)) ?_
      refine L.va rfl (X.assign (by conv => lhs; whnf)) ?_
      refine L.va rfl (X.assign (by conv => lhs; whnf)) ?_
      refine L.nil ?_
      refine J.seq ?_
      refine J.region ?_
      refine L.va rfl (X.move (by conv => lhs; whnf)) ?_
      refine L.va rfl (X.move (by conv => lhs; whnf)) ?_
      refine L.call rfl en_40 rfl (K2) ?_
      rintro e w4 ⟨rfl, G4, H4, e4, c4, g4⟩
      refine ⟨_, rfl, ?_⟩
      refine L.nil ?_
      refine J.seq ?_
      refine J.region ?_
      refine L.va rfl (X.move (by conv => lhs; whnf)) ?_
      refine L.va rfl (X.move (by conv => lhs; whnf)) ?_
      refine L.va rfl (X.assign (by conv => lhs; whnf)) ?_
      refine L.va rfl (X.assign (by conv => lhs; whnf)) ?_
      refine L.va rfl (X.assign (by conv => lhs; whnf)) ?_
      refine L.nil ?_
      refine J.ret ?_
      refine fin3 ?_
      have hnl : ∀ {g t : Nat}, IsT w3 g t → w2.heap.size ≤ g → t ≠ 107 → ¬ Lg.LS ⟨gp, sA, sc, tA, tc, stO fr i ep o⟩ v2 C w3 g := fun ht hge hne => not_LS H2 hge ht hne
      have z2 := q2.size
      refine ⟨G4, v2, Ao, co, bs, ?_, H4, d2, k2, a2, ?_, ?_, (c4.own hro fun g hg => hnl (own_isT hro hg).1 (own_isT hro hg).2 (by decide)).mono z2, fun b hb => (c4.own (hel b hb) fun g hg => hnl (own_isT (hel b hb) hg).1 (own_isT (hel b hb) hg).2 (by decide)).mono z2, (q2.ext_ he3).of_chg c4 k2 d2 n2, n2.gr g4 (Nat.le_trans z2 he3.le), ?_, ?_⟩
      · have : G4.p = gp := g4.p
        show Ending.returned (.tuple #[.pointer (some ⟨gp, 0, none⟩), _, _]) = Ending.returned (.tuple #[.pointer (some ⟨G4.p, 0, none⟩), _, _])
        rw [this]
        rfl
      · rw [e4]
        unfold openL
        rw [← hO, eU]
        rfl
      · rw [← hO, eR]
      · have e5 : G4.st = openL v.abs fr i ep := by
          rw [e4]
          unfold openL
          rw [← hO, eU]
          rfl
        have e6 : v2.kp.length = v.abs.kept.length := by
          have := v2.klen
          rw [a2] at this
          exact this.symm
        rw [e5, e6]
        exact openL_ok hB (by omega) hc1 hep
      · intro b hb g hg hs
        have h1 := own_isT (hel b hb) hg
        obtain ⟨cs1, hb1⟩ := h1.1
        have hb1 : Blk w3 g 5 cs1 := hb1
        have l1 := hb1.lt
        rcases g4.s g hs with h2 | h2
        · obtain ⟨cs2, hb2⟩ := (H2.hs.own h2).1
          have hb2 : Blk w2 g 5 cs2 := hb2
          have l2 := hb2.lt
          have l3 := h1.2
          omega
        · omega
end
end Go.Proofs.YtjdimgigbgafbaaDoor
