import Derived.Test.YtlohbkcedpkjaaaDoorAppB
import Derived.Test.YtlohbkcedpkjaaaDoorBase
import Derived.Test.YtlohbkcedpkjaaaDoorWCrcs
import Derived.Test.YtlohbkcedpkjaaaDoorSealP
import Derived.Deep.DeepCutAuto
import Derived.Deep.RegionHeld3
import Derived.Outline
import Derived.BigQuiet
/-
  Package frame: Size, Put and length, walked; its reference's Put.
-/
namespace Go.Proofs.YtlohbkcedpkjaaaDoor
open Go.RowKit
open Byts Fram
set_option linter.unusedVariables false
/-- a sum's four bytes -/
def smZ (l : List Int) : List Int := bytesZ (Crc.more 0#32 l)
theorem smZ_length (l : List Int) : (smZ l).length = 4 := rfl
theorem smZ_bytes (l : List Int) : ∀ z ∈ smZ l, 0 ≤ z ∧ z < 256 := bytesZ_lt _
theorem frm_bytes (zs : List Int) (hz : ∀ z ∈ zs, 0 ≤ z ∧ z < 256) : ∀ z ∈ frm smZ zs, 0 ≤ z ∧ z < 256 := by
  intro z h
  unfold frm at h
  rw [List.mem_append] at h
  rcases h with h | h
  · exact fhd_bytes zs hz z h
  · exact smZ_bytes _ z h
theorem size_in (n : Int) (w : World) (h0 : 0 ≤ n) (h1 : n ≤ 60000) :
    Calls Tryd.prog 41 #[.int .i64 n] w fun e w' => e = .returned (.int .i64 (4 + n + 4)) ∧ w = w' := by
  go_enter Tryd.func41, Tryd.ntmps41
  go_wp2_with fail
  go_ret
  exact ⟨rfl, rfl⟩
theorem size_out (n : Int) (w : World) (h : n < 0 ∨ 60000 < n) :
    Calls Tryd.prog 41 #[.int .i64 n] w fun e w' => e = .returned (.int .i64 0) ∧ w = w' := by
  rcases h with h | h
  · go_enter Tryd.func41, Tryd.ntmps41
    go_wp2_with fail
    go_ret
    exact ⟨rfl, rfl⟩
  · have h' : ¬ n < 0 := by omega
    go_enter Tryd.func41, Tryd.ntmps41
    go_wp2_with fail
    go_ret
    exact ⟨rfl, rfl⟩
theorem fput_long (A : Option Addr) (n c : Nat) (w : World) (hn : 60000 < n) (hn1 : n ≤ 9223372036854775807) :
    Calls Tryd.prog 40 #[.slice A n c] w fun e w' => e = .returned (.tuple #[.slice none 0 0, .int .i64 4]) ∧ w = w' := by
  go_enter Tryd.func40, Tryd.ntmps40
  go_wp2_with fail
  go_ret2
  exact ⟨rfl, rfl⟩
theorem be3_head (n : Nat) (h : n ≤ 60000) : [(181 : Int), (n : Int) / 65536, (n : Int) / 256, (n : Int) % 256] = 181 :: be 3 (n : Int) := by
  have e : be 3 (n : Int) = [(n : Int) / 65536 % 256, (n : Int) / 256 % 256, (n : Int) / 1 % 256] := rfl
  rw [e, Int.ediv_one, show (n : Int) / 65536 % 256 = (n : Int) / 65536 by omega, show (n : Int) / 256 % 256 = (n : Int) / 256 by omega]
/-- what Put leaves -/
def FPut (zs : List Int) (w : World) (e : Ending) (w' : World) : Prop :=
  ∃ A c, e = .returned (.tuple #[.slice A (8 + zs.length) c, .int .i64 0]) ∧ Reads w' w'.heap.size 1 A (8 + zs.length) (nums .u8 (frm smZ zs)) ∧ Below w.heap.size w w' ∧ 8 + zs.length ≤ c ∧ c ≤ maxLen
set_option maxHeartbeats 400000 in
theorem fput_ok (A : Option Addr) (n c : Nat) (zs : List Int) (w : World) (ht : Tab w) (hn : n ≤ 60000) (hr : Reads w w.heap.size 1 A n (nums .u8 zs)) (hz : ∀ z ∈ zs, 0 ≤ z ∧ z < 256) :
    Calls Tryd.prog 40 #[.slice A n c] w (FPut zs w) := by
  have hl : zs.length = n := by have := hr.1; simpa [nums] using this
  have HR := Lib.hid hr
  have HZ := Lib.hid hz
  have HL := Lib.hid hl
  have HT := Lib.hid ht
  clear hr hz hl ht
  have hsz := size_in (n : Int) w (by omega) (by omega)
  have hmk : ∀ w, (Instr.makeSlice 23 (.int .i64 0) (.int .i64 (4 + (n : Int) + 4))).run Tryd.prog w = .ok (.slice (some ⟨w.heap.size, 0, none⟩) 0 (n + 8)) (w.alloc (.cells (nums .u8 (List.replicate (n + 8) 0)).toArray 5)) := by
    intro w
    have := make_cap (n + 8) (by omega) w
    rw [show (4 + (n : Int) + 4) = ((n + 8 : Nat) : Int) by omega]
    exact this
  go_enter Tryd.func40, Tryd.ntmps40
  go_wp2_with fail
  refine hsz.mono ?_
  rintro e w' ⟨rfl, rfl⟩
  go_wp2_with (at_builtin; refine wpl_bytes rfl (.tmp 14) (.tmp 23) rfl w.heap.size _ 0 [] rfl ?o1 (w.heap.size + 2) _ 4 4 (181 :: be 3 (n : Int)) rfl ?r1 ?c1 ?c2 ?_)
  case o1 => exact (own_cap w w.heap.size 5 .u8 (List.replicate (n + 8) 0) (n + 8) _ rfl (Nat.le_refl _) (by simp) (by unfold maxLen; omega)).alloc _
  case r1 =>
    have := reads_new (w.alloc (.cells (nums .u8 (List.replicate (n + 8) 0)).toArray 5)) (nums .u8 [181, (n : Int) / 65536, (n : Int) / 256, (n : Int) % 256]) 5 (0, 0) 4 (w.heap.size + 1) (w.heap.size + 2) (by simp) rfl (by omega)
    rw [← be3_head n hn]
    exact this
  case c1 => omega
  case c2 => simp; omega
  intro A1 c1 w1 hown1 hgr1 hb1 hor1
  try simp only [Nat.zero_add, List.nil_append] at hown1
  have hbA : Below w.heap.size w w1 := (((Below.refl _ _).alloc (Nat.le_refl _) _).alloc (by simp) _).trans hb1
  have hr1 := HR.out.below hbA
  have hs1 := hbA.size
  clear hgr1 hor1 hmk hb1
  have HBA := Lib.hid hbA
  clear hbA
  go_wp2_with (at_builtin; refine wpl_bytes rfl (.tmp 25) (.tmp 26) rfl w.heap.size _ 4 (181 :: be 3 (n : Int)) rfl hown1 w.heap.size A n c zs rfl hr1 ?c3 ?c4 ?_)
  case c3 => omega
  case c4 => exact hs1
  intro A2 c2 w2 hown2 hgr2 hb2 hor2
  have hbB := HBA.out.trans hb2
  have e2 : 181 :: (be 3 (n : Int) ++ zs) = fhd zs := by rw [← HL.out]; rfl
  rw [e2] at hown2
  have cs := sum_any A2 (4 + n) c2 (fhd zs) w2 (HT.out.below hbB (Nat.le_refl _)) (own_reads hown2) (fhd_bytes zs HZ.out) (by omega)
  have hs2 := hbB.size
  obtain ⟨r, hr⟩ : ∃ r, Crc.more 0#32 (fhd zs) = r := ⟨_, rfl⟩
  rw [hr] at cs
  have HRR := Lib.hid hr
  have HBB := Lib.hid hbB
  have HO2 := Lib.hid hown2
  have hrl := r.isLt
  clear hgr2 hor2 hb2 hbB e2 hown1 hown2 hr1 hr
  go_wp2_with fail
  refine cs.mono ?_
  rintro e w' ⟨rfl, rfl⟩
  go_wp2_with (at_builtin; refine wpl_bytes rfl (.tmp 30) (.tmp 42) rfl w.heap.size _ (4 + n) (fhd zs) rfl ?o3 (w2.heap.size + 1) _ 4 4 (bytesZ r) rfl ?r3 ?c5 ?c6 ?_)
  case o3 => exact HO2.out.alloc _
  case r3 => exact reads_new w2 (nums .u8 (bytesZ r)) 5 (0, 0) 4 _ _ rfl rfl (by omega)
  case c5 => omega
  case c6 => simp; omega
  intro A3 c3 w3 hown3 hgr3 hb3 hor3
  have hbC := HBB.out.trans (((Below.refl _ _).alloc hs2 _).trans hb3)
  have e3 : fhd zs ++ bytesZ r = frm smZ zs := by rw [← HRR.out]; rfl
  rw [e3] at hown3
  have e4 : 4 + n + 4 = 8 + zs.length := by rw [HL.out]; omega
  rw [e4] at hown3
  have HC := Lib.hid hbC
  have HO3 := Lib.hid hown3
  have E4 := Lib.hid e4
  clear hgr3 hor3 hb3 hbC e3 e4 hown3
  go_wp2
  rw [E4.out]
  go_ret2
  exact ⟨A3, c3, rfl, own_reads HO3.out, HC.out, own_bd HO3.out⟩
end Go.Proofs.YtlohbkcedpkjaaaDoor
/-
  The reference's Put of package frame, walked.
-/
namespace Go.Proofs.YtlohbkcedpkjaaaDoor
open Go.RowKit
open Byts Fram
set_option linter.unusedVariables false
theorem div256 (r : Crc.W32) (j : Nat) : (r.toNat : Int) / 256 ^ j / 256 = (r.toNat : Int) / 256 ^ (j + 1) := by
  rw [Int.ediv_ediv_of_nonneg (Int.pow_nonneg (by decide)), Int.pow_succ]
theorem bytesZ_shr' (r : Crc.W32) (k : Nat) (h : k < 4) : (bytesZ r).getD k 0 = (r.toNat : Int) / 256 ^ k % 256 := by
  have hr := r.isLt
  have hk : k = 0 ∨ k = 1 ∨ k = 2 ∨ k = 3 := by omega
  rcases hk with rfl | rfl | rfl | rfl
  · simp [bytesZ]
  · simp [bytesZ]
  · simp [bytesZ]
  · simp [bytesZ]; omega
theorem bytesZ_succ (r : Crc.W32) (j : Nat) (h : j < 4) : (bytesZ r).take (j + 1) = (bytesZ r).take j ++ [(r.toNat : Int) / 256 ^ j % 256] := by
  have e := bytesZ_shr' r j h
  have hl : j < (bytesZ r).length := h
  rw [List.take_add_one, List.getElem?_eq_getElem hl]
  have : (bytesZ r)[j] = (bytesZ r).getD j 0 := by simp [List.getD, hl]
  rw [this, e]
  rfl
/-- what the reference's Put leaves: a row of its own -/
def FRef (zs : List Int) (w : World) (e : Ending) (w' : World) : Prop :=
  ∃ A c, e = .returned (.slice A (8 + zs.length) c) ∧ w'.ownsRow w.heap.size 5 1 (.slice A (8 + zs.length) c) (8 + zs.length) (nums .u8 (frm smZ zs)) ∧ Below w.heap.size w w'
set_option maxHeartbeats 800000 in
theorem frefput_any (A : Option Addr) (n c : Nat) (zs : List Int) (w : World) (hn : n ≤ 60000) (hr : Reads w w.heap.size 1 A n (nums .u8 zs)) (hz : ∀ z ∈ zs, 0 ≤ z ∧ z < 256) :
    Calls Tryd.prog 44 #[.slice A n c] w (FRef zs w) := by
  have hl : zs.length = n := by have := hr.1; simpa [nums] using this
  have HR := Lib.hid hr
  have HZ := Lib.hid hz
  have HL := Lib.hid hl
  clear hr hz hl
  go_enter Tryd.func44, Tryd.ntmps44
  go_wp2_with fail
  refine (high09_any 3 (n : Int) _ (by omega) (by omega) (by omega)).mono ?_
  rintro e w1 ⟨rfl, hb1, hbe1, hs1⟩
  have hbA : Below w.heap.size w w1 := ((Below.refl _ _).alloc (Nat.le_refl _) _).trans (hbe1.mono (by simp))
  have hz1 : w1.heap.size = w.heap.size + 2 := by rw [hs1]; simp
  have ho1 : w1.ownsRow w.heap.size 5 1 (.slice (some ⟨w.heap.size, 0, none⟩) 1 1) 1 (nums .u8 [181]) :=
    (own_new w w.heap.size 5 .u8 [181] 1 _ rfl (Nat.le_refl _) rfl (by decide)).kept (row := none) ⟨hbe1.os, hbe1.tape, hbe1.output, hbe1.size, fun k hk _ => hbe1.block k hk⟩ (.inr (by simp [Value.ownBlock]))
  have hrd := hb1.reads 0 3 (by rw [be_length]; omega)
  rw [List.drop_zero, List.take_of_length_le (by rw [be_length]; exact Nat.le_refl _)] at hrd
  have HBA := Lib.hid hbA
  have HZ1 := Lib.hid hz1
  clear hb1 hbe1 hs1 hbA hz1
  go_wp2_with (at_builtin; refine wpl_bytes rfl (.tmp 6) (.tmp 10) rfl w.heap.size _ 1 [181] rfl ho1 w1.heap.size (some ⟨w.heap.size + 1, 0, none⟩) 3 3 (be 3 (n : Int)) rfl ?r1 ?c1 ?c2 ?_)
  case r1 => simpa using hrd
  case c1 => omega
  case c2 => have := HZ1.out; omega
  intro A1 c1 w2 hown1 hgr1 hb2 hor1
  have hbB := HBA.out.trans hb2
  have hs2 := hbB.size
  have hr2 := HR.out.below hbB
  have HBB := Lib.hid hbB
  clear hgr1 hor1 hb2 hbB ho1 hrd
  go_wp2_with (at_builtin; refine wpl_bytes rfl (.tmp 11) (.tmp 12) rfl w.heap.size _ (1 + 3) ([181] ++ be 3 (n : Int)) rfl ?o2 w.heap.size A n c zs rfl hr2 ?c3 ?c4 ?_)
  case o2 => exact hown1
  case c3 => omega
  case c4 => exact hs2
  intro A2 c2 w3 hown2 hgr2 hb3 hor2
  have hbC := HBB.out.trans hb3
  have hs3 := hbC.size
  have e2 : nums .u8 ([181] ++ be 3 (n : Int) ++ zs) = nums .u8 (fhd zs) := by rw [← HL.out]; rfl
  have hown3 : w3.ownsRow w.heap.size 5 1 (.slice A2 (4 + n) c2) (4 + n) (nums .u8 (fhd zs)) := by rw [← e2]; exact hown2
  have cs := refsum_any A2 (4 + n) c2 (fhd zs) w3 (own_reads hown3) (fhd_bytes zs HZ.out) (by omega)
  obtain ⟨r, hr⟩ : ∃ r, Crc.more 0#32 (fhd zs) = r := ⟨_, rfl⟩
  rw [hr] at cs
  have HRR := Lib.hid hr
  have HBC := Lib.hid hbC
  have HO3 := Lib.hid hown3
  have hrl := r.isLt
  clear hgr2 hor2 hb3 hbC e2 hown1 hown2 hown3 hr2 hr
  go_wp2_with fail
  refine cs.mono ?_
  rintro e w' ⟨rfl, rfl⟩
  go_wp2_with fail
  go_loopw [3, 4, 5] (fun s x i wr => ∃ (j : Nat) (A3 : Option Addr) (c3 : Nat), j ≤ 4 ∧ i = .int .i64 j ∧ x = .int .u32 ((r.toNat : Int) / 256 ^ j) ∧ s = .slice A3 (4 + n + j) c3 ∧ wr.ownsRow w.heap.size 5 1 (.slice A3 (4 + n + j) c3) (4 + n + j) (nums .u8 (fhd zs ++ (bytesZ r).take j)) ∧ Below w.heap.size w wr) (fun _ _ i _ => 4 - (intOf i).toNat)
  case atStart => exact ⟨0, A2, c2, by omega, rfl, by simp, rfl, by simpa using HO3.out, HBC.out⟩
  case round =>
    obtain ⟨j, A3, c3, hj, rfl, rfl, rfl, hown, hbel⟩ := hrel
    have hsz := hbel.size
    by_cases hlt : j < 4
    · have hd := Lib.hid (div256 r j)
      have y0 : 0 ≤ (r.toNat : Int) / 256 ^ j := Int.ediv_nonneg (by omega) (Int.pow_nonneg (by decide))
      have y1 : (r.toNat : Int) / 256 ^ j ≤ 4294967295 := Int.le_trans (Int.ediv_le_self _ (by omega)) (by omega)
      have hbs := Lib.hid (bytesZ_succ r j hlt)
      have HB := Lib.hid hbel
      clear hbel
      generalize (r.toNat : Int) / 256 ^ j = y at y0 y1 hd hbs
      go_wp2_with (at_builtin; refine wpl_bytes rfl (.tmp 20) (.tmp 24) rfl w.heap.size _ (4 + n + j) (fhd zs ++ (bytesZ r).take j) rfl ?o4 (wr.heap.size + 1) (some ⟨wr.heap.size, 0, none⟩) 1 1 [y % 256] rfl ?r4 ?c7 ?c8 ?_)
      case o4 => exact hown.alloc _
      case r4 => exact reads_new wr (nums .u8 [y % 256]) 5 (0, 0) 1 _ _ rfl rfl (by omega)
      case c7 => omega
      case c8 => simp; omega
      intro A4 c4 w4 hown4 hgr4 hb4 hor4
      try rw [List.append_assoc] at hown4
      rw [← hbs.out] at hown4
      have hbD := Lib.hid (HB.out.trans (((Below.refl _ _).alloc hsz _).trans hb4))
      have HO4 := Lib.hid hown4
      clear hgr4 hor4 hb4 hown4 hown
      go_wp2_with fail
      go_roundw
      case rel => exact ⟨j + 1, A4, c4, by omega, by go_num, by rw [hd.out], rfl, HO4.out, hbD.out⟩
      case measure => simp [intOf]; omega
    · obtain rfl : j = 4 := by omega
      have e3 : nums .u8 (fhd zs ++ (bytesZ r).take 4) = nums .u8 (frm smZ zs) := by
        rw [show (bytesZ r).take 4 = bytesZ r from rfl, ← HRR.out]; rfl
      rw [e3, show 4 + n + 4 = 8 + zs.length by rw [HL.out]; omega] at hown
      have HO4 := Lib.hid hown
      have HB := Lib.hid hbel
      have E4 := Lib.hid (show 4 + n + 4 = 8 + zs.length by rw [HL.out]; omega)
      clear hown hbel e3
      go_wp2
      rw [E4.out]
      go_ret
      exact ⟨A3, c3, rfl, HO4.out, HB.out⟩
end Go.Proofs.YtlohbkcedpkjaaaDoor
/-
  Package frame: length and Get, walked; its reference's Get.
-/
namespace Go.Proofs.YtlohbkcedpkjaaaDoor
open Go.RowKit
open Byts Fram
set_option linter.unusedVariables false
/-- the length, as far as it has been read -/
def pz (zs : List Int) (k : Nat) : Int := if k ≤ 1 then 0 else if k = 2 then zs.getD 1 0 else if k = 3 then zs.getD 1 0 * 256 + zs.getD 2 0 else nZ zs
theorem pz_succ (zs : List Int) (k : Nat) (h1 : 1 ≤ k) (h : k < 4) : pz zs (k + 1) = pz zs k * 256 + zs.getD k 0 := by
  have hk : k = 1 ∨ k = 2 ∨ k = 3 := by omega
  rcases hk with rfl | rfl | rfl <;> simp [pz, nZ]
theorem pz_bd (zs : List Int) (hz : ∀ z ∈ zs, 0 ≤ z ∧ z < 256) (k : Nat) (h : k < 4) : 0 ≤ pz zs k ∧ pz zs k < 65536 := by
  have b1 := getD_nn hz 1
  have b2 := getD_nn hz 2
  unfold pz
  split
  · omega
  · split
    · omega
    · split
      · omega
      · omega
theorem or64_low (a b : Int) (ha : 0 ≤ a) (ha1 : a < 65536) (hb : 0 ≤ b ∧ b < 256) : bits .or .i64 (a * 256) b = a * 256 + b := by
  obtain ⟨a, rfl⟩ := Int.eq_ofNat_of_zero_le ha
  obtain ⟨b, rfl⟩ := Int.eq_ofNat_of_zero_le hb.1
  have h := i64_or_nat (a * 256) b (by omega) (by omega)
  rw [show (((a * 256 : Nat) : Nat) : Int) = (a : Int) * 256 by omega] at h
  rw [h, show a * 256 = 2 ^ 8 * a by omega, ← Nat.two_pow_add_eq_or_of_lt (show b < 2 ^ 8 by omega)]
  omega
theorem getD_cell {w : World} {B n cap : Nat} {A : Option Addr} {zs : List Int} (hr : Reads w B 1 A n (nums .u8 zs)) {k : Nat} (hk : k < n) : ∃ b off, A = some ⟨b, off, none⟩ ∧ w.cell? ⟨b, off + k, none⟩ = some (.int .u8 (zs.getD k 0)) := by
  obtain ⟨b, off, u, rfl, _, hu, hc⟩ := hr.at_ hk
  obtain ⟨z, hz, rfl⟩ := nums_at hu
  exact ⟨b, off, rfl, by rw [hc]; simp [List.getD, hz]⟩
set_option maxHeartbeats 400000 in
theorem length_bad (A : Option Addr) (n c : Nat) (zs : List Int) (w : World) (hr : Reads w w.heap.size 1 A n (nums .u8 zs)) (hn : n ≤ 9223372036854775807) (h0 : n ≠ 0) (h1 : zs.getD 0 0 ≠ 181) :
    Calls Tryd.prog 42 #[.slice A n c] w fun e w' => e = .returned (.tuple #[.int .i64 0, .bool false]) ∧ w = w' := by
  obtain ⟨b, off, rfl, hc⟩ := getD_cell (cap := c) hr (k := 0) (by omega)
  have ht : (zs.getD 0 0 != 181) = true := by rw [bne_iff_ne]; exact h1
  have h0' : 0 < n := by omega
  generalize zs.getD 0 0 = z at hc ht
  rw [Nat.add_zero] at hc
  clear h1 hr h0
  go_enter Tryd.func42, Tryd.ntmps42
  go_wp2_with fail
  go_ret2
  exact ⟨rfl, rfl⟩
set_option maxHeartbeats 400000 in
theorem length_good (A : Option Addr) (n c : Nat) (zs : List Int) (w : World) (hr : Reads w w.heap.size 1 A n (nums .u8 zs)) (hz : ∀ z ∈ zs, 0 ≤ z ∧ z < 256) (hn : n ≤ 9223372036854775807) (h1 : n = 0 ∨ zs.getD 0 0 = 181) :
    Calls Tryd.prog 42 #[.slice A n c] w fun e w' => e = .returned (.tuple #[.int .i64 (nZ zs), .bool (decide (nZ zs ≤ 60000))]) ∧ w = w' := by
  have hl : zs.length = n := by have := hr.1; simpa [nums] using this
  have HR := Lib.hid hr
  have HZ := Lib.hid hz
  have HL := Lib.hid hl
  clear hr hz hl
  have key : ∀ (pre : Hid True), Calls Tryd.prog 42 #[.slice A n c] w fun e w' => e = .returned (.tuple #[.int .i64 (pz zs 4), .bool (decide (pz zs 4 ≤ 60000))]) ∧ w = w' := by
    intro _
    go_enter Tryd.func42, Tryd.ntmps42
    go_upto_region 1 with fail
    go_cut [14] (fun v wx => v = .bool false ∧ w = wx)
    case first =>
      rcases Nat.eq_zero_or_pos n with h0 | h0
      · subst h0
        go_wp2_with fail
        go_meet
        exact ⟨rfl, rfl⟩
      · have h2 := h1.resolve_left (by omega)
        obtain ⟨b, off, rfl, hc⟩ := getD_cell (cap := c) HR.out (k := 0) h0
        rw [h2, Nat.add_zero] at hc
        clear h1 h2
        go_wp2_with fail
        go_meet
        exact ⟨rfl, rfl⟩
    case rest =>
      obtain ⟨rfl, rfl⟩ := hcut
      go_wp2_with fail
      go_loop [4, 5] (fun v i => ∃ k : Nat, 1 ≤ k ∧ k ≤ 4 ∧ i = .int .i64 k ∧ v = .int .i64 (pz zs k)) (fun _ i => 4 - (intOf i).toNat)
      case atStart => exact ⟨1, by omega, by omega, rfl, rfl⟩
      case round =>
        obtain ⟨k, hk1, hk, rfl, rfl⟩ := hrel
        by_cases hlt : k < 4
        · obtain ⟨b0, b1⟩ := pz_bd zs HZ.out k hlt
          have hs := Lib.hid (pz_succ zs k hk1 hlt)
          generalize pz zs k = x at b0 b1 hs
          by_cases hkn : k < n
          · obtain ⟨b, off, rfl, hc⟩ := getD_cell (cap := c) HR.out hkn
            have hzb := getD_nn HZ.out k
            generalize zs.getD k 0 = z at hc hzb hs
            have ho := Lib.hid (or64_low x z b0 b1 hzb)
            obtain ⟨z0, z1⟩ := hzb
            go_wp2_with fail
            go_round
            case rel => exact ⟨k + 1, by omega, by omega, by go_num, by rw [hs.out, ho.out]⟩
            case measure => simp [intOf]; omega
          · have hz0 : zs.getD k 0 = 0 := by simp [List.getD, List.getElem?_eq_none (show zs.length ≤ k by rw [HL.out]; omega)]
            have hs2 := Lib.hid (show pz zs (k + 1) = x * 256 by rw [hs.out, hz0]; omega)
            clear hz0
            go_wp2_with fail
            go_round
            case rel => exact ⟨k + 1, by omega, by omega, by go_num, by rw [hs2.out]⟩
            case measure => simp [intOf]; omega
        · obtain rfl : k = 4 := by omega
          obtain ⟨x, hx⟩ : ∃ x, pz zs 4 = x := ⟨_, rfl⟩
          rw [hx]
          have HX := Lib.hid hx
          clear hx
          go_wp2_with fail
          go_ret2
          exact ⟨by rw [HX.out]; rfl, rfl⟩
  exact key (Lib.hid trivial)
/-- what Get leaves -/
def FGet (zs : List Int) (w : World) (e : Ending) (w' : World) : Prop :=
  ∃ A c, e = .returned (.tuple #[.slice A (gB smZ zs).length c, .int .i64 (gN smZ zs), .int .i64 (gE smZ zs)]) ∧ Reads w' w'.heap.size 1 A (gB smZ zs).length (nums .u8 (gB smZ zs)) ∧ Below w.heap.size w w'
theorem FGet_bad {zs : List Int} {w w' : World} {c : Int} (hc : c ≠ 0) (he : gE smZ zs = c) (hb : Below w.heap.size w w') : FGet zs w (.returned (.tuple #[.slice none 0 0, .int .i64 0, .int .i64 c])) w' := by
  have e1 : gB smZ zs = [] := by unfold gB; rw [if_neg (by rw [he]; exact hc)]
  have e2 : gN smZ zs = 0 := by unfold gN; rw [if_neg (by rw [he]; exact hc)]
  refine ⟨none, 0, ?_, ?_, hb⟩
  · rw [e1, e2, he]; rfl
  · rw [e1]; exact Reads.none_
set_option maxHeartbeats 400000 in
theorem fget_form (A : Option Addr) (n c : Nat) (zs : List Int) (w : World) (hr : Reads w w.heap.size 1 A n (nums .u8 zs)) (hz : ∀ z ∈ zs, 0 ≤ z ∧ z < 256) (hn : n ≤ 9223372036854775807) (h : (n ≠ 0 ∧ zs.getD 0 0 ≠ 181) ∨ ((n = 0 ∨ zs.getD 0 0 = 181) ∧ 60000 < nZ zs)) :
    Calls Tryd.prog 20 #[.slice A n c] w (FGet zs w) := by
  have hl : zs.length = n := by have := hr.1; simpa [nums] using this
  have he : gE smZ zs = 6 := by
    unfold gE
    rcases h with h | h
    · rw [if_pos (by rw [hl]; exact h)]
    · rw [if_neg (by rw [hl]; intro h'; rcases h.1 with h1 | h1; exact h'.1 h1; exact h'.2 h1), if_pos h.2]
  have HE := Lib.hid he
  rcases h with h | h
  · have hc := length_bad A n c zs w hr hn h.1 h.2
    clear hr hz h he hl
    go_enter Tryd.func20, Tryd.ntmps20
    go_wp2_with fail
    refine hc.mono ?_
    rintro e w' ⟨rfl, rfl⟩
    go_wp2_with fail
    go_ret3
    exact FGet_bad (by decide) HE.out (Below.refl _ _)
  · have hc := length_good A n c zs w hr hz hn h.1
    have hd : decide (nZ zs ≤ 60000) = false := by simp; exact h.2
    rw [hd] at hc
    generalize nZ zs = x at hc
    clear hr hz h he hl hd
    go_enter Tryd.func20, Tryd.ntmps20
    go_wp2_with fail
    refine hc.mono ?_
    rintro e w' ⟨rfl, rfl⟩
    go_wp2_with fail
    go_ret3
    exact FGet_bad (by decide) HE.out (Below.refl _ _)
set_option maxHeartbeats 400000 in
theorem fget_short (A : Option Addr) (n c : Nat) (zs : List Int) (w : World) (hr : Reads w w.heap.size 1 A n (nums .u8 zs)) (hz : ∀ z ∈ zs, 0 ≤ z ∧ z < 256) (hn : n ≤ 9223372036854775807) (h1 : n = 0 ∨ zs.getD 0 0 = 181) (h2 : nZ zs ≤ 60000) (h3 : (n : Int) < 8 + nZ zs) :
    Calls Tryd.prog 20 #[.slice A n c] w (FGet zs w) := by
  have hl : zs.length = n := by have := hr.1; simpa [nums] using this
  have he : gE smZ zs = 5 := by
    unfold gE
    rw [if_neg (by rw [hl]; intro h'; rcases h1 with h1 | h1; exact h'.1 h1; exact h'.2 h1), if_neg (by omega), if_pos (by rw [hl]; exact h3)]
  have HE := Lib.hid he
  have hc := length_good A n c zs w hr hz hn h1
  have hd : decide (nZ zs ≤ 60000) = true := by simp; exact h2
  rw [hd] at hc
  obtain ⟨x0, x1⟩ := nZ_nn hz
  generalize nZ zs = x at hc h2 h3 x0 x1
  have hs := size_in x w x0 h2
  clear hr hz h1 he hl hd
  by_cases h4 : n < 4
  · go_enter Tryd.func20, Tryd.ntmps20
    go_wp2_with fail
    refine hc.mono ?_
    rintro e w' ⟨rfl, rfl⟩
    go_wp2_with fail
    go_ret3
    exact FGet_bad (by decide) HE.out (Below.refl _ _)
  · go_enter Tryd.func20, Tryd.ntmps20
    go_wp2_with fail
    refine hc.mono ?_
    rintro e w' ⟨rfl, rfl⟩
    go_wp2_with fail
    refine hs.mono ?_
    rintro e w' ⟨rfl, rfl⟩
    go_wp2_with fail
    go_ret3
    exact FGet_bad (by decide) HE.out (Below.refl _ _)
end Go.Proofs.YtlohbkcedpkjaaaDoor
/-
  Package frame: Get where the bytes are long enough, walked.
-/
namespace Go.Proofs.YtlohbkcedpkjaaaDoor
open Go.RowKit
open Byts Fram
set_option linter.unusedVariables false
theorem tail_at (zs : List Int) (m j : Nat) (hj : j < 4) (h : m + 4 ≤ zs.length) : ((zs.drop m).take 4)[j]? = some (zs.getD (m + j) 0) := by
  rw [List.getElem?_take, if_pos hj, List.getElem?_drop]
  simp [List.getD, show m + j < zs.length by omega]
theorem bytesZ_at (r : Crc.W32) (j : Nat) (hj : j < 4) : (bytesZ r)[j]? = some ((bytesZ r).getD j 0) := by
  simp [List.getD, show j < (bytesZ r).length from hj]
theorem tail_ne (zs : List Int) (m j : Nat) (r : Crc.W32) (hj : j < 4) (h : m + 4 ≤ zs.length) (hne : zs.getD (m + j) 0 ≠ (bytesZ r).getD j 0) : (zs.drop m).take 4 ≠ bytesZ r := by
  intro he
  have := tail_at zs m j hj h
  rw [he, bytesZ_at r j hj] at this
  injection this with this
  exact hne this.symm
theorem tail_eq (zs : List Int) (m : Nat) (r : Crc.W32) (h : m + 4 ≤ zs.length) (he : ∀ j, j < 4 → zs.getD (m + j) 0 = (bytesZ r).getD j 0) : (zs.drop m).take 4 = bytesZ r := by
  apply List.ext_getElem?
  intro j
  rcases Nat.lt_or_ge j 4 with hj | hj
  · rw [tail_at zs m j hj h, bytesZ_at r j hj, he j hj]
  · rw [List.getElem?_eq_none (by simp; omega), List.getElem?_eq_none (by exact hj)]
set_option maxHeartbeats 800000 in
theorem fget_main (A : Option Addr) (n c : Nat) (zs : List Int) (w : World) (ht : Tab w) (hr : Reads w w.heap.size 1 A n (nums .u8 zs)) (hz : ∀ z ∈ zs, 0 ≤ z ∧ z < 256) (hnc : n ≤ c) (hc0 : c ≤ 9223372036854775807) (h1 : n = 0 ∨ zs.getD 0 0 = 181) (h2 : nZ zs ≤ 60000) (h3 : 8 + nZ zs ≤ (n : Int)) :
    Calls Tryd.prog 20 #[.slice A n c] w (FGet zs w) := by
  have hl : zs.length = n := by have := hr.1; simpa [nums] using this
  have hc := length_good A n c zs w hr hz (by omega) h1
  have hd : decide (nZ zs ≤ 60000) = true := by simp; exact h2
  rw [hd] at hc
  obtain ⟨x0, x1⟩ := nZ_nn hz
  have hgE : gE smZ zs = if (zs.drop (4 + (nZ zs).toNat)).take 4 ≠ smZ (zs.take (4 + (nZ zs).toNat)) then 13 else 0 := by
    unfold gE
    rw [if_neg (by rw [hl]; intro h'; rcases h1 with h1 | h1; exact h'.1 h1; exact h'.2 h1), if_neg (by omega), if_neg (by rw [hl]; omega)]
  obtain ⟨m, hm⟩ := Int.eq_ofNat_of_zero_le x0
  rw [hm, Int.toNat_natCast] at hgE
  have HGB : Hid (gE smZ zs = 0 → gB smZ zs = (zs.drop 4).take m ∧ gN smZ zs = 8 + (m : Int)) := Lib.hid (by
    intro h
    unfold gB gN
    rw [if_pos h, if_pos h, hm, Int.toNat_natCast]
    exact ⟨rfl, rfl⟩)
  rw [hm] at hc h2 h3
  have hm8 : 8 + m ≤ n := by omega
  have hm6 : m ≤ 60000 := by omega
  have hs := fun w' => size_in (m : Int) w' (by omega) h2
  have cs := sum_any A (4 + m) c (zs.take (4 + m)) w ht (by
    have := hr.first (k := 4 + m) (by omega)
    rw [Nat.mul_one] at this
    have e : (nums .u8 zs).take (4 + m) = nums .u8 (zs.take (4 + m)) := by simp [nums]
    rwa [e] at this) (fun z h => hz z (List.mem_of_mem_take h)) (by omega)
  obtain ⟨r, hr0⟩ : ∃ r, Crc.more 0#32 (zs.take (4 + m)) = r := ⟨_, rfl⟩
  have hsm : smZ (zs.take (4 + m)) = bytesZ r := by unfold smZ; rw [hr0]
  rw [hr0] at cs
  rw [hsm] at hgE
  have HE := Lib.hid hgE
  have HR := Lib.hid hr
  have HZ := Lib.hid hz
  have HL := Lib.hid hl
  have HS := Lib.hid hs
  have hrl := r.isLt
  clear hr hz h1 hl hd hgE hsm hr0 hm hs ht x0 x1 h2 h3
  go_enter Tryd.func20, Tryd.ntmps20
  go_wp2_with fail
  refine hc.mono ?_
  rintro e w' ⟨rfl, rfl⟩
  go_wp2_with fail
  refine (HS.out _).mono ?_
  rintro e w' ⟨rfl, rfl⟩
  go_wp2_with fail
  refine cs.mono ?_
  rintro e w' ⟨rfl, rfl⟩
  clear hc cs
  go_wp2_with fail
  go_loopw [8, 31] (fun _ i wr => ∃ k : Nat, k ≤ 4 ∧ i = .int .i64 k ∧ Hid (∀ j, j < k → zs.getD (4 + m + j) 0 = (bytesZ r).getD j 0) ∧ Below w.heap.size w wr) (fun _ i _ => 4 - (intOf i).toNat)
  case atStart => exact ⟨0, by omega, rfl, Lib.hid (fun j hj => absurd hj (by omega)), Below.refl _ _⟩
  case round =>
    obtain ⟨k, hk, rfl, HP, hbel⟩ := hrel
    have HB := Lib.hid hbel
    clear hbel
    by_cases hlt : k < 4
    · obtain ⟨b, off, rfl, hcell⟩ := getD_cell (cap := c) (HR.out.below HB.out) (k := 4 + m + k) (by omega)
      have hsh := Lib.hid (bytesZ_shr r k hlt)
      have hzb := getD_nn HZ.out (4 + m + k)
      have i0 : (0 : Int) ≤ 4 + (m : Int) + (k : Int) := by omega
      have i1 : 4 + (m : Int) + (k : Int) < (n : Int) := by omega
      have y0 : 0 ≤ (r.toNat : Int) / 2 ^ (8 * k) := Int.ediv_nonneg (by omega) (Int.pow_nonneg (by decide))
      have HNe := fun hne => tail_ne zs (4 + m) k r hlt (by rw [HL.out]; omega) hne
      obtain ⟨z, hzk⟩ : ∃ z, zs.getD (4 + m + k) 0 = z := ⟨_, rfl⟩
      rw [hzk] at hcell hzb HNe
      have HNE := Lib.hid HNe
      have HZk := Lib.hid hzk
      clear hzk HNe
      by_cases heq : z = (bytesZ r).getD k 0
      · have HQ := Lib.hid heq
        rw [hsh.out] at heq
        have ht : (z != ((r.toNat : Int) / 2 ^ (8 * k) % 256)) = false := by rw [heq]; simp
        clear heq
        go_wp2_with fail
        go_quiet (fail)
        go_wp2_with fail
        go_roundw
        case rel =>
          refine ⟨k + 1, by omega, by go_num, Lib.hid (fun j hj => ?_), below_drewN HB.out _⟩
          rcases Nat.lt_or_ge j k with h | h
          · exact HP.out j h
          · obtain rfl : j = k := by omega
            rw [HZk.out, HQ.out]
        case measure => simp [intOf]; omega
      · have hbad : gE smZ zs = 13 := by rw [HE.out, if_pos (HNE.out heq)]
        have HBad := Lib.hid hbad
        have ht : (z != ((r.toNat : Int) / 2 ^ (8 * k) % 256)) = true := by rw [bne_iff_ne, ← hsh.out]; exact heq
        clear heq hbad
        go_wp2_with fail
        go_quiet (fail)
        go_wp2_with fail
        go_ret3
        exact FGet_bad (by decide) HBad.out (below_drewN HB.out _)
    · obtain rfl : k = 4 := by omega
      have hok : gE smZ zs = 0 := by
        rw [HE.out, if_neg]
        intro h
        exact h (tail_eq zs (4 + m) r (by rw [HL.out]; omega) HP.out)
      obtain ⟨e1, e2⟩ := HGB.out hok
      have hcr := (HR.out.below HB.out).cut (k := 4) (cap := c) (by omega) hnc
      have hcr2 := hcr.first (k := m) (by omega)
      have ed : ((nums .u8 zs).drop (4 * 1)).take (m * 1) = nums .u8 ((zs.drop 4).take m) := by simp [nums]
      rw [ed, Nat.mul_one] at hcr2
      have hA3 : (if c = 4 then A else A.map (·.add (4 * 1))) = Option.map (fun x : Addr => ({ block := x.block, off := x.off + 4 } : Addr)) A := by rw [if_neg (by omega)]; rfl
      have hm4 := Lib.hid (show 4 + m - 4 = m by omega)
      rw [hA3] at hcr2
      have HC2 := Lib.hid hcr2
      have HOk := Lib.hid hok
      have E1 := Lib.hid e1
      have E2 := Lib.hid e2
      have hws := HB.out.size
      clear hok e1 e2 hcr hcr2 ed HP hA3
      go_wp2_with (at_builtin; refine wpl_bytes rfl (.const (.slice none 0 0)) (.tmp 51) rfl w.heap.size (.slice none 0 0) 0 [] rfl (World.ownsRow_nil _ _ _ _) w.heap.size (Option.map (fun x : Addr => ({ block := x.block, off := x.off + 4 } : Addr)) A) (4 + m - 4) (c - 4) ((zs.drop 4).take m) rfl ?r1 ?c1 ?c2 ?_)
      case r1 => rw [hm4.out]; exact HC2.out
      case c1 => omega
      case c2 => exact hws
      intro A4 c4 w4 hown4 hgr4 hb4 hor4
      have hbD := HB.out.trans hb4
      have HBD := Lib.hid hbD
      have HO := Lib.hid hown4
      have hs4 := HS.out w4
      clear hgr4 hor4 hb4 hown4 hbD
      go_wp2_with fail
      refine hs4.mono ?_
      rintro e w' ⟨rfl, rfl⟩
      go_wp2
      go_ret3
      have ho := HO.out
      try simp only [Nat.zero_add, List.nil_append, hm4.out] at ho
      have hlen : (gB smZ zs).length = m := by rw [E1.out]; simp [HL.out]; omega
      refine ⟨A4, c4, ?_, ?_, HBD.out⟩
      · rw [hlen, E2.out, HOk.out, show (8 : Int) + (m : Int) = 4 + (m : Int) + 4 by omega]; rfl
      · rw [hlen, E1.out]; exact own_reads ho
end Go.Proofs.YtlohbkcedpkjaaaDoor
