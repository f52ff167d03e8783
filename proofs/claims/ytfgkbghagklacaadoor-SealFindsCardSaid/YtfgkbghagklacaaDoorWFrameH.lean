/-
  Package frame: Get where the bytes are long enough, walked.
-/
import Derived.Test.YtfgkbghagklacaaDoorWFrameG
import Derived.BigQuiet
namespace Go.Proofs.YtfgkbghagklacaaDoor
open Go.RowKit
open Byts Fram
set_option linter.unusedVariables false
theorem tail_at (zs : List Int) (m j : Nat) (hj : j < 4) (h : m + 4 ≤ zs.length) : ((zs.drop m).take 4)[j]? = some (zs.getD (m + j) 0) := by
  rw [List.getElem?_take, if_pos hj, List.getElem?_drop]
  simp [List.getD, show m + j < zs.length by omega]
theorem bytesZ_at (r : Crc.W32) (j : Nat) (hj : j < 4) : (bytesZ r)[j]? = some ((bytesZ r).getD j 0) := by
  simp [List.getD, show j < (bytesZ r).length from hj]
theorem tail_ne (zs : List Int) (m j : Nat) (r : Crc.W32) (hj : j < 4) (h : m + 4 ≤ zs.length) (hne : zs.getD (m + j) 0 ≠ (bytesZ r).getD j 0) : (zs.drop m).take 4 ≠ bytesZ r := by
  intro he
  have := tail_at zs m j hj h
  rw [he, bytesZ_at r j hj] at this
  injection this with this
  exact hne this.symm
theorem tail_eq (zs : List Int) (m : Nat) (r : Crc.W32) (h : m + 4 ≤ zs.length) (he : ∀ j, j < 4 → zs.getD (m + j) 0 = (bytesZ r).getD j 0) : (zs.drop m).take 4 = bytesZ r := by
  apply List.ext_getElem?
  intro j
  rcases Nat.lt_or_ge j 4 with hj | hj
  · rw [tail_at zs m j hj h, bytesZ_at r j hj, he j hj]
  · rw [List.getElem?_eq_none (by simp; omega), List.getElem?_eq_none (by exact hj)]
set_option maxHeartbeats 800000 in
theorem fget_main (A : Option Addr) (n c : Nat) (zs : List Int) (w : World) (ht : Tab w) (hr : Reads w w.heap.size 1 A n (nums .u8 zs)) (hz : ∀ z ∈ zs, 0 ≤ z ∧ z < 256) (hnc : n ≤ c) (hc0 : c ≤ 9223372036854775807) (h1 : n = 0 ∨ zs.getD 0 0 = 181) (h2 : nZ zs ≤ 60000) (h3 : 8 + nZ zs ≤ (n : Int)) :
    Calls Tryd.prog 28 #[.slice A n c] w (FGet zs w) := by
  have hl : zs.length = n := by have := hr.1; simpa [nums] using this
  have hc := length_good A n c zs w hr hz (by omega) h1
  have hd : decide (nZ zs ≤ 60000) = true := by simp; exact h2
  rw [hd] at hc
  obtain ⟨x0, x1⟩ := nZ_nn hz
  have hgE : gE smZ zs = if (zs.drop (4 + (nZ zs).toNat)).take 4 ≠ smZ (zs.take (4 + (nZ zs).toNat)) then 13 else 0 := by
    unfold gE
    rw [if_neg (by rw [hl]; intro h'; rcases h1 with h1 | h1; exact h'.1 h1; exact h'.2 h1), if_neg (by omega), if_neg (by rw [hl]; omega)]
  obtain ⟨m, hm⟩ := Int.eq_ofNat_of_zero_le x0
  rw [hm, Int.toNat_natCast] at hgE
  have HGB : Hid (gE smZ zs = 0 → gB smZ zs = (zs.drop 4).take m ∧ gN smZ zs = 8 + (m : Int)) := Lib.hid (by
    intro h
    unfold gB gN
    rw [if_pos h, if_pos h, hm, Int.toNat_natCast]
    exact ⟨rfl, rfl⟩)
  rw [hm] at hc h2 h3
  have hm8 : 8 + m ≤ n := by omega
  have hm6 : m ≤ 60000 := by omega
  have hs := fun w' => size_in (m : Int) w' (by omega) h2
  have cs := sum_any A (4 + m) c (zs.take (4 + m)) w ht (by
    have := hr.first (k := 4 + m) (by omega)
    rw [Nat.mul_one] at this
    have e : (nums .u8 zs).take (4 + m) = nums .u8 (zs.take (4 + m)) := by simp [nums]
    rwa [e] at this) (fun z h => hz z (List.mem_of_mem_take h)) (by omega)
  obtain ⟨r, hr0⟩ : ∃ r, Crc.more 0#32 (zs.take (4 + m)) = r := ⟨_, rfl⟩
  have hsm : smZ (zs.take (4 + m)) = bytesZ r := by unfold smZ; rw [hr0]
  rw [hr0] at cs
  rw [hsm] at hgE
  have HE := Lib.hid hgE
  have HR := Lib.hid hr
  have HZ := Lib.hid hz
  have HL := Lib.hid hl
  have HS := Lib.hid hs
  have hrl := r.isLt
  clear hr hz h1 hl hd hgE hsm hr0 hm hs ht x0 x1 h2 h3
  go_enter Tryd.func28, Tryd.ntmps28
  go_wp2_with fail
  refine hc.mono ?_
  rintro e w' ⟨rfl, rfl⟩
  go_wp2_with fail
  refine (HS.out _).mono ?_
  rintro e w' ⟨rfl, rfl⟩
  go_wp2_with fail
  refine cs.mono ?_
  rintro e w' ⟨rfl, rfl⟩
  clear hc cs
  go_wp2_with fail
  go_loopw [8, 31] (fun _ i wr => ∃ k : Nat, k ≤ 4 ∧ i = .int .i64 k ∧ Hid (∀ j, j < k → zs.getD (4 + m + j) 0 = (bytesZ r).getD j 0) ∧ Below w.heap.size w wr) (fun _ i _ => 4 - (intOf i).toNat)
  case atStart => exact ⟨0, by omega, rfl, Lib.hid (fun j hj => absurd hj (by omega)), Below.refl _ _⟩
  case round =>
    obtain ⟨k, hk, rfl, HP, hbel⟩ := hrel
    have HB := Lib.hid hbel
    clear hbel
    by_cases hlt : k < 4
    · obtain ⟨b, off, rfl, hcell⟩ := getD_cell (cap := c) (HR.out.below HB.out) (k := 4 + m + k) (by omega)
      have hsh := Lib.hid (bytesZ_shr r k hlt)
      have hzb := getD_nn HZ.out (4 + m + k)
      have i0 : (0 : Int) ≤ 4 + (m : Int) + (k : Int) := by omega
      have i1 : 4 + (m : Int) + (k : Int) < (n : Int) := by omega
      have y0 : 0 ≤ (r.toNat : Int) / 2 ^ (8 * k) := Int.ediv_nonneg (by omega) (Int.pow_nonneg (by decide))
      have HNe := fun hne => tail_ne zs (4 + m) k r hlt (by rw [HL.out]; omega) hne
      obtain ⟨z, hzk⟩ : ∃ z, zs.getD (4 + m + k) 0 = z := ⟨_, rfl⟩
      rw [hzk] at hcell hzb HNe
      have HNE := Lib.hid HNe
      have HZk := Lib.hid hzk
      clear hzk HNe
      by_cases heq : z = (bytesZ r).getD k 0
      · have HQ := Lib.hid heq
        rw [hsh.out] at heq
        have ht : (z != ((r.toNat : Int) / 2 ^ (8 * k) % 256)) = false := by rw [heq]; simp
        clear heq
        go_wp2_with fail
        go_quiet (fail)
        go_wp2_with fail
        go_roundw
        case rel =>
          refine ⟨k + 1, by omega, by go_num, Lib.hid (fun j hj => ?_), below_drewN HB.out _⟩
          rcases Nat.lt_or_ge j k with h | h
          · exact HP.out j h
          · obtain rfl : j = k := by omega
            rw [HZk.out, HQ.out]
        case measure => simp [intOf]; omega
      · have hbad : gE smZ zs = 13 := by rw [HE.out, if_pos (HNE.out heq)]
        have HBad := Lib.hid hbad
        have ht : (z != ((r.toNat : Int) / 2 ^ (8 * k) % 256)) = true := by rw [bne_iff_ne, ← hsh.out]; exact heq
        clear heq hbad
        go_wp2_with fail
        go_quiet (fail)
        go_wp2_with fail
        go_ret3
        exact FGet_bad (by decide) HBad.out (below_drewN HB.out _)
    · obtain rfl : k = 4 := by omega
      have hok : gE smZ zs = 0 := by
        rw [HE.out, if_neg]
        intro h
        exact h (tail_eq zs (4 + m) r (by rw [HL.out]; omega) HP.out)
      obtain ⟨e1, e2⟩ := HGB.out hok
      have hcr := (HR.out.below HB.out).cut (k := 4) (cap := c) (by omega) hnc
      have hcr2 := hcr.first (k := m) (by omega)
      have ed : ((nums .u8 zs).drop (4 * 1)).take (m * 1) = nums .u8 ((zs.drop 4).take m) := by simp [nums]
      rw [ed, Nat.mul_one] at hcr2
      have hA3 : (if c = 4 then A else A.map (·.add (4 * 1))) = Option.map (fun x : Addr => ({ block := x.block, off := x.off + 4 } : Addr)) A := by rw [if_neg (by omega)]; rfl
      have hm4 := Lib.hid (show 4 + m - 4 = m by omega)
      rw [hA3] at hcr2
      have HC2 := Lib.hid hcr2
      have HOk := Lib.hid hok
      have E1 := Lib.hid e1
      have E2 := Lib.hid e2
      have hws := HB.out.size
      clear hok e1 e2 hcr hcr2 ed HP hA3
      go_wp2_with (at_builtin; refine wpl_bytes rfl (.const (.slice none 0 0)) (.tmp 51) rfl w.heap.size (.slice none 0 0) 0 [] rfl (World.ownsRow_nil _ _ _ _) w.heap.size (Option.map (fun x : Addr => ({ block := x.block, off := x.off + 4 } : Addr)) A) (4 + m - 4) (c - 4) ((zs.drop 4).take m) rfl ?r1 ?c1 ?c2 ?_)
      case r1 => rw [hm4.out]; exact HC2.out
      case c1 => omega
      case c2 => exact hws
      intro A4 c4 w4 hown4 hgr4 hb4 hor4
      have hbD := HB.out.trans hb4
      have HBD := Lib.hid hbD
      have HO := Lib.hid hown4
      have hs4 := HS.out w4
      clear hgr4 hor4 hb4 hown4 hbD
      go_wp2_with fail
      refine hs4.mono ?_
      rintro e w' ⟨rfl, rfl⟩
      go_wp2
      go_ret3
      have ho := HO.out
      try simp only [Nat.zero_add, List.nil_append, hm4.out] at ho
      have hlen : (gB smZ zs).length = m := by rw [E1.out]; simp [HL.out]; omega
      refine ⟨A4, c4, ?_, ?_, HBD.out⟩
      · rw [hlen, E2.out, HOk.out, show (8 : Int) + (m : Int) = 4 + (m : Int) + 4 by omega]; rfl
      · rw [hlen, E1.out]; exact own_reads ho
end Go.Proofs.YtfgkbghagklacaaDoor
