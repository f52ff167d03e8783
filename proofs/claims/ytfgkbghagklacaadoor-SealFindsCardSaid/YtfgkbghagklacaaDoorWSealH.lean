/-
  seal.Get where the bytes are as many as a sector's, walked.
-/
import Derived.Test.YtfgkbghagklacaaDoorWSealG
import Derived.BigQuiet
import Derived.Deep.RegionHeld3
namespace Go.Proofs.YtfgkbghagklacaaDoor
open Go.RowKit
open Byts Seal
open Fram (getD_nn)
set_option linter.unusedVariables false
theorem sub_reads {w : World} {b off n : Nat} {zs : List Int} {B : Nat} (hr : Reads w B 1 (some ⟨b, off, none⟩) n (nums .u8 zs)) (i m : Nat) (h : i + m ≤ n) : Reads w B 1 (some ⟨b, off + i, none⟩) m (nums .u8 ((zs.drop i).take m)) := by
  have hl : zs.length = n := by have := hr.1; simpa [nums] using this
  refine ⟨by simp [nums]; omega, fun hpos => ?_⟩
  have hlen : (nums .u8 ((zs.drop i).take m)).length = m := by simp [nums]; omega
  have hm : 0 < m := by first | exact hpos | (rw [hlen] at hpos; exact hpos)
  obtain ⟨b', off', u, hA, hB, _, _⟩ := hr.at_ (k := 0) (by omega)
  injection hA with hA
  injection hA with hA hA2
  subst hA hA2
  refine ⟨_, rfl, hB, fun j u hu => ?_⟩
  have hj : j < m := by
    have := (List.getElem?_eq_some_iff.1 hu).1
    omega
  obtain ⟨b', off', u', hA, _, hu', hc⟩ := hr.at_ (k := i + j) (by omega)
  injection hA with hA
  injection hA with hA hA2
  subst hA hA2
  have e : (⟨b, off + i, none⟩ : Addr).add j = ⟨b, off + (i + j), none⟩ := by unfold Addr.add; split <;> simp_all <;> omega
  rw [e, hc, ← hu', ← hu]
  simp only [nums, List.getElem?_map, List.getElem?_take, if_pos hj, List.getElem?_drop]
/-- four cells of a block set -/
theorem set4 {w0 w : World} {g t B : Nat} {x0 x1 x2 x3 : Value} (h : Blk w g t #[x0, x1, x2, x3]) (hb : Below B w0 w) (hg : B ≤ g) (a b c d : Value) :
    ∃ wz, (((w.setCell ⟨g, 0, none⟩ a).setCell ⟨g, 1, none⟩ b).setCell ⟨g, 2, none⟩ c).setCell ⟨g, 3, none⟩ d = wz ∧
      wz.cell? ⟨g, 0, none⟩ = some a ∧ wz.cell? ⟨g, 1, none⟩ = some b ∧ wz.cell? ⟨g, 2, none⟩ = some c ∧ wz.cell? ⟨g, 3, none⟩ = some d ∧ Below B w0 wz ∧ w.grownBy wz (some g) := by
  have hz := (((h.set_ 0 a).set_ 1 b).set_ 2 c).set_ 3 d
  have o1 := only_setCell (World.grownBy.refl w (some g)) (p := ⟨g, 0, none⟩) (.inl rfl) a
  have o2 := only_setCell o1 (p := ⟨g, 1, none⟩) (.inl rfl) b
  have o3 := only_setCell o2 (p := ⟨g, 2, none⟩) (.inl rfl) c
  have o4 := only_setCell o3 (p := ⟨g, 3, none⟩) (.inl rfl) d
  exact ⟨_, rfl, hz.cell 0, hz.cell 1, hz.cell 2, hz.cell 3, (((hb.setCell hg _).setCell hg _).setCell hg _).setCell hg _, o4⟩
set_option maxRecDepth 100000 in
set_option maxHeartbeats 6000000 in
theorem sget_main (A : Option Addr) (c : Nat) (zs : List Int) (w : World) (ht : Tab w) (hr : Reads w w.heap.size 1 A 1024 (nums .u8 zs)) (hz : ∀ z ∈ zs, 0 ≤ z ∧ z < 256) (hnc : 1024 ≤ c) (hc0 : c ≤ 9223372036854775807) :
    Calls Tryd.prog 29 #[.slice A 1024 c] w (SGet zs w) := by
  have hl : zs.length = 1024 := by have := hr.1; simpa [nums] using this
  obtain ⟨b, off, u0, rfl, hbl, h8, h9⟩ := hr.at_ (k := 0) (by omega)
  clear h8 h9 hbl u0
  obtain ⟨w0, hw0⟩ : ∃ w0, w.alloc (.cells #[.int .i64 0, .int .u64 0, .int .u64 0, .slice none 0 0] 35) = w0 := ⟨_, rfl⟩
  have hb0 : Below w.heap.size w w0 := by rw [← hw0]; exact (Below.refl _ _).alloc (Nat.le_refl _) _
  have hk0 : Blk w0 w.heap.size 35 #[.int .i64 0, .int .u64 0, .int .u64 0, .slice none 0 0] := by rw [← hw0]; exact Blk.new _ _ _
  have hr0 := hr.below hb0
  have cs := sum_any (some ⟨b, off, none⟩) 1020 c (zs.take 1020) w0 (ht.below hb0 (Nat.le_refl _)) (by
    have := (sub_reads hr0 0 1020 (by omega)).more hb0.size
    simpa using this) (fun z h => hz z (List.mem_of_mem_take h)) (by omega)
  obtain ⟨r, hrr⟩ : ∃ r, Crc.more 0#32 (zs.take 1020) = r := ⟨_, rfl⟩
  rw [hrr] at cs
  have hE : sE smZ zs = if zs.drop 1020 ≠ bytesZ r then 13 else if zs.getD 0 0 = 0 ∨ 1001 < sN zs then 6 else if ∃ z ∈ sT zs, z ≠ 0 then 6 else 0 := by
    unfold sE smZ
    rw [if_neg (by rw [hl]; simp), hrr]
  have hd4 : (zs.drop 1020).take 4 = zs.drop 1020 := List.take_of_length_le (by simp [hl])
  have HE := Lib.hid hE
  have HD4 := Lib.hid hd4
  have HR := Lib.hid hr
  have HZ := Lib.hid hz
  have HL := Lib.hid hl
  have HT := Lib.hid ht
  have HB0 := Lib.hid hb0
  have HK0 := Lib.hid hk0
  have HW0 := Lib.hid hw0
  have hrl := r.isLt
  rw [← hw0] at cs
  clear hr hz hl ht hb0 hk0 hE hd4 hr0 hrr hw0
  go_enter Tryd.func29, Tryd.ntmps29
  go_wp2_with fail
  refine cs.mono ?_
  rintro e w' ⟨rfl, rfl⟩
  clear cs
  rw [HW0.out]
  go_wp2_with fail
  go_loopw [5, 16] (fun _ i wr => ∃ k : Nat, k ≤ 4 ∧ i = .int .i64 k ∧ Hid (∀ j, j < k → zs.getD (1020 + j) 0 = (bytesZ r).getD j 0) ∧ Below w0.heap.size w0 wr) (fun _ i _ => 4 - (intOf i).toNat)
  case atStart => exact ⟨0, by omega, rfl, Lib.hid (fun j hj => absurd hj (by omega)), Below.refl _ _⟩
  case round =>
    obtain ⟨k, hk, rfl, HP, hbel⟩ := hrel
    have hkb := HK0.out.below hbel HK0.out.lt
    have g0 : wr.cell? ⟨w.heap.size, 0, none⟩ = some (.int .i64 0) := hkb.cell 0
    have g1 : wr.cell? ⟨w.heap.size, 1, none⟩ = some (.int .u64 0) := hkb.cell 1
    have g2 : wr.cell? ⟨w.heap.size, 2, none⟩ = some (.int .u64 0) := hkb.cell 2
    have g3 : wr.cell? ⟨w.heap.size, 3, none⟩ = some (.slice none 0 0) := hkb.cell 3
    have f0 : ∀ i, wr.frozen? ⟨w.heap.size, i, none⟩ = false := hkb.frozen
    have hbw := HB0.out.trans (hbel.mono HB0.out.size)
    have HB := Lib.hid hbw
    have HBL := Lib.hid hbel
    have HKB := Lib.hid hkb
    clear hbel hbw hkb
    by_cases hlt : k < 4
    · obtain ⟨b', off', hA, hcell⟩ := getD_cell (cap := c) (HR.out.below HB.out) (k := 1020 + k) (by omega)
      injection hA with hA
      injection hA with hA hA2
      subst hA hA2
      have hsh := Lib.hid (bytesZ_shr r k hlt)
      have hzb := getD_nn HZ.out (1020 + k)
      have y0 : 0 ≤ (r.toNat : Int) / 2 ^ (8 * k) := Int.ediv_nonneg (by omega) (Int.pow_nonneg (by decide))
      have HNe := fun hne => tail_ne zs 1020 k r hlt (by rw [HL.out]; omega) hne
      rw [HD4.out] at HNe
      obtain ⟨z, hzk⟩ : ∃ z, zs.getD (1020 + k) 0 = z := ⟨_, rfl⟩
      rw [hzk] at hcell hzb HNe
      have HNE := Lib.hid HNe
      have HZk := Lib.hid hzk
      clear hzk HNe
      by_cases heq : z = (bytesZ r).getD k 0
      · have HQ := Lib.hid heq
        rw [hsh.out] at heq
        have ht : (z != ((r.toNat : Int) / 2 ^ (8 * k) % 256)) = false := by rw [heq]; simp
        clear heq
        go_wp2_with fail
        go_quiet (fail)
        go_wp2_with fail
        go_roundw
        case rel =>
          refine ⟨k + 1, by omega, by go_num, Lib.hid (fun j hj => ?_), below_drewN HBL.out _⟩
          rcases Nat.lt_or_ge j k with h | h
          · exact HP.out j h
          · obtain rfl : j = k := by omega
            rw [HZk.out, HQ.out]
        case measure => simp [intOf]; omega
      · have hbad : sE smZ zs = 13 := by rw [HE.out, if_pos (HNE.out heq)]
        have HBad := Lib.hid hbad
        have ht : (z != ((r.toNat : Int) / 2 ^ (8 * k) % 256)) = true := by rw [bne_iff_ne, ← hsh.out]; exact heq
        clear heq hbad
        go_wp2_with fail
        go_quiet (fail)
        obtain ⟨wq, hwq⟩ : ∃ wq, wr.drewN nq = wq := ⟨_, rfl⟩
        have hbq : Below w.heap.size w wq := by rw [← hwq]; exact below_drewN HB.out _
        have g0 : wq.cell? ⟨w.heap.size, 0, none⟩ = some (.int .i64 0) := by rw [← hwq]; exact g0
        have g1 : wq.cell? ⟨w.heap.size, 1, none⟩ = some (.int .u64 0) := by rw [← hwq]; exact g1
        have g2 : wq.cell? ⟨w.heap.size, 2, none⟩ = some (.int .u64 0) := by rw [← hwq]; exact g2
        have g3 : wq.cell? ⟨w.heap.size, 3, none⟩ = some (.slice none 0 0) := by rw [← hwq]; exact g3
        have f0 : ∀ i, wq.frozen? ⟨w.heap.size, i, none⟩ = false := by rw [← hwq]; exact f0
        have hkq : Blk wq w.heap.size 35 #[.int .i64 0, .int .u64 0, .int .u64 0, .slice none 0 0] := by rw [← hwq]; exact HKB.out.drewN _
        rw [hwq]
        obtain ⟨wz, hz, z0, z1, z2, z3, hbz, _⟩ := set4 hkq hbq (Nat.le_refl _) (.int .i64 0) (.int .u64 0) (.int .u64 0) (.slice none 0 0)
        have HBZ := Lib.hid hbz
        have HZ4 := Lib.hid hz
        clear hwq hbq hkq hbz hz
        go_wp2_with fail
        rw [HZ4.out]
        refine bodyPost_ret (by simp [results, Tryd.results29, go_sem, z0, z1, z2, z3]; try rfl) rfl ?_
        exact SGet_bad (by decide) HBad.out HBZ.out
    · obtain rfl : k = 4 := by omega
      have hgood : zs.drop 1020 = bytesZ r := by rw [← HD4.out]; exact tail_eq zs 1020 r (by rw [HL.out]; omega) HP.out
      have hE := HE.out
      rw [if_neg (by rw [hgood]; simp)] at hE
      have hrw := HR.out.below HB.out
      have hsz := HB.out.size
      obtain ⟨n0, n1⟩ := sN_bd HZ.out
      obtain ⟨z0, z1⟩ := getD_nn HZ.out 0
      have cN := read_any (some ⟨b, off + 17, none⟩) 2 (c - 17) ((zs.drop 17).take 2) wr ((sub_reads hrw 17 2 (by omega)).more hsz) (mid_bytes HZ.out _ _) (by omega)
      rw [show num ((zs.drop 17).take 2) = sN zs from rfl] at cN
      obtain ⟨b', off', hA, hcell⟩ := getD_cell (cap := c) hrw (k := 0) (by omega)
      injection hA with hA
      injection hA with hA hA2
      subst hA hA2
      rw [Nat.add_zero] at hcell
      have hE2 := Lib.hid hE
      have HRW := Lib.hid hrw
      obtain ⟨m, hm⟩ := Int.eq_ofNat_of_zero_le n0
      have HM := Lib.hid hm
      rw [hm] at cN n1 hE
      obtain ⟨z, hzz⟩ : ∃ z, zs.getD 0 0 = z := ⟨_, rfl⟩
      rw [hzz] at hcell z0 z1 hE
      have HZZ := Lib.hid hzz
      clear HP hrw hgood hlt hm n0 hzz
      by_cases hbad : z = 0 ∨ 1001 < m
      · have he6 : sE smZ zs = 6 := by rw [hE, if_pos (by omega)]
        have HE6 := Lib.hid he6
        obtain ⟨wz, hz, y0, y1, y2, y3, hbz, _⟩ := set4 HKB.out HB.out (Nat.le_refl _) (.int .i64 0) (.int .u64 0) (.int .u64 0) (.slice none 0 0)
        have HBZ := Lib.hid hbz
        have HZ4 := Lib.hid hz
        clear hbz hz he6 hE
        by_cases hz0 : z = 0
        · subst hz0
          go_wp2_with fail
          refine cN.mono ?_
          rintro e w' ⟨rfl, rfl⟩
          go_wp2_with fail
          rw [HZ4.out]
          refine bodyPost_ret (by simp [results, Tryd.results29, go_sem, y0, y1, y2, y3]; try rfl) rfl ?_
          exact SGet_bad (by decide) HE6.out HBZ.out
        · have hm1 : 1001 < m := by omega
          have hzf : (z == 0) = false := by rw [beq_eq_false_iff_ne]; exact hz0
          have hwr : IntKind.i64.wrap (m : Int) = (m : Int) := IntWalk.i64_in _ (by omega)
          have hgt : decide ((1001 : Int) < (m : Int)) = true := by simp; omega
          clear hz0 hm1 n1
          go_wp2_with fail
          refine cN.mono ?_
          rintro e w' ⟨rfl, rfl⟩
          go_wp2_with fail
          rw [HZ4.out]
          refine bodyPost_ret (by simp [results, Tryd.results29, go_sem, y0, y1, y2, y3]; try rfl) rfl ?_
          exact SGet_bad (by decide) HE6.out HBZ.out
      · have hm1 : m ≤ 1001 := by omega
        have hz0 : ¬ z = 0 := by omega
        rw [if_neg (by omega)] at hE
        have HE3 := Lib.hid hE
        have hzf : (z == 0) = false := by rw [beq_eq_false_iff_ne]; exact hz0
        have hwr : IntKind.i64.wrap (m : Int) = (m : Int) := IntWalk.i64_in _ (by omega)
        have hgt : decide ((1001 : Int) < (m : Int)) = false := by simp; omega
        have HM1 := Lib.hid hm1
        have hsl := sub_reads HRW.out (19 + m) (1001 - m) (by omega)
        have hsT : (zs.drop (19 + m)).take (1001 - m) = sT zs := by unfold sT; rw [HM.out, Int.toNat_natCast]
        rw [hsT] at hsl
        have hTl : (sT zs).length = 1001 - m := by rw [← hsT]; simp [HL.out]; omega
        have HSL := Lib.hid hsl
        have HTL := Lib.hid hTl
        have HTB : Hid (∀ z ∈ sT zs, 0 ≤ z ∧ z < 256) := Lib.hid (by rw [← hsT]; exact mid_bytes HZ.out _ _)
        have h20 : (1020 : Nat) - (19 + m) = 1001 - m := by omega
        clear hz0 n1 hsl hsT hTl hE hbad
        go_wp2_with fail
        refine cN.mono ?_
        rintro e w' ⟨rfl, rfl⟩
        go_wp2_with fail
        go_loop [8, 50] (fun _ i => ∃ k : Nat, k ≤ 1001 - m ∧ i = .int .i64 k ∧ Hid (∀ j, j < k → (sT zs).getD j 0 = 0)) (fun _ i => 1001 - m - (intOf i).toNat)
        case atStart => exact ⟨0, Nat.zero_le _, rfl, Lib.hid (fun j hj => absurd hj (by omega))⟩
        case round =>
          obtain ⟨k, hk, rfl, HP⟩ := hrel
          by_cases hlt : k < 1001 - m
          · obtain ⟨b', off', hA, hcell⟩ := getD_cell (cap := c) HSL.out (k := k) hlt
            injection hA with hA
            injection hA with hA hA2
            subst hA hA2
            obtain ⟨y, hy⟩ : ∃ y, (sT zs).getD k 0 = y := ⟨_, rfl⟩
            rw [hy] at hcell
            have HY := Lib.hid hy
            clear hy
            by_cases hy0 : y = 0
            · subst hy0
              go_wp2_with fail
              go_round
              case rel =>
                refine ⟨k + 1, by omega, by go_num, Lib.hid (fun j hj => ?_)⟩
                rcases Nat.lt_or_ge j k with h | h
                · exact HP.out j h
                · obtain rfl : j = k := by omega
                  exact HY.out
              case measure => simp [intOf]; omega
            · have hyf : (y != 0) = true := by rw [bne_iff_ne]; exact hy0
              have he6 : sE smZ zs = 6 := by
                rw [HE3.out, if_pos]
                refine ⟨y, ?_, hy0⟩
                rw [← HY.out]
                simp only [List.getD]
                rw [List.getElem?_eq_getElem (by rw [HTL.out]; exact hlt)]
                exact List.getElem_mem _
              have HE6 := Lib.hid he6
              obtain ⟨wz, hz, y0, y1, y2, y3, hbz, _⟩ := set4 HKB.out HB.out (Nat.le_refl _) (.int .i64 0) (.int .u64 0) (.int .u64 0) (.slice none 0 0)
              have HBZ := Lib.hid hbz
              have HZ4 := Lib.hid hz
              clear hbz hz he6 hy0
              go_wp2_with fail
              rw [HZ4.out]
              refine bodyPost_ret (by simp [results, Tryd.results29, go_sem, y0, y1, y2, y3]; try rfl) rfl ?_
              exact SGet_bad (by decide) HE6.out HBZ.out
          · obtain rfl : k = 1001 - m := by omega
            have hok : sE smZ zs = 0 := by
              rw [HE3.out, if_neg]
              rintro ⟨y, hy, hy0⟩
              obtain ⟨j, hj, rfl⟩ := List.getElem_of_mem hy
              apply hy0
              have := HP.out j (by rw [← HTL.out]; exact hj)
              simpa [List.getD, hj] using this
            have HOk := Lib.hid hok
            clear hok HP hlt hk
            have rA := (sub_reads HRW.out 1 8 (by omega)).more hsz
            have rB := (sub_reads HRW.out 9 8 (by omega)).more hsz
            have rV := (sub_reads HRW.out 19 m (by omega)).more hsz
            have cA := read_any (some ⟨b, off + 1, none⟩) 8 (c - 1) ((zs.drop 1).take 8) wr.drew rA.drew (mid_bytes HZ.out _ _) (by omega)
            have cB := read_any (some ⟨b, off + 9, none⟩) 8 (c - 9) ((zs.drop 9).take 8) wr.drew rB.drew (mid_bytes HZ.out _ _) (by omega)
            have cV := clone_any b (off + 19) m (c - 19) ((zs.drop 19).take m) wr.drew rV.drew (by omega)
            have hm19 : 19 + m - 19 = m := by omega
            have hVl : ((zs.drop 19).take m).length = m := by simp [HL.out]; omega
            have HVL := Lib.hid hVl
            obtain ⟨xa, hxa⟩ : ∃ xa, num ((zs.drop 1).take 8) = xa := ⟨_, rfl⟩
            obtain ⟨xb, hxb⟩ : ∃ xb, num ((zs.drop 9).take 8) = xb := ⟨_, rfl⟩
            obtain ⟨vs, hvs⟩ : ∃ vs, (zs.drop 19).take m = vs := ⟨_, rfl⟩
            rw [hxa] at cA
            rw [hxb] at cB
            rw [hvs] at cV
            have HXA := Lib.hid hxa
            have HXB := Lib.hid hxb
            have HVS := Lib.hid hvs
            clear rA rB rV hVl hxa hxb hvs cN
            go_wp2_with fail
            clear g0 g1 g2 g3 f0 hgt hzf hrl
            obtain ⟨b', off', u', hA, hbl, _, _⟩ := HRW.out.at_ (k := 0) (by omega)
            injection hA with hA
            injection hA with hA hA2
            subst hA hA2
            have hbne : ¬ b = w.heap.size := by omega
            have hbne' : ¬ w.heap.size = b := by omega
            have hbs : b < wr.heap.size := by omega
            have hw19 : IntKind.i64.wrap (19 + (m : Int)) = 19 + (m : Int) := IntWalk.i64_in _ (by omega)
            have hn19 : (0 : Int) ≤ 19 + (m : Int) := by omega
            have hwz : IntKind.i64.wrap z = z := IntWalk.i64_in _ (by omega)
            have ht19 : (19 + (m : Int)).toNat = 19 + m := by omega
            have hl19 : 19 + m ≤ c := by omega
            have hl20 : (19 : Nat) ≤ 19 + m := by omega
            have hc19 : ¬ c = 19 := by omega
            have hi20 : (19 : Int) ≤ 19 + (m : Int) := by omega
            have hc9 : ¬ c = 9 := by omega
            have hc1 : ¬ c = 1 := by omega
            have hi9 : (9 : Int) ≤ (c : Int) := by omega
            have hi17 : (17 : Int) ≤ (c : Int) := by omega
            have hn9 : 9 ≤ c := by omega
            have hn17 : 17 ≤ c := by omega
            have hi19 : 19 + (m : Int) ≤ (c : Int) := by omega
            go_region_with
              (first
                | (go_at_call 42; first | ((with_reducible refine cA.mono ?_); rintro e w2 ⟨rfl, rfl⟩) | ((with_reducible refine cB.mono ?_); rintro e w2 ⟨rfl, rfl⟩))
                | (go_at_call 43; (with_reducible refine cV.mono ?_); rintro e w5 ⟨A5, c5, rfl, hr5, hb5⟩; have hk5 := HKB.out.drew.below hb5 HKB.out.drew.lt; have kz : w5.cell? ⟨b, off, none⟩ = some (.int .u8 z) := (hb5.cell (p := ⟨b, off, none⟩) hbs).trans hcell; have k0 : w5.cell? ⟨w.heap.size, 0, none⟩ = some (.int .i64 0) := hk5.cell 0; have k1 : w5.cell? ⟨w.heap.size, 1, none⟩ = some (.int .u64 0) := hk5.cell 1; have k2 : w5.cell? ⟨w.heap.size, 2, none⟩ = some (.int .u64 0) := hk5.cell 2; have k3 : w5.cell? ⟨w.heap.size, 3, none⟩ = some (.slice none 0 0) := hk5.cell 3; have kf : ∀ i, w5.frozen? ⟨w.heap.size, i, none⟩ = false := hk5.frozen; have hbw5 := HB.out.drew.trans (hb5.mono hsz); have HBW5 := Lib.hid hbw5; have HK5 := Lib.hid hk5; have HR5 := Lib.hid hr5; clear hk5 hbw5 hr5 hb5))
            all_goals
              obtain ⟨wz, hz, y0, y1, y2, y3, hbz, hsz5⟩ := set4 HK5.out HBW5.out (Nat.le_refl _) (.int .i64 z) (.int .u64 xa) (.int .u64 xb) (.slice A5 m c5)
              have hrz : Reads wz wz.heap.size 1 A5 m (nums .u8 vs) := own_reads (HR5.out.kept hsz5 (.inr (fun he => by have h := (HR5.out.lt _ he).1; have h2 : wr.heap.size ≤ w.heap.size := h; have h3 := HKB.out.lt; omega)))
              have HBZ := Lib.hid hbz
              have HZ4 := Lib.hid hz
              have HRZ := Lib.hid hrz
              clear hbz hz hrz hsz5
              go_wp2_with fail
              rw [HZ4.out]
              refine bodyPost_ret (by simp [results, Tryd.results29, go_sem, y0, y1, y2, y3]; try rfl) rfl ?_
              have hok := HOk.out
              have eK : sK smZ zs = z := by unfold sK; rw [if_pos hok, HZZ.out]
              have eA : sA smZ zs = xa := by unfold sA; rw [if_pos hok, HXA.out]
              have eB : sB smZ zs = xb := by unfold sB; rw [if_pos hok, HXB.out]
              have eV : sV smZ zs = vs := by unfold sV; rw [if_pos hok, HM.out, Int.toNat_natCast, HVS.out]
              have eL : vs.length = m := by rw [← HVS.out]; exact HVL.out
              refine ⟨A5, c5, ?_, ?_, HBZ.out⟩
              · rw [eK, eA, eB, eV, eL, hok]
              · rw [eV, eL]; exact HRZ.out
end Go.Proofs.YtfgkbghagklacaaDoor
