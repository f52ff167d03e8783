/-
  The law CrcJoins, walked.
-/
import Derived.Test.YtfgkbghagklacaaDoorWJoinB
import Derived.Test.YtfgkbghagklacaaDoorLCrcSums
import Derived.Test.YtfgkbghagklacaaDoorLat
namespace Go.Proofs.YtfgkbghagklacaaDoor
open Go.RowKit
open Crc
set_option linter.unusedVariables false
theorem join_int (a b : W32) (n : Int) (w : World) (hn1 : n ≤ 9223372036854775807) :
    Calls Tryd.prog 20 #[.int .u32 a.toNat, .int .u32 b.toNat, .int .i64 n] w fun e w' => e = .returned (.int .u32 (stN (8 * n.toNat) a ^^^ b).toNat) ∧ Below w.heap.size w w' := by
  by_cases h : n ≤ 0
  · rw [show n.toNat = 0 by omega]
    exact join_none a b n w h
  · obtain ⟨m, rfl⟩ := Int.eq_ofNat_of_zero_le (by omega : 0 ≤ n)
    rw [Int.toNat_natCast]
    exact join_some a b m w (by omega) (by omega)
theorem law_CrcJoins (w : World) (ht : Tab w) (A0 : Option Addr) (n0 c0 : Nat) (xs0 : List (Nm .u8)) (hn0 : n0 ≤ c0) (hc0 : c0 ≤ maxLen) (hA0 : A0 = none → c0 = 0) (hl0 : LiesSlice w w.heap.size A0 n0 xs0) (x1 : Nm .i64) (x2 : Nm .i64) :
    Calls Tryd.prog 6 #[.slice A0 n0 c0, .int .i64 x1.z, .int .i64 x2.z] w fun e w' => e = .returned (.bool true) ∧ Below w.heap.size w w' := by
  unfold maxLen at hc0
  have hn : n0 ≤ 9223372036854775807 := by omega
  have hr := hl0.reads
  have hz := zsOf_u8 xs0
  have hx1 := x1.i64
  have hx2 := x2.i64
  generalize x1.z = ct at hx1
  generalize x2.z = q at hx2
  generalize zsOf xs0 = zs at hr hz
  have c5 := awake06 w ht
  have HR := Lib.hid hr
  have HZ := Lib.hid hz
  have HL : Hid (zs.length = n0) := Lib.hid (by simpa [nums_length] using hr.1)
  have HT := Lib.hid ht
  clear hr hz hl0 ht
  by_cases hlt : 5000 < n0
  · go_enter Tryd.func6, Tryd.ntmps6
    go_wp2_with fail
    refine c5.mono ?_
    rintro e w' ⟨rfl, hb⟩
    go_wp2
    go_ret
    exact ⟨rfl, hb⟩
  clear c5
  go_enter Tryd.func6, Tryd.ntmps6
  go_upto_region 3 with fail
  go_cut [7] (fun v wx => ∃ k : Nat, k ≤ n0 ∧ v = .int .i64 k ∧ w = wx)
  case first =>
    go_wp2_with fail
    all_goals go_meet
    all_goals first | exact ⟨n0, Nat.le_refl _, rfl, rfl⟩ | exact ⟨0, Nat.zero_le _, rfl, rfl⟩ | exact ⟨ct.toNat, by omega, by rw [Int.toNat_of_nonneg (by omega)], rfl⟩
  case rest =>
    obtain ⟨k, hk, rfl, rfl⟩ := hcut
    go_wp2_with fail
    have hcut' := (HR.out.cut (cap := c0) hk hn0)
    have hfirst := HR.out.first hk
    rw [Nat.mul_one] at hcut' hfirst
    have ef : (nums .u8 zs).take k = nums .u8 (zs.take k) := by simp [nums]
    have ec : (nums .u8 zs).drop k = nums .u8 (zs.drop k) := by simp [nums]
    rw [ef] at hfirst
    rw [ec] at hcut'
    obtain ⟨A2, hA2⟩ : ∃ A2, (if c0 = k then A0 else A0.map (·.add (k * 1))) = A2 := ⟨_, rfl⟩
    rw [Nat.mul_one] at hA2
    rw [hA2] at hcut'
    have f1 : ∀ u : Lat w, Calls Tryd.prog 16 #[.slice A0 k c0] u.1 fun e w' => e = .returned (.int .u32 (Crc.more 0#32 (zs.take k)).toNat) ∧ ∃ u' : Lat w, w' = u'.1 :=
      fun u => u.call_same (refsum_any _ _ _ _ _ (u.reads hfirst (Nat.le_refl _)) (fun z h => HZ.out z (List.mem_of_mem_take h)) (by omega))
    have f2 : ∀ u : Lat w, Calls Tryd.prog 16 #[.slice A2 (n0 - k) (c0 - k)] u.1 fun e w' => e = .returned (.int .u32 (Crc.more 0#32 (zs.drop k)).toNat) ∧ ∃ u' : Lat w, w' = u'.1 :=
      fun u => u.call_same (refsum_any _ _ _ _ _ (u.reads hcut' (Nat.le_refl _)) (fun z h => HZ.out z (List.mem_of_mem_drop h)) (by omega))
    have f3 : ∀ u : Lat w, Calls Tryd.prog 16 #[.slice A0 n0 c0] u.1 fun e w' => e = .returned (.int .u32 (Crc.more 0#32 zs).toNat) ∧ ∃ u' : Lat w, w' = u'.1 :=
      fun u => u.call_same (refsum_any _ _ _ _ _ (u.reads HR.out (Nat.le_refl _)) HZ.out (by omega))
    have hj : stN (8 * ((n0 : Int) - (k : Int)).toNat) (Crc.more 0#32 (zs.take k)) ^^^ Crc.more 0#32 (zs.drop k) = Crc.more 0#32 zs := by
      have h1 := Crc.more_append 0#32 (zs.take k) (zs.drop k)
      rw [List.take_append_drop] at h1
      rw [h1, Crc.more_split (Crc.more 0#32 (zs.take k)), List.length_drop, HL.out, show ((n0 : Int) - (k : Int)).toNat = n0 - k by omega]
    have f4 : ∀ u : Lat w, Calls Tryd.prog 20 #[.int .u32 (Crc.more 0#32 (zs.take k)).toNat, .int .u32 (Crc.more 0#32 (zs.drop k)).toNat, .int .i64 ((n0 : Int) - (k : Int))] u.1 fun e w' => e = .returned (.int .u32 (Crc.more 0#32 zs).toNat) ∧ ∃ u' : Lat w, w' = u'.1 := by
      intro u
      have h := u.call (join_int (Crc.more 0#32 (zs.take k)) (Crc.more 0#32 (zs.drop k)) ((n0 : Int) - (k : Int)) u.1 (by omega))
      rw [hj] at h
      exact h
    generalize Crc.more 0#32 (zs.take k) = s1 at f1 f4
    generalize Crc.more 0#32 (zs.drop k) = s2 at f2 f4
    obtain ⟨s3, hs3⟩ : ∃ s3, Crc.more 0#32 zs = s3 := ⟨_, rfl⟩
    rw [hs3] at f3 f4
    have F1 := Lib.hid f1
    have F2 := Lib.hid f2
    have F3 := Lib.hid f3
    have F4 := Lib.hid f4
    have H3 := Lib.hid hs3
    have k1 : (k : Int) ≤ (n0 : Int) := by omega
    have k2 : (k : Int) ≤ (c0 : Int) := by omega
    clear f1 f2 f3 f4 hs3 hj hcut' hfirst ef ec
    refine wp_region_lat (by kernel_rfl) (by kernel_rfl) ?_
    repeat (go_big_quiet_step ((first | with_reducible exact F1.out _ | with_reducible exact F2.out _ | with_reducible exact F3.out _ | with_reducible exact F4.out _)))
    refine wpQuiet_nil ?_
    intro u hu
    clear hA2 F1 F2 F4 k1 k2
    by_cases hq3 : 3000 < q
    · have c5 := awake06 u (HT.out.below hu (Nat.le_refl _))
      go_wp2_with fail
      refine c5.mono ?_
      rintro e w' ⟨rfl, hb⟩
      go_wp2
      go_ret
      exact ⟨rfl, hu.trans (hb.mono hu.size)⟩
    · by_cases hq0 : q < 0
      · have hmk : ∀ w, (Instr.makeSlice 22 (.int .i64 0) (.int .i64 0)).run Tryd.prog w = .ok (.slice (some ⟨w.heap.size, 0, none⟩) 0 0) (w.alloc (.cells (nums .u8 (List.replicate 0 0)).toArray 5)) := make_bytes 0 (by decide)
        have hws : w.heap.size ≤ u.heap.size := hu.size
        obtain ⟨w2, hw2⟩ : ∃ w2, u.alloc (.cells (nums .u8 ([])).toArray 5) = w2 := ⟨_, rfl⟩
        have hb2 : Below w.heap.size w w2 := by rw [← hw2]; exact hu.alloc hws _
        have hrz : Reads w2 w2.heap.size 1 (some ⟨u.heap.size, 0, none⟩) 0 (nums .u8 ([])) := by
          rw [← hw2]
          exact reads_new _ _ _ _ _ _ _ rfl (by simp [nums]) (by simp)
        have hzz : ∀ z ∈ ([] : List Int), 0 ≤ z ∧ z < 256 := by
          intro z hz
          cases hz
        have hr2 : Reads w2 w2.heap.size 1 A0 n0 (nums .u8 zs) := (HR.out.below hb2).more hb2.size
        have g1 := refsum_any A0 n0 c0 zs w2 hr2 HZ.out (by omega)
        rw [H3.out] at g1
        have g2 := refsum_any (some ⟨u.heap.size, 0, none⟩) 0 0 ([]) w2 hrz hzz (by omega)
        have g3 := join_int s3 (Crc.more 0#32 ([])) q w2 (by omega)
        have e3 : stN (8 * ((q : Int)).toNat) s3 ^^^ Crc.more 0#32 ([]) = Crc.more s3 ([]) := by
          rw [Crc.more_split s3, List.length_nil]
          first | rfl | (congr 2; omega)
        rw [e3] at g3
        have g4 := fun (w' : World) (hb : Below w2.heap.size w2 w') => refsum_any A0 n0 c0 zs w' ((hr2.below hb).more hb.size) HZ.out (by omega)
        rw [H3.out] at g4
        have g5 := fun (w' : World) (hb : Below w2.heap.size w2 w') => refmore_any s3 (some ⟨u.heap.size, 0, none⟩) 0 0 ([]) w' ((hrz.below hb).more hb.size) hzz (by omega)
        have g6 := fun (w' : World) (hb : Below w2.heap.size w2 w') => awake06 w' (HT.out.below (hb2.trans (hb.mono hb2.size)) (Nat.le_refl _))
        generalize Crc.more 0#32 ([]) = s4 at g2 g3
        generalize Crc.more s3 ([]) = s5 at g3 g5
        have G1 := Lib.hid g1
        have G2 := Lib.hid g2
        have G3 := Lib.hid g3
        have G4 := Lib.hid g4
        have G5 := Lib.hid g5
        have G6 := Lib.hid g6
        have HB2 := Lib.hid hb2
        have HW2 := Lib.hid hw2
        clear g1 g2 g3 g4 g5 g6 e3 hzz hr2 hrz hb2 hw2
        go_wp2_with fail
        rw [HW2.out]
        refine G1.out.mono ?_
        rintro e w' ⟨rfl, rfl⟩
        go_wp2_with fail
        refine G2.out.mono ?_
        rintro e w' ⟨rfl, rfl⟩
        go_wp2_with fail
        refine G3.out.mono ?_
        rintro e w3 ⟨rfl, hb3⟩
        have HB3 := Lib.hid hb3
        clear hb3
        go_wp2_with fail
        refine (G4.out _ HB3.out).mono ?_
        rintro e w' ⟨rfl, rfl⟩
        go_wp2_with fail
        refine (G5.out _ HB3.out).mono ?_
        rintro e w' ⟨rfl, rfl⟩
        go_wp2_with fail
        refine (G6.out _ HB3.out).mono ?_
        rintro e w4 ⟨rfl, hb4⟩
        go_wp2
        go_ret
        exact ⟨rfl, HB2.out.trans ((HB3.out.trans (hb4.mono HB3.out.size)).mono HB2.out.size)⟩
      · obtain ⟨m, rfl⟩ := Int.eq_ofNat_of_zero_le (by omega : 0 ≤ q)
        have hmk := make_bytes m (by omega)
        have hws : w.heap.size ≤ u.heap.size := hu.size
        obtain ⟨w2, hw2⟩ : ∃ w2, u.alloc (.cells (nums .u8 (List.replicate m 0)).toArray 5) = w2 := ⟨_, rfl⟩
        have hb2 : Below w.heap.size w w2 := by rw [← hw2]; exact hu.alloc hws _
        have hrz : Reads w2 w2.heap.size 1 (some ⟨u.heap.size, 0, none⟩) m (nums .u8 (List.replicate m 0)) := by
          rw [← hw2]
          exact reads_new _ _ _ _ _ _ _ rfl (by simp [nums]) (by simp)
        have hzz : ∀ z ∈ List.replicate m (0 : Int), 0 ≤ z ∧ z < 256 := by
          intro z hz
          rw [List.mem_replicate] at hz
          omega
        have hr2 : Reads w2 w2.heap.size 1 A0 n0 (nums .u8 zs) := (HR.out.below hb2).more hb2.size
        have g1 := refsum_any A0 n0 c0 zs w2 hr2 HZ.out (by omega)
        rw [H3.out] at g1
        have g2 := refsum_any (some ⟨u.heap.size, 0, none⟩) m m (List.replicate m 0) w2 hrz hzz (by omega)
        have g3 := join_int s3 (Crc.more 0#32 (List.replicate m 0)) (m : Int) w2 (by omega)
        have e3 : stN (8 * (((m : Int) : Int)).toNat) s3 ^^^ Crc.more 0#32 (List.replicate m 0) = Crc.more s3 (List.replicate m 0) := by
          rw [Crc.more_split s3, List.length_replicate]
          first | rfl | (congr 2; omega)
        rw [e3] at g3
        have g4 := fun (w' : World) (hb : Below w2.heap.size w2 w') => refsum_any A0 n0 c0 zs w' ((hr2.below hb).more hb.size) HZ.out (by omega)
        rw [H3.out] at g4
        have g5 := fun (w' : World) (hb : Below w2.heap.size w2 w') => refmore_any s3 (some ⟨u.heap.size, 0, none⟩) m m (List.replicate m 0) w' ((hrz.below hb).more hb.size) hzz (by omega)
        have g6 := fun (w' : World) (hb : Below w2.heap.size w2 w') => awake06 w' (HT.out.below (hb2.trans (hb.mono hb2.size)) (Nat.le_refl _))
        generalize Crc.more 0#32 (List.replicate m 0) = s4 at g2 g3
        generalize Crc.more s3 (List.replicate m 0) = s5 at g3 g5
        have G1 := Lib.hid g1
        have G2 := Lib.hid g2
        have G3 := Lib.hid g3
        have G4 := Lib.hid g4
        have G5 := Lib.hid g5
        have G6 := Lib.hid g6
        have HB2 := Lib.hid hb2
        have HW2 := Lib.hid hw2
        clear g1 g2 g3 g4 g5 g6 e3 hzz hr2 hrz hb2 hw2
        go_wp2_with fail
        rw [HW2.out]
        refine G1.out.mono ?_
        rintro e w' ⟨rfl, rfl⟩
        go_wp2_with fail
        refine G2.out.mono ?_
        rintro e w' ⟨rfl, rfl⟩
        go_wp2_with fail
        refine G3.out.mono ?_
        rintro e w3 ⟨rfl, hb3⟩
        have HB3 := Lib.hid hb3
        clear hb3
        go_wp2_with fail
        refine (G4.out _ HB3.out).mono ?_
        rintro e w' ⟨rfl, rfl⟩
        go_wp2_with fail
        refine (G5.out _ HB3.out).mono ?_
        rintro e w' ⟨rfl, rfl⟩
        go_wp2_with fail
        refine (G6.out _ HB3.out).mono ?_
        rintro e w4 ⟨rfl, hb4⟩
        go_wp2
        go_ret
        exact ⟨rfl, HB2.out.trans ((HB3.out.trans (hb4.mono HB3.out.size)).mono HB2.out.size)⟩
end Go.Proofs.YtfgkbghagklacaaDoor
