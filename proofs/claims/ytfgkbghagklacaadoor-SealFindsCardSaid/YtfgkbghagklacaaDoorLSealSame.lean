/-
  The chapter's example of package seal; the law SealSame, walked.
-/
import Derived.Test.YtfgkbghagklacaaDoorWSame
import Derived.Test.YtfgkbghagklacaaDoorWSealB
import Derived.Test.YtfgkbghagklacaaDoorOpen
namespace Go.Proofs.YtfgkbghagklacaaDoor
open Go.RowKit
open Seal Byts
set_option linter.unusedVariables false
/-- a sheet by value -/
theorem sheet4 {w : World} {B : Nat} {vs : List Value} {x : Nm .i64 × Nm .u64 × Nm .u64 × List (Nm .u8)} (h : Lay.lies w B vs x) :
    ∃ A n c, vs = [.int .i64 x.1.z, .int .u64 x.2.1.z, .int .u64 x.2.2.1.z, .slice A n c] ∧ n ≤ c ∧ c ≤ maxLen ∧ Reads w B 1 A n (nums .u8 (zsOf x.2.2.2)) := by
  obtain ⟨us, ws, rfl, h1, us2, ws2, rfl, h2, us3, ws3, rfl, h3, A, n, c, rfl, hn, hc, _, hl⟩ := h
  obtain rfl : us = [.int .i64 x.1.z] := h1
  obtain rfl : us2 = [.int .u64 x.2.1.z] := h2
  obtain rfl : us3 = [.int .u64 x.2.2.1.z] := h3
  exact ⟨A, n, c, rfl, hn, hc, hl.reads⟩
theorem awake20 (w : World) (ht : Tab w) : Calls Tryd.prog 21 #[] w fun e w' => e = .returned (.bool true) ∧ Below w.heap.size w w' := by
  have c1 := put_ok 1 0 0 none 0 0 [] w ht (by omega) (by omega) (by omega) (by omega) (by omega) (by omega) (by omega) Reads.none_ (by intro z h; cases h)
  have hsec : ∃ l, sec 1 0 0 [] (bytesZ (Crc.more 0#32 (hd 1 0 0 []))) = l ∧ l[0]? = some 1 ∧ l[1]? = some 0 ∧ l[1019]? = some 0 := by
    refine ⟨_, rfl, rfl, rfl, ?_⟩
    have e : hd 1 0 0 [] = [1] ++ (be 8 0 ++ (be 8 0 ++ (be 2 0 ++ List.replicate 1001 0))) := rfl
    have b8 : be 8 0 = List.replicate 8 0 := by decide
    have b2 : be 2 0 = List.replicate 2 0 := by decide
    unfold sec
    rw [List.getElem?_append_left (by rw [hd_length 1 0 0 [] (by simp)]; decide), e, b8, b2]
    simp only [List.replicate_append_replicate]
    rw [List.getElem?_append_right (by simp), List.getElem?_replicate]
    simp
  obtain ⟨l, hl, l0, l1, l2⟩ := hsec
  rw [hl] at c1
  clear hl
  go_enter Tryd.func21, Tryd.ntmps21
  go_wp2_with fail
  refine c1.mono ?_
  rintro e w1 ⟨rfl, hb, hbel⟩
  have d0 : w1.cell? ⟨w.heap.size + 1, 0, none⟩ = some (.int .u8 1) := by rw [hb.cell, List.getElem?_toArray]; exact nums_get l0
  have d1 : w1.cell? ⟨w.heap.size + 1, 1, none⟩ = some (.int .u8 0) := by rw [hb.cell, List.getElem?_toArray]; exact nums_get l1
  have d2 : w1.cell? ⟨w.heap.size + 1, 1019, none⟩ = some (.int .u8 0) := by rw [hb.cell, List.getElem?_toArray]; exact nums_get l2
  have HB := Lib.hid hbel
  clear hb hbel l0 l1 l2
  go_wp2
  go_ret
  exact ⟨rfl, HB.out⟩
set_option maxHeartbeats 400000 in
theorem law_SealSame (w : World) (ht : Tab w) (vs0 : List Value) (a0 : Nm .i64 × Nm .u64 × Nm .u64 × List (Nm .u8)) (hl0 : Lay.lies w w.heap.size vs0 a0) (vs1 : List Value) (a1 : Nm .i64 × Nm .u64 × Nm .u64 × List (Nm .u8)) (hl1 : Lay.lies w w.heap.size vs1 a1) :
    Calls Tryd.prog 7 #[.agg vs0.toArray, .agg vs1.toArray] w fun e w' => e = .returned (.bool true) ∧ Below w.heap.size w w' := by
  obtain ⟨A1, n1, c1, rfl, hn1, hc1, hr1⟩ := sheet4 hl0
  obtain ⟨A2, n2, c2, rfl, hn2, hc2, hr2⟩ := sheet4 hl1
  have hz1 := zsOf_u8 a0.2.2.2
  have hz2 := zsOf_u8 a1.2.2.2
  unfold maxLen at hc1 hc2
  generalize zsOf a0.2.2.2 = xs at hr1 hz1
  generalize zsOf a1.2.2.2 = ys at hr2 hz2
  generalize a0.1.z = k1
  generalize a0.2.1.z = x1
  generalize a0.2.2.1.z = y1
  generalize a1.1.z = k2
  generalize a1.2.1.z = x2
  generalize a1.2.2.1.z = y2
  clear hl0 hl1 a0 a1
  obtain ⟨w0, hw0⟩ : ∃ w0, (w.alloc (.cells #[.int .i64 k1, .int .u64 x1, .int .u64 y1, .slice A1 n1 c1] 35)).alloc (.cells #[.int .i64 k2, .int .u64 x2, .int .u64 y2, .slice A2 n2 c2] 35) = w0 := ⟨_, rfl⟩
  have hbel : Below w.heap.size w w0 := by rw [← hw0]; exact ((Below.refl _ _).alloc (Nat.le_refl _) _).alloc (by simp) _
  have c5 := awake20 w0 (ht.below hbel (Nat.le_refl _))
  rw [← hw0] at c5
  have HR1 := Lib.hid hr1
  have HR2 := Lib.hid hr2
  have HZ1 := Lib.hid hz1
  have HZ2 := Lib.hid hz2
  have HT := Lib.hid ht
  have HB := Lib.hid hbel
  have HW0 := Lib.hid hw0
  clear hr1 hr2 hz1 hz2 ht hbel hw0
  by_cases t1 : 3000 < n1
  · go_enter Tryd.func7, Tryd.ntmps7
    go_wp2_with fail
    refine c5.mono ?_
    rintro e w' ⟨rfl, hb⟩
    go_wp2
    go_ret
    rw [HW0.out] at hb
    exact ⟨rfl, HB.out.trans (hb.mono HB.out.size)⟩
  by_cases t2 : 3000 < n2
  · go_enter Tryd.func7, Tryd.ntmps7
    go_wp2_with fail
    refine c5.mono ?_
    rintro e w' ⟨rfl, hb⟩
    go_wp2
    go_ret
    rw [HW0.out] at hb
    exact ⟨rfl, HB.out.trans (hb.mono HB.out.size)⟩
  clear c5
  go_enter Tryd.func7, Tryd.ntmps7
  go_wp2_with fail
  rw [HW0.out]
  have b1 : Blk w0 w.heap.size 35 #[.int .i64 k1, .int .u64 x1, .int .u64 y1, .slice A1 n1 c1] := by rw [← HW0.out]; exact (Blk.new _ _ _).alloc _
  have b2 : Blk w0 (w.heap.size + 1) 35 #[.int .i64 k2, .int .u64 x2, .int .u64 y2, .slice A2 n2 c2] := by
    have := Blk.new (w.alloc (.cells #[.int .i64 k1, .int .u64 x1, .int .u64 y1, .slice A1 n1 c1] 35)) 35 #[.int .i64 k2, .int .u64 x2, .int .u64 y2, .slice A2 n2 c2]
    rw [← HW0.out]; simpa using this
  have p0 : ∀ u : Lat w0, u.1.cell? ⟨w.heap.size, 0, none⟩ = some (.int .i64 k1) := fun u => (b1.below u.2 b1.lt).cell 0
  have p1 : ∀ u : Lat w0, u.1.cell? ⟨w.heap.size, 1, none⟩ = some (.int .u64 x1) := fun u => (b1.below u.2 b1.lt).cell 1
  have p2 : ∀ u : Lat w0, u.1.cell? ⟨w.heap.size, 2, none⟩ = some (.int .u64 y1) := fun u => (b1.below u.2 b1.lt).cell 2
  have p3 : ∀ u : Lat w0, u.1.cell? ⟨w.heap.size, 3, none⟩ = some (.slice A1 n1 c1) := fun u => (b1.below u.2 b1.lt).cell 3
  have q0 : ∀ u : Lat w0, u.1.cell? ⟨w.heap.size + 1, 0, none⟩ = some (.int .i64 k2) := fun u => (b2.below u.2 b2.lt).cell 0
  have q1 : ∀ u : Lat w0, u.1.cell? ⟨w.heap.size + 1, 1, none⟩ = some (.int .u64 x2) := fun u => (b2.below u.2 b2.lt).cell 1
  have q2 : ∀ u : Lat w0, u.1.cell? ⟨w.heap.size + 1, 2, none⟩ = some (.int .u64 y2) := fun u => (b2.below u.2 b2.lt).cell 2
  have q3 : ∀ u : Lat w0, u.1.cell? ⟨w.heap.size + 1, 3, none⟩ = some (.slice A2 n2 c2) := fun u => (b2.below u.2 b2.lt).cell 3
  have r1 : Reads w0 w0.heap.size 1 A1 n1 (nums .u8 xs) := (HR1.out.below HB.out).more HB.out.size
  have r2 : Reads w0 w0.heap.size 1 A2 n2 (nums .u8 ys) := (HR2.out.below HB.out).more HB.out.size
  have f1 : ∀ u : Lat w0, Calls Tryd.prog 22 #[.agg #[.int .i64 k1, .int .u64 x1, .int .u64 y1, .slice A1 n1 c1], .agg #[.int .i64 k2, .int .u64 x2, .int .u64 y2, .slice A2 n2 c2]] u.1 fun e w' => e = .returned (.bool (k1 == k2 && (x1 == x2 && (y1 == y2 && xs == ys)))) ∧ ∃ u' : Lat w0, w' = u'.1 :=
    fun u => u.call (same_any _ _ _ _ _ _ _ _ _ _ _ _ _ _ _ (u.reads r1 (Nat.le_refl _)) (u.reads r2 (Nat.le_refl _)) HZ1.out HZ2.out (by omega) (by omega))
  have f2 : ∀ u : Lat w0, Calls Tryd.prog 23 #[.agg #[.int .i64 k1, .int .u64 x1, .int .u64 y1, .slice A1 n1 c1], .agg #[.int .i64 k2, .int .u64 x2, .int .u64 y2, .slice A2 n2 c2]] u.1 fun e w' => e = .returned (.bool (k1 == k2 && (x1 == x2 && (y1 == y2 && xs == ys)))) ∧ ∃ u' : Lat w0, w' = u'.1 :=
    fun u => u.call (refsame_any _ _ _ _ _ _ _ _ _ _ _ _ _ _ _ (u.reads r1 (Nat.le_refl _)) (u.reads r2 (Nat.le_refl _)) HZ1.out HZ2.out (by omega) (by omega))
  have f3 : ∀ u : Lat w0, Calls Tryd.prog 22 #[.agg #[.int .i64 k1, .int .u64 x1, .int .u64 y1, .slice A1 n1 c1], .agg #[.int .i64 k1, .int .u64 x1, .int .u64 y1, .slice A1 n1 c1]] u.1 fun e w' => e = .returned (.bool true) ∧ ∃ u' : Lat w0, w' = u'.1 := by
    intro u
    have h := u.call (same_any k1 x1 y1 k1 x1 y1 A1 A1 n1 c1 n1 c1 xs xs _ (u.reads r1 (Nat.le_refl _)) (u.reads r1 (Nat.le_refl _)) HZ1.out HZ1.out (by omega) (by omega))
    simpa using h
  have f4 : ∀ u : Lat w0, Calls Tryd.prog 21 #[] u.1 fun e w' => e = .returned (.bool true) ∧ ∃ u' : Lat w0, w' = u'.1 :=
    fun u => u.call (awake20 _ (HT.out.below (HB.out.trans (u.2.mono HB.out.size)) (Nat.le_refl _)))
  generalize (k1 == k2 && (x1 == x2 && (y1 == y2 && xs == ys))) = sb at f1 f2
  have F1 := Lib.hid f1
  have F2 := Lib.hid f2
  have F3 := Lib.hid f3
  have F4 := Lib.hid f4
  clear f1 f2 f3 f4 r1 r2 b1 b2
  refine wp_region_lat (by kernel_rfl) (by kernel_rfl) ?_
  repeat (go_big_quiet_step ((first | with_reducible exact F1.out _ | with_reducible exact F3.out _ | with_reducible exact F2.out _ | with_reducible exact F4.out _)))
  refine wpQuiet_nil ?_
  intro u hu
  clear p0 p1 p2 p3 q0 q1 q2 q3
  go_wp2
  go_ret
  exact ⟨rfl, HB.out.trans (hu.mono HB.out.size)⟩
end Go.Proofs.YtfgkbghagklacaaDoor
