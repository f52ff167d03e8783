/-
  Sets of dimensions as numbers, walked: package lattice's Sub, Count and Between from nothing, and the reference's Two, In, Sub and Masks.
-/
import Derived.Test.YtmnlaekcojblkaaAux
import Derived.Test.YtmnlaekcojblkaaAdvPlain
import Derived.Laws.BitsAllLaws
namespace Go.Proofs.Ytmnlaekcojblkaa
open Go.RowKit H
open Mk
set_option linter.unusedVariables false
theorem lsub_any (a b : Nat) (w : World) (ha : a < 4294967296) (hb : b < 4294967296) :
    Calls Try.prog 39 #[.int .u32 (a : Int), .int .u32 (b : Int)] w fun e w' => e = .returned (.bool (sb a b)) ∧ w = w' := by
  have e1 : decide (bits .andNot .u32 (a : Int) (b : Int) = 0) = sb a b := by
    rw [u32_andNot_nat a b ha hb, Bool.eq_iff_iff, ← andNot_zero ha hb, decide_eq_true_iff]
    omega
  refine enter Try.func39 rfl (by kernel_rfl) ?_
  refine J.seq ?_
  refine J.region ?_
  refine L.va rfl (X.assign (by conv => lhs; whnf)) ?_
  refine L.nil ?_
  refine J.seq ?_
  refine J.region ?_
  refine L.va rfl (X.move (by conv => lhs; whnf)) ?_
  refine L.va rfl (X.move (by conv => lhs; whnf)) ?_
  refine L.va rfl (X.andNot rfl rfl) ?_
  refine L.va rfl (X.eql rfl rfl) ?_
  refine L.va rfl (X.assign (by conv => lhs; whnf)) ?_
  refine L.nil ?_
  -- ret
  refine J.ret ?_
  refine fin1 ?_
  rw [e1]
  exact ⟨rfl, rfl⟩
theorem lcount_any (a : Nat) (w : World) (ha : a < 4294967296) :
    Calls Try.prog 40 #[.int .u32 (a : Int)] w fun e w' => e = .returned (.int .i64 (cnt 32 a : Int)) ∧ w = w' := by
  refine enter Try.func40 rfl (by kernel_rfl) ?_
  refine J.seq ?_
  refine J.region ?_
  refine L.va rfl (X.assign (by conv => lhs; whnf)) ?_
  refine L.nil ?_
  refine J.seq ?_
  refine J.region ?_
  refine L.va rfl (X.assign (by conv => lhs; whnf)) ?_
  refine L.nil ?_
  refine J.seq ?_
  refine J.block ?_
  -- loop
  refine J.loop (X := Nat × Nat) [0, 3, 4, 5, 6, 7, 8, 9, 10, 11] (fun x => [(0, .int .u32 (x.1 : Int)), (3, .int .i64 (x.2 : Int))]) (fun x w' => w' = w ∧ x.1 < 4294967296 ∧ x.2 + cnt 32 x.1 = cnt 32 a) (fun x => cnt 32 x.1) ((a, 0)) (At2 (by first | rfl | exact at_int rfl (by omega) | exact at_slice rfl (by omega) | exact at_int rfl (by simp)) (by first | rfl | exact at_int rfl (by omega) | exact at_slice rfl (by omega) | exact at_int rfl (by simp))) ?_ ?_
  · exact ⟨rfl, ha, by simp⟩
  · rintro ⟨x, n⟩ g w1 ⟨rfl, hx, hn⟩
    dsimp only at hx hn
    have hc := cnt_le 32 a
    refine J.seq ?_
    refine J.seq ?_
    refine J.region ?_
    refine L.va rfl (X.move (by conv => lhs; whnf)) ?_
    refine L.va rfl (X.neq rfl rfl) ?_
    refine L.nil ?_
    -- cond
    refine J.ndec rfl (fun hne => ?_) (fun hne => ?_)
    · have hx0 : x ≠ 0 := by intro h; apply hne; rw [h]; rfl
      have e : bits .and .u32 (x : Int) (IntKind.u32.wrap ((x : Int) - 1)) = ((x &&& (x - 1) : Nat) : Int) := by
        rw [w32 (by omega), show (x : Int) - 1 = ((x - 1 : Nat) : Int) by omega, u32_and_nat x (x - 1) hx (by omega)]
      have hlow := cnt_low 32 x hx hx0
      have hlt : x &&& (x - 1) < 4294967296 := Nat.lt_of_le_of_lt Nat.and_le_left hx
      refine J.skip ?_
      refine J.seq ?_
      refine J.block ?_
      refine J.region ?_
      refine L.va rfl (X.move (by conv => lhs; whnf)) ?_
      refine L.va rfl (X.add rfl rfl (by omega)) ?_
      refine L.va rfl (X.assign (by conv => lhs; whnf)) ?_
      refine L.nil ?_
      refine J.region ?_
      refine L.va rfl (X.move (by conv => lhs; whnf)) ?_
      refine L.va rfl (X.move (by conv => lhs; whnf)) ?_
      refine L.va rfl (X.subw rfl rfl) ?_
      refine L.va rfl (X.and rfl rfl) ?_
      refine L.va rfl (X.assign (by conv => lhs; whnf)) ?_
      refine L.nil ?_
      -- loopend
      refine ⟨(x &&& (x - 1), n + 1), At2 (at_int rfl e) (rfl), (by (iterate 10 refine Agr.lk rfl ?_); exact Agr.lk rfl (Agr.hav rfl Agr.rfl')), ?_⟩
      exact ⟨⟨rfl, hlt, by dsimp only; omega⟩, by dsimp only; omega⟩
    · obtain rfl : x = 0 := by omega
      rw [cnt_zero] at hn
      refine J.exit ?_
      refine J.seq ?_
      refine J.region ?_
      refine L.va rfl (X.move (by conv => lhs; whnf)) ?_
      refine L.va rfl (X.assign (by conv => lhs; whnf)) ?_
      refine L.nil ?_
      -- ret
      refine J.ret ?_
      refine fin1 ?_
      exact ⟨by rw [← hn]; rfl, rfl⟩
/-- all sets within v -/
theorem lbetween_any (v : Nat) (w : World) (hv : v < 4096) :
    Calls Try.prog 37 #[.int .u32 0, .int .u32 (v : Int)] w fun e w' => ∃ A c, e = .returned (.tuple #[.slice A (subs v).length c, .int .i64 0]) ∧ w'.ownsRow w.heap.size 53 1 (.slice A (subs v).length c) (subs v).length (nums .u32 (zl (subs v))) ∧ Ext w w' := by
  have c1 := lsub_any 0 v w (by omega) (by omega)
  rw [sb_zero] at c1
  have e2 : bits .andNot .u32 (v : Int) 0 = (v : Int) := by
    have := u32_andNot_nat v 0 (by omega) (by omega)
    rw [show ((0 : Nat) : Int) = 0 from rfl] at this
    rw [this]
    have : v &&& 4294967295 = v := by
      have := Nat.and_two_pow_sub_one_eq_mod v 32
      rw [show 2 ^ 32 - 1 = 4294967295 by decide] at this
      rw [this]; exact Nat.mod_eq_of_lt (by omega)
    rw [this]
  have hc : cnt 32 v ≤ 12 := by rw [cnt_small 12 32 v (by omega) (by omega)]; exact cnt_le 12 v
  have enx : ∀ s : Nat, s ≤ v → bits .and .u32 (IntKind.u32.wrap ((s : Int) - (v : Int))) (v : Int) = ((nx v s : Nat) : Int) := by
    intro s hs
    have : IntKind.u32.wrap ((s : Int) - (v : Int)) = (((s + 4294967296 - v) % 4294967296 : Nat) : Int) := by
      rw [IntKind.wrap_u32']; omega
    rw [this, u32_and_nat _ v (Nat.mod_lt _ (by decide)) (by omega)]
    rfl
  refine enter Try.func37 rfl (by kernel_rfl) ?_
  refine J.seq ?_
  refine J.region ?_
  refine L.va rfl (X.assign (by conv => lhs; whnf)) ?_
  refine L.va rfl (X.assign (by conv => lhs; whnf)) ?_
  refine L.nil ?_
  refine J.seq ?_
  refine J.seq ?_
  refine J.region ?_
  refine L.va rfl (X.move (by conv => lhs; whnf)) ?_
  refine L.va rfl (X.move (by conv => lhs; whnf)) ?_
  -- callfn bushel/lattice.Sub
  refine L.call rfl en_39 rfl (c1) ?_
  rintro e _ ⟨rfl, rfl⟩
  refine ⟨_, rfl, ?_⟩
  refine L.va rfl (X.not rfl) ?_
  refine L.nil ?_
  -- cond
  refine J.iteF rfl ?_
  refine J.skip ?_
  refine J.seq ?_
  refine J.region ?_
  refine L.va rfl (X.move (by conv => lhs; whnf)) ?_
  refine L.va rfl (X.move (by conv => lhs; whnf)) ?_
  refine L.va rfl (X.andNot rfl rfl) ?_
  refine L.va rfl (X.assign (by conv => lhs; whnf)) ?_
  refine L.nil ?_
  -- until
  rw [e2]
  refine J.seq ?_
  refine J.seq ?_
  refine J.region ?_
  refine L.va rfl (X.move (by conv => lhs; whnf)) ?_
  -- callfn bushel/lattice.Count
  refine L.call rfl en_40 rfl (lcount_any v _ (by omega)) ?_
  rintro e _ ⟨rfl, rfl⟩
  refine ⟨_, rfl, ?_⟩
  refine L.va rfl (X.gtr rfl rfl) ?_
  refine L.nil ?_
  -- cond
  refine J.decF rfl (by omega) ?_
  refine J.skip ?_
  refine J.seq ?_
  refine J.region ?_
  refine L.va rfl (X.move (by conv => lhs; whnf)) ?_
  -- buildSlice
  refine L.bslice (vs := [_]) rfl (Evs.cons (by conv => lhs; whnf) Evs.nil) rfl rfl rfl rfl Try.underlying54 sz_53 zr_53 (by decide) ?_
  intro b w1 hb hs hk he
  have ho := blk_own1 hk (by omega : w.heap.size ≤ b) (by decide) rfl
  refine L.va rfl (X.assign (by conv => lhs; whnf)) ?_
  refine L.nil ?_
  -- until
  refine J.seq ?_
  refine J.seq ?_
  refine J.region ?_
  refine L.va rfl (X.move (by conv => lhs; whnf)) ?_
  refine L.va rfl (X.negw rfl) ?_
  refine L.va rfl (X.move (by conv => lhs; whnf)) ?_
  refine L.va rfl (X.and rfl rfl) ?_
  refine L.va rfl (X.assign (by conv => lhs; whnf)) ?_
  refine L.nil ?_
  refine J.block ?_
  -- loop
  have e0 := enx 0 (by omega)
  rw [show ((0 : Nat) : Int) = 0 from rfl] at e0
  rw [e0]
  have hl0 : upto v (if nx v 0 = 0 then v + 1 else nx v 0) = [0] := by rw [upto_next v 0 (by omega) (sb_zero v)]; rfl
  refine J.loop (X := Nat × Nat × Option Addr × Nat) [7, 8, 25, 26, 27, 28, 29, 30, 31, 32, 33, 34, 35, 36, 37] (fun x => [(8, .int .u32 (x.1 : Int)), (7, .slice x.2.2.1 x.2.1 x.2.2.2)]) (fun x w' => sb x.1 v = true ∧ x.2.1 = (upto v (if x.1 = 0 then v + 1 else x.1)).length ∧ w'.ownsRow w.heap.size 53 1 (.slice x.2.2.1 x.2.1 x.2.2.2) x.2.1 (nums .u32 (zl (upto v (if x.1 = 0 then v + 1 else x.1)))) ∧ Ext w w') (fun x => if x.1 = 0 then 0 else v + 1 - x.1) ((nx v 0, 1, some ⟨b, 0, none⟩, 1)) (At2 (by first | rfl | exact at_int rfl (by omega) | exact at_slice rfl (by omega) | exact at_int rfl (by simp)) (by first | rfl | exact at_int rfl (by omega) | exact at_slice rfl (by omega) | exact at_int rfl (by simp))) ?_ ?_
  · exact ⟨nx_sb v 0, by rw [hl0]; rfl, by rw [hl0]; exact ho, he⟩
  · rintro ⟨s, n, A, c⟩ g w2 ⟨h1, h2, h3, h4⟩
    dsimp only at h1 h2 h3 h4
    have hsv := sb_le h1
    have hz2 := h4.le
    have hnl : n ≤ v + 1 := by
      rw [h2]; unfold upto
      refine Nat.le_trans (List.length_filter_le _ _) ?_
      rw [List.length_range]; split <;> omega
    refine J.seq ?_
    refine J.seq ?_
    refine J.region ?_
    refine L.va rfl (X.move (by conv => lhs; whnf)) ?_
    refine L.va rfl (X.neq rfl rfl) ?_
    refine L.nil ?_
    -- cond
    refine J.ndec rfl (fun hne => ?_) (fun hne => ?_)
    · have hs0 : s ≠ 0 := by intro h; apply hne; rw [h]; rfl
      rw [if_neg hs0] at h2 h3
      have eor : bits .or .u32 0 (s : Int) = (s : Int) := by
        have := u32_or_nat 0 s (by omega) (by omega)
        rw [show ((0 : Nat) : Int) = 0 from rfl] at this
        rw [this, Nat.zero_or]
      have hnx := upto_next v s (by omega) h1
      have es := enx s hsv
      refine J.skip ?_
      refine J.seq ?_
      refine J.block ?_
      refine J.region ?_
      refine L.va rfl (X.move (by conv => lhs; whnf)) ?_
      refine L.va rfl (X.move (by conv => lhs; whnf)) ?_
      refine L.va rfl (X.move (by conv => lhs; whnf)) ?_
      refine L.va rfl (X.or rfl rfl) ?_
      -- buildSlice
      refine L.bslice (vs := [_]) rfl (Evs.cons (by conv => lhs; whnf) Evs.nil) rfl rfl rfl rfl Try.underlying54 sz_53 zr_53 (by decide) ?_
      intro b3 w3 hb3 hs3 hk3 he3
      rw [eor] at hk3
      -- append
      refine L.appendQ (q := n + 1) (ys := zl (upto v s) ++ [(s : Int)]) rfl rfl rfl Try.underlying54 el_53 (h3.ext he3) ((blk_reads (q := 1) (l := nums .u32 [(s : Int)]) hk3 (by omega : b3 < w3.heap.size) rfl)) (by omega) (by simp) (by unfold maxLen; omega) (by omega) ?_
      intro A4 c4 w4 ho4 hg4 hb4 hor4
      rw [← zl_snoc, ← hnx] at ho4
      have h4' : Ext w w4 := (h4.trans he3).low hb4 (Nat.le_refl _)
      refine L.va rfl (X.assign (by conv => lhs; whnf)) ?_
      refine L.nil ?_
      refine J.region ?_
      refine L.va rfl (X.move (by conv => lhs; whnf)) ?_
      refine L.va rfl (X.move (by conv => lhs; whnf)) ?_
      refine L.va rfl (X.subw rfl rfl) ?_
      refine L.va rfl (X.move (by conv => lhs; whnf)) ?_
      refine L.va rfl (X.and rfl rfl) ?_
      refine L.va rfl (X.assign (by conv => lhs; whnf)) ?_
      refine L.nil ?_
      -- loopend
      refine ⟨(nx v s, n + 1, A4, c4), At2 (at_int rfl es) (rfl), (by (iterate 15 refine Agr.lk rfl ?_); exact Agr.lk rfl (Agr.hav rfl Agr.rfl')), ?_⟩
      refine ⟨⟨nx_sb v s, ?_, ho4, h4'⟩, ?_⟩
      · rw [hnx, List.length_append, ← h2]; rfl
      · dsimp only
        rw [if_neg hs0]
        by_cases he : s = v
        · rw [he, nx_last, if_pos rfl]; omega
        · have := (nx_spec v s (by omega) h1 (by omega)).1
          rw [if_neg (by omega)]; omega
    · obtain rfl : s = 0 := by omega
      rw [if_pos rfl] at h2 h3
      subst h2
      refine J.exit ?_
      refine J.seq ?_
      refine J.region ?_
      refine L.va rfl (X.move (by conv => lhs; whnf)) ?_
      refine L.va rfl (X.assign (by conv => lhs; whnf)) ?_
      refine L.va rfl (X.assign (by conv => lhs; whnf)) ?_
      refine L.nil ?_
      -- ret
      refine J.ret ?_
      refine fin2 ?_
      exact ⟨A, c, rfl, h3, h4⟩
end Go.Proofs.Ytmnlaekcojblkaa
