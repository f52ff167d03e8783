/-
  Packages query, lattice and plan: what is asked, the least view; the reference's.
-/
import Derived.Test.YtlohbkcedpkjaaaPlanPlain
import Derived.Test.YtlohbkcedpkjaaaWQryD
namespace Go.Proofs.Ytlohbkcedpkjaaa
set_option maxRecDepth 100000
open Go.RowKit H
open Mk
set_option linter.unusedVariables false
theorem qneed_lt {q : Qu} (hg : q.g < 4294967296) : qneed q < 4294967296 := Nat.or_lt_two_pow (n := 32) hg (fneed_lt _)
theorem qneed_ (q : Qu) {w : World} (hq : q.At w.heap.size w) : Calls Try.prog 49 #[q.val] w fun e w' => e = .returned (.int .u32 ((qneed q : Nat) : Int)) ∧ Ext w w' := by
  have hg := hq.g
  refine enter Try.func49 rfl (by kernel_rfl) ?_
  refine J.seq ?_
  refine J.region ?_
  -- box
  refine L.boxA (l := [_, _, _, _, _]) rfl rfl ?_
  intro b1 w1 hb1 hs1 hk1 he1
  have hk1 : Blk w1 b1 40 q.vs.toArray := hk1
  have q1 := hq.ext he1
  have z1 := he1.le
  refine L.va rfl (X.assign (by conv => lhs; whnf)) ?_
  refine L.nil ?_
  refine J.seq ?_
  -- draw
  refine J.quiet mixed (by kernel_rfl) ?_
  -- t8
  refine Qt.va rfl (fun w' hw => X.fieldAddr rfl Try.underlying40 rfl sz_35 (by decide)) ?_
  refine Qt.va rfl (fun w' hw => X.load rfl sc_35 (by first | exact Ld.blk (hk1.ext hw) rfl)) ?_
  refine Qt.va rfl (fun w' hw => X.fieldAddr rfl Try.underlying40 rfl sz_36 (by decide)) ?_
  refine Qt.va rfl (fun w' hw => X.load rfl sc_36 (by first | exact Ld.blk (hk1.ext hw) rfl)) ?_
  -- callfn bushel/filter.Need
  refine Qt.call rfl en_102 rfl (fun w' hw => calls_ext hw (fneed_ q.f w' ((q1.f.ext hw).more (Nat.le_trans z1 hw.le)))) ?_
  refine Qt.va rfl (fun w' hw => X.orE rfl rfl (show bits .or .u32 (q.g : Int) ((fneed q.f.l : Nat) : Int) = ((qneed q : Nat) : Int) from u32_or_nat _ _ hg (fneed_lt _))) ?_
  refine Qt.va rfl (fun w' hw => X.assign (by conv => lhs; whnf)) ?_
  refine Qt.nil (fun w2 hw2 => ?_)
  replace hk1 := hk1.ext hw2
  -- ret
  refine J.ret ?_
  refine fin1 ?_
  exact ⟨rfl, he1.trans hw2⟩
theorem rqneed_ (q : Qu) {w : World} (hq : q.At w.heap.size w) : Calls Try.prog 57 #[q.val] w fun e w' => e = .returned (.int .u32 ((qneed q : Nat) : Int)) ∧ Ext w w' := by
  have hg := hq.g
  have hf := fneed_lt q.f.l
  refine enter Try.func57 rfl (by kernel_rfl) ?_
  refine J.seq ?_
  refine J.region ?_
  -- box
  refine L.boxA (l := [_, _, _, _, _]) rfl rfl ?_
  intro b1 w1 hb1 hs1 hk1 he1
  have hk1 : Blk w1 b1 40 q.vs.toArray := hk1
  have q1 := (hq.ext he1).more he1.le
  refine L.va rfl (X.assign (by conv => lhs; whnf)) ?_
  refine L.nil ?_
  refine J.seq ?_
  refine J.region ?_
  refine L.va rfl (X.fieldAddr rfl Try.underlying40 rfl sz_36 (by decide)) ?_
  refine L.va rfl (X.load rfl sc_36 (by first | exact Ld.blk hk1 rfl)) ?_
  -- callfn bushel/bushelref28.Need
  refine L.call rfl en_105 rfl (rfneed_ q.f w1 q1.f) ?_
  rintro e _ ⟨rfl, rfl⟩
  refine ⟨_, rfl, ?_⟩
  refine L.va rfl (X.assign (by conv => lhs; whnf)) ?_
  refine L.nil ?_
  refine J.seq ?_
  refine J.seq ?_
  refine J.region ?_
  refine L.va rfl (X.assign (by conv => lhs; whnf)) ?_
  refine L.nil ?_
  refine J.block ?_
  -- loop
  refine J.loop (X := Nat × Nat) [3, 4, 8, 9, 10, 11, 12, 13, 14, 15, 16, 17, 18, 19, 20, 21, 22, 23, 24, 25] (fun (d, x) => [(4, .int .i64 (d : Int)), (3, .int .u32 ((x : Nat) : Int))]) (fun (d, x) w' => w' = w1 ∧ d ≤ 32 ∧ x = fneed q.f.l ||| (q.g % 2 ^ d)) (fun (d, _) => 32 - d) ((0, fneed q.f.l)) (At2 (by first | rfl | exact at_int rfl (by omega) | exact at_slice rfl (by omega) | exact at_int rfl (by simp)) (by first | rfl | exact at_int rfl (by omega) | exact at_slice rfl (by omega) | exact at_int rfl (by simp))) ?_ ?_
  · exact ⟨rfl, Nat.zero_le _, by simp [Nat.mod_one]⟩
  · rintro ⟨d, x⟩ g w2 ⟨rfl, hd, hx⟩
    have hx32 : x < 4294967296 := by rw [hx]; exact Nat.or_lt_two_pow (n := 32) hf (mod_lt32 hg)
    refine J.seq ?_
    refine J.seq ?_
    refine J.region ?_
    refine L.va rfl (X.move (by conv => lhs; whnf)) ?_
    refine L.va rfl (X.lss rfl rfl) ?_
    refine L.nil ?_
    -- cond
    refine J.dec rfl (fun hlt => ?_) (fun hlt => ?_)
    · have hd32 : d < 32 := by omega
      have hnx := or_next (a := fneed q.f.l) (b := q.g) (d := d) hx
      have hn32 : fneed q.f.l ||| (q.g % 2 ^ (d + 1)) < 4294967296 := Nat.or_lt_two_pow (n := 32) hf (mod_lt32 hg)
      refine J.skip ?_
      refine J.seq ?_
      refine J.block ?_
      refine J.seq ?_
      refine J.region ?_
      refine L.va rfl (X.fieldAddr rfl Try.underlying40 rfl sz_35 (by decide)) ?_
      refine L.va rfl (X.load rfl sc_35 (by first | exact Ld.blk hk1 rfl)) ?_
      refine L.va rfl (X.move (by conv => lhs; whnf)) ?_
      -- callfn bushel/bushelref11.In
      refine L.call rfl en_104 rfl (rin_any q.g d w2 hg hd32) ?_
      rintro e _ ⟨rfl, rfl⟩
      refine ⟨_, rfl, ?_⟩
      refine L.va rfl (X.move (by conv => lhs; whnf)) ?_
      -- case t16
      have hc : (q.g.testBit d = true ∧ x.testBit d = false) ∨ (q.g.testBit d = true ∧ x.testBit d = true) ∨ q.g.testBit d = false := by cases q.g.testBit d <;> cases x.testBit d <;> simp
      rcases hc with ⟨k1, k2⟩ | ⟨k1, k2⟩ | k1
      · rw [if_pos ⟨k1, k2⟩] at hnx
        rw [k1]
        refine L.caseBT (k := 16) rfl (by rfl) ?_
        refine L.va rfl (X.move (by conv => lhs; whnf)) ?_
        refine L.va rfl (X.move (by conv => lhs; whnf)) ?_
        -- callfn bushel/bushelref11.In
        refine L.call rfl en_104 rfl (rin_any x d w2 hx32 hd32) ?_
        rintro e _ ⟨rfl, rfl⟩
        refine ⟨_, rfl, ?_⟩
        rw [k2]
        refine L.va rfl (X.not rfl) ?_
        refine L.va rfl (X.pickT rfl (by conv => lhs; whnf)) ?_
        refine L.nil ?_
        -- cond
        refine J.iteT rfl ?_
        refine J.region ?_
        refine L.va rfl (X.move (by conv => lhs; whnf)) ?_
        refine L.va rfl (X.move (by conv => lhs; whnf)) ?_
        -- callfn bushel/bushelref11.Two
        refine L.call rfl en_96 rfl (rtwo_any d w2 hd32) ?_
        rintro e _ ⟨rfl, rfl⟩
        refine ⟨_, rfl, ?_⟩
        -- t25
        refine L.va rfl (X.addE rfl rfl (show IntKind.u32.wrap ((x : Int) + ((2 ^ d : Nat) : Int)) = ((x + 2 ^ d : Nat) : Int) by rw [← hnx] at hn32; rw [w32 (by omega)]; omega)) ?_
        refine L.va rfl (X.assign (by conv => lhs; whnf)) ?_
        refine L.nil ?_
        refine J.region ?_
        refine L.va rfl (X.move (by conv => lhs; whnf)) ?_
        refine L.va rfl (X.add rfl rfl (by omega)) ?_
        refine L.va rfl (X.assign (by conv => lhs; whnf)) ?_
        refine L.nil ?_
        -- loopend
        refine ⟨(d + 1, x + 2 ^ d), At2 (by first | rfl | exact at_int rfl (by omega) | exact at_slice rfl (by omega) | exact at_int rfl (by simp)) (by first | rfl | exact at_int rfl (by omega) | exact at_slice rfl (by omega) | exact at_int rfl (by simp)), (by (iterate 21 refine Agr.lk rfl ?_); exact Agr.lk rfl (Agr.hav rfl Agr.rfl')), ?_⟩
        exact ⟨⟨rfl, by omega, hnx⟩, by show 32 - (d + 1) < 32 - d; omega⟩
      · rw [if_neg (fun h => by rw [k2] at h; exact absurd h.2 (by decide))] at hnx
        rw [k1]
        refine L.caseBT (k := 16) rfl (by rfl) ?_
        refine L.va rfl (X.move (by conv => lhs; whnf)) ?_
        refine L.va rfl (X.move (by conv => lhs; whnf)) ?_
        -- callfn bushel/bushelref11.In
        refine L.call rfl en_104 rfl (rin_any x d w2 hx32 hd32) ?_
        rintro e _ ⟨rfl, rfl⟩
        refine ⟨_, rfl, ?_⟩
        rw [k2]
        refine L.va rfl (X.not rfl) ?_
        refine L.va rfl (X.pickT rfl (by conv => lhs; whnf)) ?_
        refine L.nil ?_
        -- cond
        refine J.iteF rfl ?_
        refine J.skip ?_
        refine J.region ?_
        refine L.va rfl (X.move (by conv => lhs; whnf)) ?_
        refine L.va rfl (X.add rfl rfl (by omega)) ?_
        refine L.va rfl (X.assign (by conv => lhs; whnf)) ?_
        refine L.nil ?_
        -- loopend
        refine ⟨(d + 1, x), At2 (by first | rfl | exact at_int rfl (by omega) | exact at_slice rfl (by omega) | exact at_int rfl (by simp)) (by first | rfl | exact at_int rfl (by omega) | exact at_slice rfl (by omega) | exact at_int rfl (by simp)), (by (iterate 16 refine Agr.lk rfl ?_); exact Agr.lk rfl (Agr.hav rfl Agr.rfl')), ?_⟩
        exact ⟨⟨rfl, by omega, hnx⟩, by show 32 - (d + 1) < 32 - d; omega⟩
      · rw [if_neg (fun h => by rw [k1] at h; exact absurd h.1 (by decide))] at hnx
        rw [k1]
        refine L.caseBF (k := 16) rfl (by rfl) ?_
        refine L.no rfl ?_
        refine L.no rfl ?_
        refine L.no rfl ?_
        refine L.no rfl ?_
        refine L.va rfl (X.pickF rfl (by conv => lhs; whnf)) ?_
        refine L.nil ?_
        -- cond
        refine J.iteF rfl ?_
        refine J.skip ?_
        refine J.region ?_
        refine L.va rfl (X.move (by conv => lhs; whnf)) ?_
        refine L.va rfl (X.add rfl rfl (by omega)) ?_
        refine L.va rfl (X.assign (by conv => lhs; whnf)) ?_
        refine L.nil ?_
        -- loopend
        refine ⟨(d + 1, x), At2 (by first | rfl | exact at_int rfl (by omega) | exact at_slice rfl (by omega) | exact at_int rfl (by simp)) (by first | rfl | exact at_int rfl (by omega) | exact at_slice rfl (by omega) | exact at_int rfl (by simp)), (by (iterate 16 refine Agr.lk rfl ?_); exact Agr.lk rfl (Agr.hav rfl Agr.rfl')), ?_⟩
        exact ⟨⟨rfl, by omega, hnx⟩, by show 32 - (d + 1) < 32 - d; omega⟩
    · obtain rfl : d = 32 := by omega
      have e : x = qneed q := by rw [hx, mod_all hg, Nat.or_comm]; rfl
      rw [e]
      refine J.exit ?_
      refine J.seq ?_
      refine J.region ?_
      refine L.va rfl (X.move (by conv => lhs; whnf)) ?_
      refine L.va rfl (X.assign (by conv => lhs; whnf)) ?_
      refine L.nil ?_
      -- ret
      refine J.ret ?_
      refine fin1 ?_
      exact ⟨rfl, he1⟩
theorem lsubP (a b : Nat) (w : World) (ha : a < 4294967296) (hb : b < 4294967296) :
    Calls Try.prog 48 #[.int .u32 (a : Int), .int .u32 (b : Int)] w fun e w' => e = .returned (.bool (sb a b)) ∧ w = w' := by
  have e1 : decide (bits .andNot .u32 (a : Int) (b : Int) = 0) = sb a b := by
    rw [u32_andNot_nat a b ha hb, Bool.eq_iff_iff, ← andNot_zero ha hb, decide_eq_true_iff]
    omega
  refine enter Try.func48 rfl (by kernel_rfl) ?_
  refine J.seq ?_
  refine J.region ?_
  refine L.va rfl (X.assign (by conv => lhs; whnf)) ?_
  refine L.nil ?_
  refine J.seq ?_
  refine J.region ?_
  refine L.va rfl (X.move (by conv => lhs; whnf)) ?_
  refine L.va rfl (X.move (by conv => lhs; whnf)) ?_
  refine L.va rfl (X.andNot rfl rfl) ?_
  refine L.va rfl (X.eql rfl rfl) ?_
  refine L.va rfl (X.assign (by conv => lhs; whnf)) ?_
  refine L.nil ?_
  -- ret
  refine J.ret ?_
  refine fin1 ?_
  rw [e1]
  exact ⟨rfl, rfl⟩
theorem szA_big {z : List Int} {i : Nat} (h : z.length ≤ i) : szA z (i : Int) = 0 := by unfold szA; rw [Int.toNat_natCast, List.getD, List.getElem?_eq_none h]; rfl
theorem lsize (A : Option Addr) (n c : Nat) (z : List Int) (i : Nat) {N : Nat} {w : World} (hr : Reads w N 1 A n (nums .i64 z)) :
    Calls Try.prog 103 #[.slice A n c, .int .i64 (i : Int)] w fun e w' => e = .returned (.int .i64 (szA z (i : Int))) ∧ w = w' := by
  have hl : z.length = n := by have := hr.1; simpa [nums] using this
  refine enter Try.func103 rfl (by kernel_rfl) ?_
  refine J.seq ?_
  refine J.region ?_
  refine L.va rfl (X.assign (by conv => lhs; whnf)) ?_
  refine L.nil ?_
  refine J.seq ?_
  refine J.seq ?_
  refine J.region ?_
  refine L.va rfl (X.move (by conv => lhs; whnf)) ?_
  refine L.va rfl (X.move (by conv => lhs; whnf)) ?_
  refine L.va rfl (X.len rfl Try.underlying25) ?_
  refine L.va rfl (X.lss rfl rfl) ?_
  refine L.nil ?_
  -- cond
  refine J.dec rfl (fun h => ?_) (fun h => ?_)
  · have hA := hr.some_ (by omega)
    refine J.seq ?_
    refine J.region ?_
    refine L.va rfl (X.move (by conv => lhs; whnf)) ?_
    refine L.va rfl (X.move (by conv => lhs; whnf)) ?_
    refine L.va rfl ((by first | exact X.index1n rfl rfl Try.underlying25 sz_3 (by first | exact Option.some_ne_none _ | exact hr.some_ (by omega) | exact hA) (by omega) | exact X.index1 rfl rfl Try.underlying25 sz_3 (by first | exact Option.some_ne_none _ | exact hr.some_ (by omega) | exact hA) (by omega))) ?_
    refine L.va rfl (X.load rfl sc_3 (by first | exact Ld.num hr (by omega) | exact hA)) ?_
    refine L.va rfl (X.assign (by conv => lhs; whnf)) ?_
    refine L.nil ?_
    -- ret
    refine J.ret ?_
    refine thn_ret <| ?_
    refine fin1 ?_
    exact ⟨rfl, rfl⟩
  · rw [szA_big (by omega)]
    refine J.skip ?_
    refine J.seq ?_
    refine J.region ?_
    refine L.va rfl (X.assign (by conv => lhs; whnf)) ?_
    refine L.nil ?_
    -- ret
    refine J.ret ?_
    refine fin1 ?_
    exact ⟨rfl, rfl⟩
theorem rsize30 (A : Option Addr) (n c : Nat) (z : List Int) (i : Nat) {N : Nat} {w : World} (hr : Reads w N 1 A n (nums .i64 z)) :
    Calls Try.prog 20 #[.slice A n c, .int .i64 (i : Int)] w fun e w' => e = .returned (.int .i64 (szA z (i : Int))) ∧ w = w' := by
  have hl : z.length = n := by have := hr.1; simpa [nums] using this
  refine enter Try.func20 rfl (by kernel_rfl) ?_
  refine J.seq ?_
  refine J.region ?_
  refine L.va rfl (X.assign (by conv => lhs; whnf)) ?_
  refine L.nil ?_
  refine J.seq ?_
  refine J.seq ?_
  refine J.region ?_
  refine L.va rfl (X.move (by conv => lhs; whnf)) ?_
  refine L.va rfl (X.move (by conv => lhs; whnf)) ?_
  refine L.va rfl (X.len rfl Try.underlying25) ?_
  refine L.va rfl (X.lss rfl rfl) ?_
  refine L.nil ?_
  -- cond
  refine J.dec rfl (fun h => ?_) (fun h => ?_)
  · have hA := hr.some_ (by omega)
    refine J.seq ?_
    refine J.region ?_
    refine L.va rfl (X.move (by conv => lhs; whnf)) ?_
    refine L.va rfl (X.move (by conv => lhs; whnf)) ?_
    refine L.va rfl ((by first | exact X.index1n rfl rfl Try.underlying25 sz_3 (by first | exact Option.some_ne_none _ | exact hr.some_ (by omega) | exact hA) (by omega) | exact X.index1 rfl rfl Try.underlying25 sz_3 (by first | exact Option.some_ne_none _ | exact hr.some_ (by omega) | exact hA) (by omega))) ?_
    refine L.va rfl (X.load rfl sc_3 (by first | exact Ld.num hr (by omega) | exact hA)) ?_
    refine L.va rfl (X.assign (by conv => lhs; whnf)) ?_
    refine L.nil ?_
    -- ret
    refine J.ret ?_
    refine thn_ret <| ?_
    refine fin1 ?_
    exact ⟨rfl, rfl⟩
  · rw [szA_big (by omega)]
    refine J.skip ?_
    refine J.seq ?_
    refine J.region ?_
    refine L.va rfl (X.assign (by conv => lhs; whnf)) ?_
    refine L.nil ?_
    -- ret
    refine J.ret ?_
    refine fin1 ?_
    exact ⟨rfl, rfl⟩
/-- sets as they lie -/
def setsOk (V : List Int) : Prop := ∀ i, 0 ≤ V.getD i 0 ∧ V.getD i 0 < 4294967296
theorem vN_is {V : List Int} (h : setsOk V) (i : Nat) : V.getD i 0 = ((vN V i : Nat) : Int) ∧ vN V i < 4294967296 := by
  have := h i
  unfold vN
  omega
theorem lcover (AV : Option Addr) (nV cV' : Nat) (V : List Int) (A : Option Addr) (n c : Nat) (z : List Int) (N : Nat) {w : World} {B1 B2 : Nat} (hV : Reads w B1 1 AV nV (nums .u32 V)) (hr : Reads w B2 1 A n (nums .i64 z)) (hs : setsOk V) (hN : N < 4294967296) (hnV : nV ≤ 1000000) :
    Calls Try.prog 50 #[.slice AV nV cV', .slice A n c, .int .u32 (N : Int)] w fun e w' => e = .returned (.int .i64 (cvA V N z nV)) ∧ w = w' := by
  have hl : V.length = nV := by have := hV.1; simpa [nums] using this
  refine enter Try.func50 rfl (by kernel_rfl) ?_
  refine J.seq ?_
  refine J.region ?_
  refine L.va rfl (X.assign (by conv => lhs; whnf)) ?_
  refine L.nil ?_
  refine J.seq ?_
  refine J.region ?_
  refine L.va rfl (X.assign (by conv => lhs; whnf)) ?_
  refine L.nil ?_
  refine J.seq ?_
  refine J.seq ?_
  refine J.region ?_
  refine L.va rfl (X.move (by conv => lhs; whnf)) ?_
  refine L.va rfl (X.len rfl Try.underlying32) ?_
  refine L.va rfl (X.move (by conv => lhs; whnf)) ?_
  refine L.nil ?_
  refine J.block ?_
  -- loop
  refine J.loop (X := Nat) [7, 8, 9, 12, 13, 14, 15, 16, 17, 18, 19, 20, 21, 22, 23, 24, 25, 26, 27, 28, 29, 30, 31, 32, 33, 34] (fun i => [(12, .int .i64 (i : Int)), (7, .int .i64 (cvA V N z i))]) (fun i w' => w' = w ∧ i ≤ nV) (fun i => nV - i) (0) (At2 (by first | rfl | exact at_int rfl (by omega) | exact at_slice rfl (by omega) | exact at_int rfl (by simp)) (by first | rfl | exact at_int rfl (by omega) | exact at_slice rfl (by omega) | exact at_int rfl (by simp))) ?_ ?_
  · exact ⟨rfl, Nat.zero_le _⟩
  · rintro i g w1 ⟨rfl, hi⟩
    refine J.seq ?_
    refine J.region ?_
    refine L.va rfl (X.lss rfl rfl) ?_
    refine L.nil ?_
    refine J.seq ?_
    -- cond
    refine J.dec rfl (fun hlt => ?_) (fun hlt => ?_)
    · have hA := hV.some_ (by omega)
      have hb := cvA_bd V N z i
      obtain ⟨e1, e2⟩ := vN_is hs i
      have hst : cvA V N z (i + 1) = if sb N (vN V i) = true ∧ (cvA V N z i < 0 ∨ szA z i < szA z (cvA V N z i)) then (i : Int) else cvA V N z i := rfl
      have hld : Ld w1 (pA AV i) (.int .u32 ((vN V i : Nat) : Int)) := by have := Ld.num (j := i) hV (by omega); rwa [e1] at this
      -- t16
      refine J.skip ?_
      refine J.seq ?_
      refine J.block ?_
      refine J.seq ?_
      refine J.region ?_
      refine L.va rfl (X.move (by conv => lhs; whnf)) ?_
      refine L.va rfl ((by first | exact X.index1n rfl rfl Try.underlying32 sz_35 (by first | exact Option.some_ne_none _ | exact hA | exact hld) (by omega) | exact X.index1 rfl rfl Try.underlying32 sz_35 (by first | exact Option.some_ne_none _ | exact hA | exact hld) (by omega))) ?_
      refine L.va rfl (X.load rfl sc_35 hld) ?_
      refine L.va rfl (X.assign (by conv => lhs; whnf)) ?_
      refine L.va rfl (X.assign (by conv => lhs; whnf)) ?_
      refine L.nil ?_
      refine J.seq ?_
      refine J.region ?_
      refine L.va rfl (X.move (by conv => lhs; whnf)) ?_
      refine L.va rfl (X.move (by conv => lhs; whnf)) ?_
      -- callfn bushel/lattice.Sub
      refine L.call rfl en_48 rfl (lsubP N (vN V i) w1 hN e2) ?_
      rintro e _ ⟨rfl, rfl⟩
      refine ⟨_, rfl, ?_⟩
      refine L.va rfl (X.move (by conv => lhs; whnf)) ?_
      -- case t20
      have hc : sb N (vN V i) = false ∨ (sb N (vN V i) = true ∧ cvA V N z i < 0) ∨ (sb N (vN V i) = true ∧ ¬ cvA V N z i < 0 ∧ szA z i < szA z (cvA V N z i)) ∨ (sb N (vN V i) = true ∧ ¬ cvA V N z i < 0 ∧ ¬ szA z i < szA z (cvA V N z i)) := by
        cases sb N (vN V i)
        · exact .inl rfl
        · by_cases h1 : cvA V N z i < 0
          · exact .inr (.inl ⟨rfl, h1⟩)
          · by_cases h2 : szA z i < szA z (cvA V N z i)
            · exact .inr (.inr (.inl ⟨rfl, h1, h2⟩))
            · exact .inr (.inr (.inr ⟨rfl, h1, h2⟩))
      rcases hc with k1 | ⟨k1, k2⟩ | ⟨k1, k2, k3⟩ | ⟨k1, k2, k3⟩
      · rw [if_neg (fun h => by rw [k1] at h; exact absurd h.1 (by decide))] at hst
        rw [k1]
        refine L.caseBF (k := 20) rfl (by rfl) ?_
        refine L.no rfl ?_
        refine L.no rfl ?_
        refine L.no rfl ?_
        refine L.no rfl ?_
        refine L.no rfl ?_
        refine L.no rfl ?_
        refine L.no rfl ?_
        refine L.no rfl ?_
        refine L.no rfl ?_
        refine L.no rfl ?_
        refine L.no rfl ?_
        refine L.va rfl (X.pickF rfl (by conv => lhs; whnf)) ?_
        refine L.nil ?_
        -- cond
        refine J.iteF rfl ?_
        refine J.skip ?_
        refine J.region ?_
        refine L.va rfl (X.add rfl rfl (by omega)) ?_
        refine L.va rfl (X.move (by conv => lhs; whnf)) ?_
        refine L.nil ?_
        -- loopend
        rw [← hst]
        refine ⟨i + 1, At2 (by first | rfl | exact at_int rfl (by omega) | exact at_slice rfl (by omega) | exact at_int rfl (by simp)) (by first | rfl | exact at_int rfl (by omega) | exact at_slice rfl (by omega) | exact at_int rfl (by simp)), (by (iterate 25 refine Agr.lk rfl ?_); exact Agr.lk rfl (Agr.hav rfl Agr.rfl')), ?_⟩
        exact ⟨⟨rfl, by omega⟩, by omega⟩
      · rw [if_pos ⟨k1, .inl k2⟩] at hst
        rw [k1]
        refine L.caseBT (k := 20) rfl (by rfl) ?_
        refine L.va rfl (X.move (by conv => lhs; whnf)) ?_
        refine L.va rfl (X.lss rfl rfl) ?_
        refine L.va rfl (X.move (by conv => lhs; whnf)) ?_
        -- case t23
        refine L.caseDecT (k := 23) rfl (by exact k2) ?_
        refine L.no rfl ?_
        refine L.no rfl ?_
        refine L.no rfl ?_
        refine L.no rfl ?_
        refine L.no rfl ?_
        refine L.no rfl ?_
        refine L.no rfl ?_
        refine L.va rfl (X.pickT rfl (by conv => lhs; whnf)) ?_
        refine L.va rfl (X.pickT rfl (by conv => lhs; whnf)) ?_
        refine L.nil ?_
        -- cond
        refine J.iteT rfl ?_
        refine J.region ?_
        refine L.va rfl (X.move (by conv => lhs; whnf)) ?_
        refine L.va rfl (X.assign (by conv => lhs; whnf)) ?_
        refine L.nil ?_
        refine J.region ?_
        refine L.va rfl (X.add rfl rfl (by omega)) ?_
        refine L.va rfl (X.move (by conv => lhs; whnf)) ?_
        refine L.nil ?_
        -- loopend
        refine ⟨i + 1, At2 (rfl) (at_int rfl hst.symm), (by (iterate 28 refine Agr.lk rfl ?_); exact Agr.lk rfl (Agr.hav rfl Agr.rfl')), ?_⟩
        exact ⟨⟨rfl, by omega⟩, by omega⟩
      · rw [if_pos ⟨k1, .inr k3⟩] at hst
        obtain ⟨m, hm⟩ : ∃ m : Nat, cvA V N z i = (m : Int) := ⟨(cvA V N z i).toNat, by omega⟩
        rw [hm] at k2 k3
        rw [k1, hm]
        refine L.caseBT (k := 20) rfl (by rfl) ?_
        refine L.va rfl (X.move (by conv => lhs; whnf)) ?_
        refine L.va rfl (X.lss rfl rfl) ?_
        refine L.va rfl (X.move (by conv => lhs; whnf)) ?_
        -- case t23
        refine L.caseDecF (k := 23) rfl (by exact k2) ?_
        refine L.va rfl (X.move (by conv => lhs; whnf)) ?_
        refine L.va rfl (X.move (by conv => lhs; whnf)) ?_
        -- callfn bushel/lattice.size
        refine L.call rfl en_103 rfl (lsize A n c z i hr) ?_
        rintro e _ ⟨rfl, rfl⟩
        refine ⟨_, rfl, ?_⟩
        refine L.va rfl (X.move (by conv => lhs; whnf)) ?_
        refine L.va rfl (X.move (by conv => lhs; whnf)) ?_
        -- callfn bushel/lattice.size
        refine L.call rfl en_103 rfl (lsize A n c z m hr) ?_
        rintro e _ ⟨rfl, rfl⟩
        refine ⟨_, rfl, ?_⟩
        refine L.va rfl (X.lss rfl rfl) ?_
        refine L.va rfl (X.pickF rfl (by conv => lhs; whnf)) ?_
        refine L.va rfl (X.pickT rfl (by conv => lhs; whnf)) ?_
        refine L.nil ?_
        -- cond
        refine J.decT rfl (by exact k3) ?_
        refine J.region ?_
        refine L.va rfl (X.move (by conv => lhs; whnf)) ?_
        refine L.va rfl (X.assign (by conv => lhs; whnf)) ?_
        refine L.nil ?_
        refine J.region ?_
        refine L.va rfl (X.add rfl rfl (by omega)) ?_
        refine L.va rfl (X.move (by conv => lhs; whnf)) ?_
        refine L.nil ?_
        -- loopend
        refine ⟨i + 1, At2 (rfl) (at_int rfl hst.symm), (by (iterate 28 refine Agr.lk rfl ?_); exact Agr.lk rfl (Agr.hav rfl Agr.rfl')), ?_⟩
        exact ⟨⟨rfl, by omega⟩, by omega⟩
      · rw [if_neg (fun h => h.2.elim k2 k3)] at hst
        obtain ⟨m, hm⟩ : ∃ m : Nat, cvA V N z i = (m : Int) := ⟨(cvA V N z i).toNat, by omega⟩
        rw [hm] at k2 k3 hst
        rw [k1, hm]
        refine L.caseBT (k := 20) rfl (by rfl) ?_
        refine L.va rfl (X.move (by conv => lhs; whnf)) ?_
        refine L.va rfl (X.lss rfl rfl) ?_
        refine L.va rfl (X.move (by conv => lhs; whnf)) ?_
        -- case t23
        refine L.caseDecF (k := 23) rfl (by exact k2) ?_
        refine L.va rfl (X.move (by conv => lhs; whnf)) ?_
        refine L.va rfl (X.move (by conv => lhs; whnf)) ?_
        -- callfn bushel/lattice.size
        refine L.call rfl en_103 rfl (lsize A n c z i hr) ?_
        rintro e _ ⟨rfl, rfl⟩
        refine ⟨_, rfl, ?_⟩
        refine L.va rfl (X.move (by conv => lhs; whnf)) ?_
        refine L.va rfl (X.move (by conv => lhs; whnf)) ?_
        -- callfn bushel/lattice.size
        refine L.call rfl en_103 rfl (lsize A n c z m hr) ?_
        rintro e _ ⟨rfl, rfl⟩
        refine ⟨_, rfl, ?_⟩
        refine L.va rfl (X.lss rfl rfl) ?_
        refine L.va rfl (X.pickF rfl (by conv => lhs; whnf)) ?_
        refine L.va rfl (X.pickT rfl (by conv => lhs; whnf)) ?_
        refine L.nil ?_
        -- cond
        refine J.decF rfl (by exact k3) ?_
        refine J.skip ?_
        refine J.region ?_
        refine L.va rfl (X.add rfl rfl (by omega)) ?_
        refine L.va rfl (X.move (by conv => lhs; whnf)) ?_
        refine L.nil ?_
        -- loopend
        refine ⟨i + 1, At2 (rfl) (at_int rfl hst.symm), (by (iterate 26 refine Agr.lk rfl ?_); exact Agr.lk rfl (Agr.hav rfl Agr.rfl')), ?_⟩
        exact ⟨⟨rfl, by omega⟩, by omega⟩
    · obtain rfl : i = nV := by omega
      refine J.exit ?_
      refine J.seq ?_
      refine J.region ?_
      refine L.va rfl (X.move (by conv => lhs; whnf)) ?_
      refine L.va rfl (X.assign (by conv => lhs; whnf)) ?_
      refine L.nil ?_
      -- ret
      refine J.ret ?_
      refine fin1 ?_
      exact ⟨rfl, rfl⟩
end Go.Proofs.Ytlohbkcedpkjaaa
