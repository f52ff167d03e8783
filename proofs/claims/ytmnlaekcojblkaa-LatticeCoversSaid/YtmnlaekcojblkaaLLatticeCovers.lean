/-
  The law LatticeCovers, walked.
-/
import Derived.Test.YtmnlaekcojblkaaWLatB
namespace Go.Proofs.Ytmnlaekcojblkaa
set_option maxRecDepth 100000
open Go.RowKit H
open Mk Clo Srt
set_option linter.unusedVariables false
theorem okC_f (vs : List Nat) (x : Nat) : okC vs x false = fun i => sb x (vs.getD i 0) := by
  funext i
  unfold okC
  rw [Bool.false_and, Bool.not_false, Bool.and_true]
theorem law_LatticeCovers (w : World) (A0 : Option Addr) (n0 c0 : Nat) (xs0 : List (Nm .u32)) (hn0 : n0 ≤ c0) (hc0 : c0 ≤ maxLen) (hA0 : A0 = none → c0 = 0) (hl0 : LiesSlice w w.heap.size A0 n0 xs0) (A1 : Option Addr) (n1 c1 : Nat) (xs1 : List (Nm .i64)) (hn1 : n1 ≤ c1) (hc1 : c1 ≤ maxLen) (hA1 : A1 = none → c1 = 0) (hl1 : LiesSlice w w.heap.size A1 n1 xs1) (x2 : Nm .u32) :
    Calls Try.prog 9 #[.slice A0 n0 c0, .slice A1 n1 c1, .int .u32 x2.z] w fun e w' => e = .returned (.bool true) ∧ Below w.heap.size w w' := by
  have hV := hl0.reads
  have hS := hl1.reads
  obtain ⟨vs, ev, hv⟩ := u32_list xs0
  rw [ev] at hV
  obtain ⟨ss, es⟩ : ∃ ss, ss = zsOf xs1 := ⟨_, rfl⟩
  rw [← es] at hS
  obtain ⟨x, hx⟩ := Int.eq_ofNat_of_zero_le x2.u32.1
  have hx32 : x < 4294967296 := by have := x2.u32.2; omega
  rw [hx]
  refine enter Try.func9 rfl (by kernel_rfl) ?_
  refine J.seq ?_
  refine J.region ?_
  refine L.va rfl (X.assign (by conv => lhs; whnf)) ?_
  refine L.nil ?_
  refine J.seq ?_
  refine J.seq ?_
  refine J.region ?_
  refine L.va rfl (X.move (by conv => lhs; whnf)) ?_
  refine L.va rfl (X.len rfl Try.underlying54) ?_
  refine L.va rfl (X.gtr rfl rfl) ?_
  refine L.nil ?_
  -- cond
  refine J.dec rfl (fun hgt => ?_) (fun hgt => ?_)
  · refine J.seq ?_
    refine J.region ?_
    -- callfn bushel/bushellaw17.awake
    refine L.call rfl en_42 rfl (awake17 w) ?_
    rintro e w1 ⟨rfl, he1⟩
    refine ⟨_, rfl, ?_⟩
    refine L.va rfl (X.assign (by conv => lhs; whnf)) ?_
    refine L.nil ?_
    -- ret
    refine J.ret ?_
    refine thn_ret <| ?_
    refine fin1 ?_
    exact ⟨rfl, he1⟩
  · have hn : n0 ≤ 100 := by omega
    refine J.skip ?_
    refine J.seq ?_
    refine J.seq ?_
    refine J.region ?_
    refine L.va rfl (X.move (by conv => lhs; whnf)) ?_
    refine L.va rfl (X.move (by conv => lhs; whnf)) ?_
    refine L.va rfl (X.move (by conv => lhs; whnf)) ?_
    -- callfn bushel/lattice.Cover
    refine L.call rfl en_45 rfl (lcover A0 n0 c0 vs A1 n1 c1 ss x w hV hS hv hx32 hn) ?_
    rintro e _ ⟨a, rfl, hM, rfl⟩
    refine ⟨_, rfl, ?_⟩
    refine L.va rfl (X.move (by conv => lhs; whnf)) ?_
    refine L.va rfl (X.move (by conv => lhs; whnf)) ?_
    refine L.va rfl (X.move (by conv => lhs; whnf)) ?_
    -- callfn bushel/bushelref17.Cover
    refine L.call rfl en_46 rfl (rcover A0 n0 c0 vs A1 n1 c1 ss x false w hV hS hv hx32 hn) ?_
    rintro e _ ⟨a', rfl, hM', rfl⟩
    refine ⟨_, rfl, ?_⟩
    rw [okC_f] at hM'
    obtain rfl := hM.one hM'
    refine L.va rfl (X.neq rfl rfl) ?_
    refine L.nil ?_
    -- cond
    refine J.ndecF rfl (by omega) ?_
    refine J.skip ?_
    refine J.seq ?_
    refine J.region ?_
    refine L.va rfl (X.move (by conv => lhs; whnf)) ?_
    refine L.va rfl (X.move (by conv => lhs; whnf)) ?_
    -- callfn bushel/lattice.Steps
    refine L.call rfl en_47 rfl (lsteps A0 n0 c0 vs A1 n1 c1 ss w hV hS hv hn) ?_
    rintro e w2 ⟨A2, c2, o, rfl, ho2, hO, he2⟩
    refine ⟨_, rfl, ?_⟩
    refine L.va rfl (X.assign (by conv => lhs; whnf)) ?_
    refine L.nil ?_
    refine J.seq ?_
    refine J.seq ?_
    refine J.region ?_
    refine L.va rfl (X.move (by conv => lhs; whnf)) ?_
    refine L.va rfl (X.len rfl Try.underlying29) ?_
    refine L.va rfl (X.move (by conv => lhs; whnf)) ?_
    refine L.va rfl (X.len rfl Try.underlying54) ?_
    refine L.va rfl (X.neq rfl rfl) ?_
    refine L.nil ?_
    -- cond
    refine J.ndecF rfl (by omega) ?_
    refine J.skip ?_
    refine J.seq ?_
    refine J.seq ?_
    refine J.region ?_
    refine L.va rfl (X.assign (by conv => lhs; whnf)) ?_
    refine L.nil ?_
    refine J.block ?_
    -- loop
    refine J.loop (X := Nat) [6, 8, 30, 31, 32, 33, 34, 35, 36, 37, 38, 39, 40, 41, 42, 43, 44, 45, 46, 47] (fun i => [(8, .int .i64 (i : Int))]) (fun i w' => i ≤ n0 ∧ Ext w2 w') (fun i => n0 - i) (0) (At1 (by first | rfl | exact at_int rfl (by omega) | exact at_slice rfl (by omega) | exact at_int rfl (by simp))) ?_ ?_
    · exact ⟨Nat.zero_le _, Ext.refl _⟩
    · rintro i g w3 ⟨hi, he3⟩
      have he03 := he2.trans he3
      have k1 := (hV.ext he03).more he03.le
      have k2 := (hS.ext he03).more he03.le
      have hr := Reads.of_own (ho2.ext he3)
      refine J.seq ?_
      refine J.seq ?_
      refine J.region ?_
      refine L.va rfl (X.move (by conv => lhs; whnf)) ?_
      refine L.va rfl (X.move (by conv => lhs; whnf)) ?_
      refine L.va rfl (X.len rfl Try.underlying29) ?_
      refine L.va rfl (X.lss rfl rfl) ?_
      refine L.nil ?_
      -- cond
      refine J.dec rfl (fun hlt => ?_) (fun hlt => ?_)
      · have hin : i < n0 := by omega
        have hA := k1.some_ (by omega)
        have hA2 := hr.some_ (by omega)
        have c4 := fun (w' : World) (hw : Ext w3 w') => (rcover A0 n0 c0 vs A1 n1 c1 ss (vs.getD i 0) true w' ((k1.ext hw).more hw.le) ((k2.ext hw).more hw.le) hv (getN_lt hv i) hn).mono (R' := fun e w'' => e = .returned (.int .i64 (o.getD i 0)) ∧ w' = w'') (fun e w'' ⟨a, h1, h2, h3⟩ => by
          rw [okS_eq] at h2
          rw [h1, h2.one (hO i hin)]
          exact ⟨rfl, h3⟩)
        refine J.skip ?_
        refine J.seq ?_
        refine J.block ?_
        refine J.seq ?_
        -- draw
        refine J.quiet mixed (by kernel_rfl) ?_
        refine Qt.va rfl (fun w' hw => X.move (by conv => lhs; whnf)) ?_
        refine Qt.va rfl (fun w' hw => X.move (by conv => lhs; whnf)) ?_
        refine Qt.va rfl (fun w' hw => (by first | exact X.index1n rfl rfl Try.underlying29 sz_3 (by first | exact Option.some_ne_none _ | exact hr.some_ (by omega) | exact hA | exact hA2) (by omega) | exact X.index1 rfl rfl Try.underlying29 sz_3 (by first | exact Option.some_ne_none _ | exact hr.some_ (by omega) | exact hA | exact hA2) (by omega))) ?_
        refine Qt.va rfl (fun w' hw => X.load rfl sc_3 (by first | exact Ld.num (hr.ext hw) (by omega) | exact hA | exact hA2 | exact Ld.zl (k1.ext hw) hin)) ?_
        refine Qt.va rfl (fun w' hw => X.move (by conv => lhs; whnf)) ?_
        refine Qt.va rfl (fun w' hw => X.move (by conv => lhs; whnf)) ?_
        refine Qt.va rfl (fun w' hw => X.move (by conv => lhs; whnf)) ?_
        refine Qt.va rfl (fun w' hw => X.move (by conv => lhs; whnf)) ?_
        refine Qt.va rfl (fun w' hw => (by first | exact X.index1n rfl rfl Try.underlying54 sz_53 (by first | exact Option.some_ne_none _ | exact hr.some_ (by omega) | exact hA | exact hA2) (by omega) | exact X.index1 rfl rfl Try.underlying54 sz_53 (by first | exact Option.some_ne_none _ | exact hr.some_ (by omega) | exact hA | exact hA2) (by omega))) ?_
        refine Qt.va rfl (fun w' hw => X.load rfl sc_53 (by first | exact Ld.num (hr.ext hw) (by omega) | exact hA | exact hA2 | exact Ld.zl (k1.ext hw) hin)) ?_
        -- callfn bushel/bushelref17.Cover
        refine Qt.call rfl en_46 rfl (fun w' hw => calls_same hw (c4 w' hw)) ?_
        refine Qt.va rfl (fun w' hw => X.neq rfl rfl) ?_
        refine Qt.nil (fun w4 hq => ?_)
        replace hr := hr.ext hq
        -- cond
        refine J.ndecF rfl (by omega) ?_
        refine J.skip ?_
        refine J.region ?_
        refine L.va rfl (X.move (by conv => lhs; whnf)) ?_
        refine L.va rfl (X.add rfl rfl (by omega)) ?_
        refine L.va rfl (X.assign (by conv => lhs; whnf)) ?_
        refine L.nil ?_
        -- loopend
        refine ⟨i + 1, At1 (by first | rfl | exact at_int rfl (by omega) | exact at_slice rfl (by omega) | exact at_int rfl (by simp)), (by (iterate 19 refine Agr.lk rfl ?_); exact Agr.lk rfl (Agr.hav rfl Agr.rfl')), ?_⟩
        exact ⟨⟨by omega, he3.trans hq⟩, by omega⟩
      · refine J.exit ?_
        refine J.seq ?_
        refine J.region ?_
        -- callfn bushel/bushellaw17.awake
        refine L.call rfl en_42 rfl (awake17 w3) ?_
        rintro e w5 ⟨rfl, he5⟩
        refine ⟨_, rfl, ?_⟩
        refine L.va rfl (X.assign (by conv => lhs; whnf)) ?_
        refine L.nil ?_
        -- ret
        refine J.ret ?_
        refine fin1 ?_
        exact ⟨rfl, he03.trans he5⟩
end Go.Proofs.Ytmnlaekcojblkaa
