/-
  The law LatticeCloses, walked.
-/
import Derived.Test.YtmnlaekcojblkaaWLatC
namespace Go.Proofs.Ytmnlaekcojblkaa
set_option maxRecDepth 100000
open Go.RowKit H
open Mk Clo Srt
set_option linter.unusedVariables false
theorem law_LatticeCloses (w : World) (A0 : Option Addr) (n0 c0 : Nat) (xs0 : List (Nm .u32)) (hn0 : n0 ≤ c0) (hc0 : c0 ≤ maxLen) (hA0 : A0 = none → c0 = 0) (hl0 : LiesSlice w w.heap.size A0 n0 xs0) (x1 : Nm .u32) :
    Calls Try.prog 10 #[.slice A0 n0 c0, .int .u32 x1.z] w fun e w' => e = .returned (.bool true) ∧ Below w.heap.size w w' := by
  have hV := hl0.reads
  obtain ⟨vs, ev, hv⟩ := u32_list xs0
  rw [ev] at hV
  have hln : vs.length = n0 := by have := hV.1; simpa [nums, zl] using this
  obtain ⟨a, ha⟩ := Int.eq_ofNat_of_zero_le x1.u32.1
  have ha32 : a < 4294967296 := by have := x1.u32.2; omega
  rw [ha]
  refine enter Try.func10 rfl (by kernel_rfl) ?_
  refine J.seq ?_
  refine J.region ?_
  refine L.va rfl (X.assign (by conv => lhs; whnf)) ?_
  refine L.nil ?_
  refine J.seq ?_
  refine J.seq ?_
  refine J.region ?_
  refine L.va rfl (X.move (by conv => lhs; whnf)) ?_
  refine L.va rfl (X.len rfl Try.underlying54) ?_
  refine L.va rfl (X.gtr rfl rfl) ?_
  refine L.nil ?_
  -- cond
  refine J.dec rfl (fun hgt => ?_) (fun hgt => ?_)
  · refine J.seq ?_
    refine J.region ?_
    -- callfn bushel/bushellaw17.awake
    refine L.call rfl en_42 rfl (awake17 w) ?_
    rintro e w1 ⟨rfl, he1⟩
    refine ⟨_, rfl, ?_⟩
    refine L.va rfl (X.assign (by conv => lhs; whnf)) ?_
    refine L.nil ?_
    -- ret
    refine J.ret ?_
    refine thn_ret <| ?_
    refine fin1 ?_
    exact ⟨rfl, he1⟩
  · refine J.skip ?_
    refine J.seq ?_
    refine J.region ?_
    refine L.va rfl (X.move (by conv => lhs; whnf)) ?_
    -- callfn bushel/lattice.Close
    by_cases h12 : 12 < vs.length
    · have c1 := close_many A0 n0 c0 vs w hV hv h12
      refine L.call rfl en_48 rfl (c1) ?_
      rintro e w1 ⟨rfl, he1⟩
      refine ⟨_, rfl, ?_⟩
      refine L.va rfl (X.move (by conv => lhs; whnf)) ?_
      refine L.va rfl (X.extract rfl rfl) ?_
      refine L.va rfl (X.extract rfl rfl) ?_
      refine L.va rfl (X.assign (by conv => lhs; whnf)) ?_
      refine L.va rfl (X.assign (by conv => lhs; whnf)) ?_
      refine L.nil ?_
      refine J.seq ?_
      refine J.seq ?_
      refine J.region ?_
      refine L.va rfl (X.move (by conv => lhs; whnf)) ?_
      refine L.va rfl (X.len rfl Try.underlying54) ?_
      refine L.va rfl (X.gtr rfl rfl) ?_
      refine L.nil ?_
      -- cond
      refine J.decT rfl (by omega) ?_
      refine J.seq ?_
      refine J.region ?_
      refine L.va rfl (X.move (by conv => lhs; whnf)) ?_
      refine L.va rfl (X.len rfl Try.underlying54) ?_
      refine L.va rfl (X.eql rfl rfl) ?_
      refine L.va rfl (X.move (by conv => lhs; whnf)) ?_
      -- case t24
      refine L.caseDecT (k := 24) rfl (by rfl) ?_
      refine L.va rfl (X.move (by conv => lhs; whnf)) ?_
      refine L.va rfl (X.eql rfl rfl) ?_
      refine L.va rfl (X.pickT rfl (by conv => lhs; whnf)) ?_
      refine L.va rfl (X.move (by conv => lhs; whnf)) ?_
      -- case t28
      refine L.caseDecT (k := 28) rfl (by rfl) ?_
      -- callfn bushel/bushellaw17.awake
      refine L.call rfl en_42 rfl (awake17 w1) ?_
      rintro e w2 ⟨rfl, he2⟩
      refine ⟨_, rfl, ?_⟩
      refine L.va rfl (X.pickT rfl (by conv => lhs; whnf)) ?_
      refine L.va rfl (X.assign (by conv => lhs; whnf)) ?_
      refine L.nil ?_
      -- ret
      refine J.ret ?_
      refine thn_ret <| ?_
      refine fin1 ?_
      exact ⟨rfl, he1.trans he2⟩
    · have c1 := close_few A0 n0 c0 vs w hV hv (by omega)
      refine L.call rfl en_48 rfl (c1) ?_
      rintro e w1 ⟨A1, d1, o, rfl, ho1, hp1, hq1, hm1, he1⟩
      refine ⟨_, rfl, ?_⟩
      have hmem : ∀ i, i < o.length → ∃ y : Nat, o.getD i 0 = (y : Int) ∧ Cm vs y := fun i hi => by
        have : o.getD i 0 ∈ o := by rw [List.getD, List.getElem?_eq_getElem hi]; exact List.getElem_mem _
        exact (hm1 _).1 this
      refine L.va rfl (X.move (by conv => lhs; whnf)) ?_
      refine L.va rfl (X.extract rfl rfl) ?_
      refine L.va rfl (X.extract rfl rfl) ?_
      refine L.va rfl (X.assign (by conv => lhs; whnf)) ?_
      refine L.va rfl (X.assign (by conv => lhs; whnf)) ?_
      refine L.nil ?_
      refine J.seq ?_
      refine J.seq ?_
      refine J.region ?_
      refine L.va rfl (X.move (by conv => lhs; whnf)) ?_
      refine L.va rfl (X.len rfl Try.underlying54) ?_
      refine L.va rfl (X.gtr rfl rfl) ?_
      refine L.nil ?_
      -- cond
      refine J.decF rfl (by omega) ?_
      refine J.skip ?_
      refine J.seq ?_
      refine J.seq ?_
      refine J.region ?_
      refine L.va rfl (X.move (by conv => lhs; whnf)) ?_
      refine L.va rfl (X.neq rfl rfl) ?_
      refine L.nil ?_
      -- cond
      refine J.iteF rfl ?_
      refine J.skip ?_
      refine J.seq ?_
      refine J.region ?_
      refine L.va rfl (X.assign (by conv => lhs; whnf)) ?_
      refine L.nil ?_
      refine J.seq ?_
      refine J.seq ?_
      refine J.region ?_
      refine L.va rfl (X.assign (by conv => lhs; whnf)) ?_
      refine L.nil ?_
      refine J.block ?_
      -- loop
      refine J.loop (X := Nat × Bool) [4, 7, 8, 33, 34, 35, 36, 37, 38, 39, 40, 41, 42, 43, 44, 45, 46, 47, 48, 49, 50, 51, 52, 53, 54, 55, 56, 57, 58, 59, 60, 61, 62, 63, 64, 65, 66, 67, 68, 69, 70] (fun (i, s) => [(8, .int .i64 (i : Int)), (7, .bool s)]) (fun (i, s) w' => i ≤ o.length ∧ s = ((o.take i).any fun z => decide (z = (a : Int))) ∧ Ext w1 w') (fun (i, _) => o.length - i) ((0, false)) (At2 (by first | rfl | exact at_int rfl (by omega) | exact at_slice rfl (by omega) | exact at_int rfl (by simp)) (by first | rfl | exact at_int rfl (by omega) | exact at_slice rfl (by omega) | exact at_int rfl (by simp))) ?_ ?_
      · exact ⟨Nat.zero_le _, rfl, Ext.refl _⟩
      · rintro ⟨i, s⟩ g w2 ⟨hi, hs, he2⟩
        have he02 := he1.trans he2
        have hr := Reads.of_own (ho1.ext he2)
        have k1 := (hV.ext he02).more he02.le
        refine J.seq ?_
        refine J.seq ?_
        refine J.region ?_
        refine L.va rfl (X.move (by conv => lhs; whnf)) ?_
        refine L.va rfl (X.move (by conv => lhs; whnf)) ?_
        refine L.va rfl (X.len rfl Try.underlying54) ?_
        refine L.va rfl (X.lss rfl rfl) ?_
        refine L.nil ?_
        -- cond
        refine J.dec rfl (fun hlt => ?_) (fun hlt => ?_)
        · have hil : i < o.length := by omega
          have hA := hr.some_ (by omega)
          obtain ⟨y, hy, hcy⟩ := hmem i hil
          have hy32 := hcy.lt
          have hby : cmB vs y = true := (cmB_iff vs y).2 hcy
          have hld : ∀ w' : World, Ext w2 w' → Ld w' (pA A1 i) (.int .u32 (y : Int)) := fun w' hw => by have := Ld.num (hr.ext hw) hil; rwa [hy] at this
          have hlt' : 0 < i → o.getD (i - 1) 0 < (y : Int) := fun h0 => by
            have := List.pairwise_iff_getElem.1 hp1 (i - 1) i (by omega) hil (by omega)
            rw [← hy, List.getD, List.getD, List.getElem?_eq_getElem hil, List.getElem?_eq_getElem (show i - 1 < o.length by omega)]
            exact this
          have htk : o.take (i + 1) = o.take i ++ [(y : Int)] := by
            rw [List.take_add_one, List.getElem?_eq_getElem hil]
            rw [List.getD, List.getElem?_eq_getElem hil] at hy
            have : o[i] = (y : Int) := hy
            rw [this]
            rfl
          have hS : ((o.take (i + 1)).any fun z => decide (z = (a : Int))) = (s || decide ((y : Int) = (a : Int))) := by rw [htk, List.any_append, ← hs]; simp
          have c4 := fun (w' : World) (hw : Ext w2 w') => rCommon A0 n0 c0 vs y w' ((k1.ext hw).more hw.le) hv hy32 (by omega)
          rw [hby] at c4
          refine J.skip ?_
          refine J.seq ?_
          refine J.block ?_
          refine J.seq ?_
          refine J.seq ?_
          -- draw
          -- t49
          refine J.quiet mixed (by kernel_rfl) ?_
          refine Qt.va rfl (fun w' hw => X.move (by conv => lhs; whnf)) ?_
          refine Qt.va rfl (fun w' hw => X.gtr rfl rfl) ?_
          refine Qt.va rfl (fun w' hw => X.move (by conv => lhs; whnf)) ?_
          -- case t41
          refine Qt.caseDec (k := 41) rfl (fun h0 => ?_) (fun h0 => ?_)
          · have hlt2 := hlt' (by omega)
            refine Qt.va rfl (fun w' hw => X.move (by conv => lhs; whnf)) ?_
            refine Qt.va rfl (fun w' hw => X.move (by conv => lhs; whnf)) ?_
            refine Qt.va rfl (fun w' hw => (by first | exact X.index1n rfl rfl Try.underlying54 sz_53 (by first | exact Option.some_ne_none _ | exact hA | exact hld w' hw) (by omega) | exact X.index1 rfl rfl Try.underlying54 sz_53 (by first | exact Option.some_ne_none _ | exact hA | exact hld w' hw) (by omega))) ?_
            refine Qt.va rfl (fun w' hw => X.load rfl sc_53 (by first | exact hA | exact hld w' hw | exact Ld.num (hr.ext hw) (j := i - 1) (by omega))) ?_
            refine Qt.va rfl (fun w' hw => X.move (by conv => lhs; whnf)) ?_
            refine Qt.va rfl (fun w' hw => X.move (by conv => lhs; whnf)) ?_
            refine Qt.va rfl (fun w' hw => X.sub rfl rfl (by omega)) ?_
            refine Qt.va rfl (fun w' hw => X.index1eU (j := i - 1) rfl rfl (by omega) Try.underlying54 sz_53 hA (by omega)) ?_
            refine Qt.va rfl (fun w' hw => X.load rfl sc_53 (by first | exact hA | exact hld w' hw | exact Ld.num (hr.ext hw) (j := i - 1) (by omega))) ?_
            refine Qt.va rfl (fun w' hw => X.leq rfl rfl) ?_
            refine Qt.va rfl (fun w' hw => X.pickT rfl (by conv => lhs; whnf)) ?_
            refine Qt.va rfl (fun w' hw => X.move (by conv => lhs; whnf)) ?_
            -- case t53
            refine Qt.caseDecF (k := 53) rfl (by omega) ?_
            refine Qt.va rfl (fun w' hw => X.move (by conv => lhs; whnf)) ?_
            refine Qt.va rfl (fun w' hw => X.move (by conv => lhs; whnf)) ?_
            refine Qt.va rfl (fun w' hw => X.move (by conv => lhs; whnf)) ?_
            refine Qt.va rfl (fun w' hw => (by first | exact X.index1n rfl rfl Try.underlying54 sz_53 (by first | exact Option.some_ne_none _ | exact hA | exact hld w' hw) (by omega) | exact X.index1 rfl rfl Try.underlying54 sz_53 (by first | exact Option.some_ne_none _ | exact hA | exact hld w' hw) (by omega))) ?_
            refine Qt.va rfl (fun w' hw => X.load rfl sc_53 (by first | exact hA | exact hld w' hw | exact Ld.num (hr.ext hw) (j := i - 1) (by omega))) ?_
            -- callfn bushel/bushelref17.Common
            refine Qt.call rfl en_49 rfl (fun w' hw => calls_same hw (c4 w' hw)) ?_
            refine Qt.va rfl (fun w' hw => X.not rfl) ?_
            refine Qt.va rfl (fun w' hw => X.pickF rfl (by conv => lhs; whnf)) ?_
            refine Qt.nil (fun w3 hq => ?_)
            -- cond
            refine J.iteF rfl ?_
            refine J.skip ?_
            refine J.region ?_
            refine L.va rfl (X.move (by conv => lhs; whnf)) ?_
            refine L.va rfl (X.move (by conv => lhs; whnf)) ?_
            -- case t63
            cases s
            · rw [Bool.false_or] at hS
              refine L.caseBF (k := 63) rfl (by rfl) ?_
              refine L.va rfl (X.move (by conv => lhs; whnf)) ?_
              refine L.va rfl (X.move (by conv => lhs; whnf)) ?_
              refine L.va rfl ((by first | exact X.index1n rfl rfl Try.underlying54 sz_53 (by first | exact Option.some_ne_none _ | exact hA | exact hld w3 hq) (by omega) | exact X.index1 rfl rfl Try.underlying54 sz_53 (by first | exact Option.some_ne_none _ | exact hA | exact hld w3 hq) (by omega))) ?_
              refine L.va rfl (X.load rfl sc_53 (by first | exact hA | exact hld w3 hq)) ?_
              refine L.va rfl (X.move (by conv => lhs; whnf)) ?_
              refine L.va rfl (X.eql rfl rfl) ?_
              refine L.va rfl (X.pickF rfl (by conv => lhs; whnf)) ?_
              refine L.va rfl (X.assign (by conv => lhs; whnf)) ?_
              refine L.nil ?_
              refine J.region ?_
              refine L.va rfl (X.move (by conv => lhs; whnf)) ?_
              refine L.va rfl (X.add rfl rfl (by omega)) ?_
              refine L.va rfl (X.assign (by conv => lhs; whnf)) ?_
              refine L.nil ?_
              -- loopend
              refine ⟨(i + 1, decide ((y : Int) = (a : Int))), At2 (by first | rfl | exact at_int rfl (by omega) | exact at_slice rfl (by omega) | exact at_int rfl (by simp)) (by first | rfl | exact at_int rfl (by omega) | exact at_slice rfl (by omega) | exact at_int rfl (by simp)), (by (iterate 43 refine Agr.lk rfl ?_); exact Agr.lk rfl (Agr.hav rfl Agr.rfl')), ?_⟩
              exact ⟨⟨by omega, hS.symm, he2.trans hq⟩, by show o.length - (i + 1) < o.length - i; omega⟩
            · rw [Bool.true_or] at hS
              refine L.caseBT (k := 63) rfl (by rfl) ?_
              refine L.no rfl ?_
              refine L.no rfl ?_
              refine L.no rfl ?_
              refine L.no rfl ?_
              refine L.no rfl ?_
              refine L.no rfl ?_
              refine L.va rfl (X.pickT rfl (by conv => lhs; whnf)) ?_
              refine L.va rfl (X.assign (by conv => lhs; whnf)) ?_
              refine L.nil ?_
              refine J.region ?_
              refine L.va rfl (X.move (by conv => lhs; whnf)) ?_
              refine L.va rfl (X.add rfl rfl (by omega)) ?_
              refine L.va rfl (X.assign (by conv => lhs; whnf)) ?_
              refine L.nil ?_
              -- loopend
              refine ⟨(i + 1, true), At2 (by first | rfl | exact at_int rfl (by omega) | exact at_slice rfl (by omega) | exact at_int rfl (by simp)) (by first | rfl | exact at_int rfl (by omega) | exact at_slice rfl (by omega) | exact at_int rfl (by simp)), (by (iterate 43 refine Agr.lk rfl ?_); exact Agr.lk rfl (Agr.hav rfl Agr.rfl')), ?_⟩
              exact ⟨⟨by omega, hS.symm, he2.trans hq⟩, by show o.length - (i + 1) < o.length - i; omega⟩
          · refine Qt.no rfl ?_
            refine Qt.no rfl ?_
            refine Qt.no rfl ?_
            refine Qt.no rfl ?_
            refine Qt.no rfl ?_
            refine Qt.no rfl ?_
            refine Qt.no rfl ?_
            refine Qt.no rfl ?_
            refine Qt.no rfl ?_
            refine Qt.no rfl ?_
            refine Qt.va rfl (fun w' hw => X.pickF rfl (by conv => lhs; whnf)) ?_
            refine Qt.va rfl (fun w' hw => X.move (by conv => lhs; whnf)) ?_
            refine Qt.va rfl (fun w' hw => X.move (by conv => lhs; whnf)) ?_
            refine Qt.va rfl (fun w' hw => X.move (by conv => lhs; whnf)) ?_
            refine Qt.va rfl (fun w' hw => X.move (by conv => lhs; whnf)) ?_
            refine Qt.va rfl (fun w' hw => (by first | exact X.index1n rfl rfl Try.underlying54 sz_53 (by first | exact Option.some_ne_none _ | exact hA | exact hld w' hw) (by omega) | exact X.index1 rfl rfl Try.underlying54 sz_53 (by first | exact Option.some_ne_none _ | exact hA | exact hld w' hw) (by omega))) ?_
            refine Qt.va rfl (fun w' hw => X.load rfl sc_53 (by first | exact hA | exact hld w' hw | exact Ld.num (hr.ext hw) (j := i - 1) (by omega))) ?_
            -- callfn bushel/bushelref17.Common
            refine Qt.call rfl en_49 rfl (fun w' hw => calls_same hw (c4 w' hw)) ?_
            refine Qt.va rfl (fun w' hw => X.not rfl) ?_
            refine Qt.va rfl (fun w' hw => X.pickF rfl (by conv => lhs; whnf)) ?_
            refine Qt.nil (fun w3 hq => ?_)
            -- cond
            refine J.iteF rfl ?_
            refine J.skip ?_
            refine J.region ?_
            refine L.va rfl (X.move (by conv => lhs; whnf)) ?_
            refine L.va rfl (X.move (by conv => lhs; whnf)) ?_
            -- case t63
            cases s
            · rw [Bool.false_or] at hS
              refine L.caseBF (k := 63) rfl (by rfl) ?_
              refine L.va rfl (X.move (by conv => lhs; whnf)) ?_
              refine L.va rfl (X.move (by conv => lhs; whnf)) ?_
              refine L.va rfl ((by first | exact X.index1n rfl rfl Try.underlying54 sz_53 (by first | exact Option.some_ne_none _ | exact hA | exact hld w3 hq) (by omega) | exact X.index1 rfl rfl Try.underlying54 sz_53 (by first | exact Option.some_ne_none _ | exact hA | exact hld w3 hq) (by omega))) ?_
              refine L.va rfl (X.load rfl sc_53 (by first | exact hA | exact hld w3 hq)) ?_
              refine L.va rfl (X.move (by conv => lhs; whnf)) ?_
              refine L.va rfl (X.eql rfl rfl) ?_
              refine L.va rfl (X.pickF rfl (by conv => lhs; whnf)) ?_
              refine L.va rfl (X.assign (by conv => lhs; whnf)) ?_
              refine L.nil ?_
              refine J.region ?_
              refine L.va rfl (X.move (by conv => lhs; whnf)) ?_
              refine L.va rfl (X.add rfl rfl (by omega)) ?_
              refine L.va rfl (X.assign (by conv => lhs; whnf)) ?_
              refine L.nil ?_
              -- loopend
              refine ⟨(i + 1, decide ((y : Int) = (a : Int))), At2 (by first | rfl | exact at_int rfl (by omega) | exact at_slice rfl (by omega) | exact at_int rfl (by simp)) (by first | rfl | exact at_int rfl (by omega) | exact at_slice rfl (by omega) | exact at_int rfl (by simp)), (by (iterate 42 refine Agr.lk rfl ?_); exact Agr.lk rfl (Agr.hav rfl Agr.rfl')), ?_⟩
              exact ⟨⟨by omega, hS.symm, he2.trans hq⟩, by show o.length - (i + 1) < o.length - i; omega⟩
            · rw [Bool.true_or] at hS
              refine L.caseBT (k := 63) rfl (by rfl) ?_
              refine L.no rfl ?_
              refine L.no rfl ?_
              refine L.no rfl ?_
              refine L.no rfl ?_
              refine L.no rfl ?_
              refine L.no rfl ?_
              refine L.va rfl (X.pickT rfl (by conv => lhs; whnf)) ?_
              refine L.va rfl (X.assign (by conv => lhs; whnf)) ?_
              refine L.nil ?_
              refine J.region ?_
              refine L.va rfl (X.move (by conv => lhs; whnf)) ?_
              refine L.va rfl (X.add rfl rfl (by omega)) ?_
              refine L.va rfl (X.assign (by conv => lhs; whnf)) ?_
              refine L.nil ?_
              -- loopend
              refine ⟨(i + 1, true), At2 (by first | rfl | exact at_int rfl (by omega) | exact at_slice rfl (by omega) | exact at_int rfl (by simp)) (by first | rfl | exact at_int rfl (by omega) | exact at_slice rfl (by omega) | exact at_int rfl (by simp)), (by (iterate 42 refine Agr.lk rfl ?_); exact Agr.lk rfl (Agr.hav rfl Agr.rfl')), ?_⟩
              exact ⟨⟨by omega, hS.symm, he2.trans hq⟩, by show o.length - (i + 1) < o.length - i; omega⟩
        · obtain rfl : i = o.length := by omega
          rw [List.take_length] at hs
          have hsb : s = cmB vs a := by
            rw [hs, Bool.eq_iff_iff, cmB_iff, List.any_eq_true]
            constructor
            · rintro ⟨z, hz, h⟩
              rw [decide_eq_true_iff] at h
              obtain ⟨y, h1, h2⟩ := (hm1 z).1 hz
              have : y = a := by omega
              rwa [← this]
            · intro h
              exact ⟨(a : Int), (hm1 _).2 ⟨a, rfl, h⟩, by simp⟩
          have k2 := k1
          refine J.exit ?_
          refine J.seq ?_
          refine J.region ?_
          refine L.va rfl (X.move (by conv => lhs; whnf)) ?_
          refine L.va rfl (X.move (by conv => lhs; whnf)) ?_
          refine L.va rfl (X.move (by conv => lhs; whnf)) ?_
          -- callfn bushel/bushelref17.Common
          refine L.call rfl en_49 rfl (rCommon A0 n0 c0 vs a w2 k1 hv ha32 (by omega)) ?_
          rintro e _ ⟨rfl, rfl⟩
          refine ⟨_, rfl, ?_⟩
          refine L.va rfl (X.eqlB rfl rfl Try.underlying4) ?_
          refine L.va rfl (X.move (by conv => lhs; whnf)) ?_
          -- case t76
          refine L.caseBT (k := 76) rfl (by rw [hsb]; simp) ?_
          -- callfn bushel/bushellaw17.awake
          refine L.call rfl en_42 rfl (awake17 w2) ?_
          rintro e w5 ⟨rfl, he5⟩
          refine ⟨_, rfl, ?_⟩
          refine L.va rfl (X.pickT rfl (by conv => lhs; whnf)) ?_
          refine L.va rfl (X.assign (by conv => lhs; whnf)) ?_
          refine L.nil ?_
          -- ret
          refine J.ret ?_
          refine fin1 ?_
          exact ⟨rfl, he02.trans he5⟩
end Go.Proofs.Ytmnlaekcojblkaa
