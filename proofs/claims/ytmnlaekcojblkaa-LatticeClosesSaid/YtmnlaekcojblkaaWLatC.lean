/-
  Lattices: what some of a list have in common, by the reference.
-/
import Derived.Test.YtmnlaekcojblkaaWLatB
namespace Go.Proofs.Ytmnlaekcojblkaa
set_option maxRecDepth 100000
open Go.RowKit H
open Mk Clo Srt
set_option linter.unusedVariables false
theorem and_mod_bit (a b i : Nat) : (a &&& b) % 2 ^ (i + 1) = (a &&& b) % 2 ^ i + if (a.testBit i && b.testBit i) = true then 2 ^ i else 0 := by
  rw [mod_bit, Nat.testBit_and]
theorem rcommon_any (a b : Nat) (w : World) (ha : a < 4294967296) (hb : b < 4294967296) : Calls Try.prog 108 #[.int .u32 (a : Int), .int .u32 (b : Int)] w fun e w' => e = .returned (.int .u32 ((a &&& b : Nat) : Int)) ∧ w = w' := by
  have hab : a &&& b < 4294967296 := Nat.lt_of_le_of_lt Nat.and_le_left ha
  refine enter Try.func108 rfl (by kernel_rfl) ?_
  refine J.seq ?_
  refine J.region ?_
  refine L.va rfl (X.assign (by conv => lhs; whnf)) ?_
  refine L.nil ?_
  refine J.seq ?_
  refine J.region ?_
  refine L.va rfl (X.assign (by conv => lhs; whnf)) ?_
  refine L.nil ?_
  refine J.seq ?_
  refine J.seq ?_
  refine J.region ?_
  refine L.va rfl (X.assign (by conv => lhs; whnf)) ?_
  refine L.nil ?_
  refine J.block ?_
  -- loop
  refine J.loop (X := Nat × Nat) [5, 6, 7, 8, 9, 10, 11, 12, 13, 14, 15, 16, 17, 18, 19, 20, 21, 22] (fun (i, n) => [(6, .int .i64 (i : Int)), (5, .int .u32 (n : Int))]) (fun (i, n) w' => w' = w ∧ i ≤ 32 ∧ n = (a &&& b) % 2 ^ i) (fun (i, _) => 32 - i) ((0, 0)) (At2 (by first | rfl | exact at_int rfl (by omega) | exact at_slice rfl (by omega) | exact at_int rfl (by simp)) (by first | rfl | exact at_int rfl (by omega) | exact at_slice rfl (by omega) | exact at_int rfl (by simp))) ?_ ?_
  · exact ⟨rfl, by omega, by rw [Nat.pow_zero, Nat.mod_one]⟩
  · rintro ⟨i, n⟩ g w1 ⟨rfl, hi, hn⟩
    have hs := and_mod_bit a b i
    rw [← hn] at hs
    have hle : (a &&& b) % 2 ^ (i + 1) ≤ a &&& b := Nat.mod_le _ _
    refine J.seq ?_
    refine J.seq ?_
    refine J.region ?_
    refine L.va rfl (X.move (by conv => lhs; whnf)) ?_
    refine L.va rfl (X.lss rfl rfl) ?_
    refine L.nil ?_
    -- cond
    refine J.dec rfl (fun hlt => ?_) (fun hlt => ?_)
    · have c1 := rin_any a i w1 ha (by omega)
      have c2 := rin_any b i w1 hb (by omega)
      refine J.skip ?_
      refine J.seq ?_
      refine J.block ?_
      refine J.seq ?_
      refine J.region ?_
      refine L.va rfl (X.move (by conv => lhs; whnf)) ?_
      refine L.va rfl (X.move (by conv => lhs; whnf)) ?_
      -- callfn bushel/bushelref11.In
      refine L.call rfl en_103 rfl (c1) ?_
      rintro e _ ⟨rfl, rfl⟩
      refine ⟨_, rfl, ?_⟩
      refine L.va rfl (X.move (by conv => lhs; whnf)) ?_
      -- case t14
      cases h1 : a.testBit i
      · rw [h1, Bool.false_and, if_neg (by decide)] at hs
        refine L.caseBF (k := 14) rfl (by rfl) ?_
        refine L.no rfl ?_
        refine L.no rfl ?_
        refine L.no rfl ?_
        refine L.va rfl (X.pickF rfl (by conv => lhs; whnf)) ?_
        refine L.nil ?_
        -- cond
        refine J.iteF rfl ?_
        refine J.skip ?_
        refine J.region ?_
        refine L.va rfl (X.move (by conv => lhs; whnf)) ?_
        refine L.va rfl (X.add rfl rfl (by omega)) ?_
        refine L.va rfl (X.assign (by conv => lhs; whnf)) ?_
        refine L.nil ?_
        -- loopend
        refine ⟨(i + 1, n), At2 (by first | rfl | exact at_int rfl (by omega) | exact at_slice rfl (by omega) | exact at_int rfl (by simp)) (by first | rfl | exact at_int rfl (by omega) | exact at_slice rfl (by omega) | exact at_int rfl (by simp)), (by (iterate 14 refine Agr.lk rfl ?_); exact Agr.lk rfl (Agr.hav rfl Agr.rfl')), ?_⟩
        exact ⟨⟨rfl, by omega, by omega⟩, by show 32 - (i + 1) < 32 - i; omega⟩
      · refine L.caseBT (k := 14) rfl (by rfl) ?_
        refine L.va rfl (X.move (by conv => lhs; whnf)) ?_
        refine L.va rfl (X.move (by conv => lhs; whnf)) ?_
        -- callfn bushel/bushelref11.In
        refine L.call rfl en_103 rfl (c2) ?_
        rintro e _ ⟨rfl, rfl⟩
        refine ⟨_, rfl, ?_⟩
        refine L.va rfl (X.pickT rfl (by conv => lhs; whnf)) ?_
        refine L.nil ?_
        -- cond
        cases h2 : b.testBit i
        · rw [h1, h2, Bool.and_false, if_neg (by decide)] at hs
          refine J.iteF rfl ?_
          refine J.skip ?_
          refine J.region ?_
          refine L.va rfl (X.move (by conv => lhs; whnf)) ?_
          refine L.va rfl (X.add rfl rfl (by omega)) ?_
          refine L.va rfl (X.assign (by conv => lhs; whnf)) ?_
          refine L.nil ?_
          -- loopend
          refine ⟨(i + 1, n), At2 (by first | rfl | exact at_int rfl (by omega) | exact at_slice rfl (by omega) | exact at_int rfl (by simp)) (by first | rfl | exact at_int rfl (by omega) | exact at_slice rfl (by omega) | exact at_int rfl (by simp)), (by (iterate 14 refine Agr.lk rfl ?_); exact Agr.lk rfl (Agr.hav rfl Agr.rfl')), ?_⟩
          exact ⟨⟨rfl, by omega, by omega⟩, by show 32 - (i + 1) < 32 - i; omega⟩
        · rw [h1, h2, Bool.and_self, if_pos rfl] at hs
          have e : IntKind.u32.wrap ((n : Int) + ((2 ^ i : Nat) : Int)) = ((n + 2 ^ i : Nat) : Int) := by rw [w32 (by omega)]; omega
          refine J.iteT rfl ?_
          refine J.region ?_
          refine L.va rfl (X.move (by conv => lhs; whnf)) ?_
          refine L.va rfl (X.move (by conv => lhs; whnf)) ?_
          -- callfn bushel/bushelref11.Two
          refine L.call rfl en_104 rfl (rtwo_any i w1 (by omega)) ?_
          rintro e _ ⟨rfl, rfl⟩
          refine ⟨_, rfl, ?_⟩
          refine L.va rfl (X.addw rfl rfl) ?_
          refine L.va rfl (X.assign (by conv => lhs; whnf)) ?_
          refine L.nil ?_
          refine J.region ?_
          refine L.va rfl (X.move (by conv => lhs; whnf)) ?_
          refine L.va rfl (X.add rfl rfl (by omega)) ?_
          refine L.va rfl (X.assign (by conv => lhs; whnf)) ?_
          refine L.nil ?_
          -- loopend
          refine ⟨(i + 1, n + 2 ^ i), At2 (rfl) (at_int rfl e), (by (iterate 19 refine Agr.lk rfl ?_); exact Agr.lk rfl (Agr.hav rfl Agr.rfl')), ?_⟩
          exact ⟨⟨rfl, by omega, by omega⟩, by show 32 - (i + 1) < 32 - i; omega⟩
    · obtain rfl : i = 32 := by omega
      refine J.exit ?_
      refine J.seq ?_
      refine J.region ?_
      refine L.va rfl (X.move (by conv => lhs; whnf)) ?_
      refine L.va rfl (X.assign (by conv => lhs; whnf)) ?_
      refine L.nil ?_
      -- ret
      refine J.ret ?_
      refine fin1 ?_
      refine ⟨?_, rfl⟩
      have : n = a &&& b := by rw [hn]; exact Nat.mod_eq_of_lt (by simpa using hab)
      subst this
      rfl
/-- as the program tells it -/
def cmB (l : List Nat) (z : Nat) : Bool := (l.any fun s => sb z s) && decide (K l z = z)
theorem cmB_iff (l : List Nat) (z : Nat) : cmB l z = true ↔ Cm l z := by
  unfold cmB Cm
  rw [Bool.and_eq_true, List.any_eq_true, decide_eq_true_iff]
theorem rCommon (A : Option Addr) (n c : Nat) (l : List Nat) (z : Nat) (w : World) (hr : Reads w w.heap.size 1 A n (nums .u32 (zl l))) (hl : ∀ x ∈ l, x < 4294967296) (hz : z < 4294967296) (hn : n ≤ 1000) :
    Calls Try.prog 49 #[.slice A n c, .int .u32 (z : Int)] w fun e w' => e = .returned (.bool (cmB l z)) ∧ w = w' := by
  have hln : l.length = n := by have := hr.1; simpa [nums, zl] using this
  refine enter Try.func49 rfl (by kernel_rfl) ?_
  refine J.seq ?_
  refine J.region ?_
  refine L.va rfl (X.assign (by conv => lhs; whnf)) ?_
  refine L.nil ?_
  refine J.seq ?_
  refine J.region ?_
  refine L.va rfl (X.assign (by conv => lhs; whnf)) ?_
  refine L.nil ?_
  refine J.seq ?_
  refine J.region ?_
  refine L.va rfl (X.assign (by conv => lhs; whnf)) ?_
  refine L.nil ?_
  refine J.seq ?_
  refine J.seq ?_
  refine J.region ?_
  refine L.va rfl (X.assign (by conv => lhs; whnf)) ?_
  refine L.nil ?_
  refine J.block ?_
  -- loop
  refine J.loop (X := Nat × Bool × Nat) [5, 6, 7, 8, 9, 10, 11, 12, 13, 14, 15, 16, 17, 18, 19, 20, 21, 22, 23, 24, 25] (fun (i, s, k) => [(7, .int .i64 (i : Int)), (5, .bool s), (6, .int .u32 (k : Int))]) (fun (i, s, k) w' => w' = w ∧ i ≤ n ∧ s = ((l.take i).any fun s => sb z s) ∧ k = K (l.take i) z) (fun (i, _) => n - i) ((0, false, 4294967295)) (At3 (by first | rfl | exact at_int rfl (by omega) | exact at_slice rfl (by omega) | exact at_int rfl (by simp)) (by first | rfl | exact at_int rfl (by omega) | exact at_slice rfl (by omega) | exact at_int rfl (by simp)) (by first | rfl | exact at_int rfl (by omega) | exact at_slice rfl (by omega) | exact at_int rfl (by simp))) ?_ ?_
  · exact ⟨rfl, Nat.zero_le _, rfl, rfl⟩
  · rintro ⟨i, s, k⟩ g w1 ⟨rfl, hi, hs, hk⟩
    refine J.seq ?_
    refine J.seq ?_
    refine J.region ?_
    refine L.va rfl (X.move (by conv => lhs; whnf)) ?_
    refine L.va rfl (X.move (by conv => lhs; whnf)) ?_
    refine L.va rfl (X.len rfl Try.underlying54) ?_
    refine L.va rfl (X.lss rfl rfl) ?_
    refine L.nil ?_
    -- cond
    refine J.dec rfl (fun hlt => ?_) (fun hlt => ?_)
    · have hin : i < l.length := by omega
      have hA := hr.some_ (by omega)
      obtain ⟨x, hx⟩ : ∃ x, x = l.getD i 0 := ⟨_, rfl⟩
      have hx32 := getN_lt hl i
      have hld : Ld w1 (pA A i) (.int .u32 (x : Int)) := by rw [hx]; exact Ld.zl hr (by omega)
      rw [← hx] at hx32
      have htk : l.take (i + 1) = l.take i ++ [x] := by
        rw [List.take_add_one, List.getElem?_eq_getElem hin, hx, List.getD, List.getElem?_eq_getElem hin]
        rfl
      have hK := K_snoc (l.take i) x z
      rw [← htk, ← hk] at hK
      have hS : ((l.take (i + 1)).any fun s => sb z s) = (s || sb z x) := by rw [htk, List.any_append, ← hs]; simp
      have hk32 : k < 4294967296 := by rw [hk]; exact K_top _ _
      refine J.skip ?_
      refine J.seq ?_
      refine J.block ?_
      refine J.seq ?_
      refine J.region ?_
      refine L.va rfl (X.move (by conv => lhs; whnf)) ?_
      refine L.va rfl (X.move (by conv => lhs; whnf)) ?_
      refine L.va rfl (X.move (by conv => lhs; whnf)) ?_
      refine L.va rfl ((by first | exact X.index1n rfl rfl Try.underlying54 sz_53 (by first | exact Option.some_ne_none _ | exact hA | exact hld) (by omega) | exact X.index1 rfl rfl Try.underlying54 sz_53 (by first | exact Option.some_ne_none _ | exact hA | exact hld) (by omega))) ?_
      refine L.va rfl (X.load rfl sc_53 (by first | exact hA | exact hld)) ?_
      -- callfn bushel/bushelref11.Sub
      refine L.call rfl en_38 rfl (rsub_any z x w1 hz hx32) ?_
      rintro e _ ⟨rfl, rfl⟩
      refine ⟨_, rfl, ?_⟩
      refine L.nil ?_
      -- cond
      cases ho : sb z x
      · rw [ho, if_neg (by decide)] at hK
        rw [ho, Bool.or_false] at hS
        refine J.iteF rfl ?_
        refine J.skip ?_
        refine J.region ?_
        refine L.va rfl (X.move (by conv => lhs; whnf)) ?_
        refine L.va rfl (X.add rfl rfl (by omega)) ?_
        refine L.va rfl (X.assign (by conv => lhs; whnf)) ?_
        refine L.nil ?_
        -- loopend
        refine ⟨(i + 1, s, k), At3 (by first | rfl | exact at_int rfl (by omega) | exact at_slice rfl (by omega) | exact at_int rfl (by simp)) (by first | rfl | exact at_int rfl (by omega) | exact at_slice rfl (by omega) | exact at_int rfl (by simp)) (by first | rfl | exact at_int rfl (by omega) | exact at_slice rfl (by omega) | exact at_int rfl (by simp)), (by (iterate 13 refine Agr.lk rfl ?_); exact Agr.lk rfl (Agr.hav rfl Agr.rfl')), ?_⟩
        exact ⟨⟨rfl, by omega, hS.symm, hK.symm⟩, by show n - (i + 1) < n - i; omega⟩
      · rw [ho, if_pos rfl] at hK
        rw [ho, Bool.or_true] at hS
        refine J.iteT rfl ?_
        refine J.seq ?_
        refine J.region ?_
        refine L.va rfl (X.assign (by conv => lhs; whnf)) ?_
        refine L.nil ?_
        refine J.region ?_
        refine L.va rfl (X.move (by conv => lhs; whnf)) ?_
        refine L.va rfl (X.move (by conv => lhs; whnf)) ?_
        refine L.va rfl (X.move (by conv => lhs; whnf)) ?_
        refine L.va rfl ((by first | exact X.index1n rfl rfl Try.underlying54 sz_53 (by first | exact Option.some_ne_none _ | exact hA | exact hld) (by omega) | exact X.index1 rfl rfl Try.underlying54 sz_53 (by first | exact Option.some_ne_none _ | exact hA | exact hld) (by omega))) ?_
        refine L.va rfl (X.load rfl sc_53 (by first | exact hA | exact hld)) ?_
        -- callfn bushel/bushelref17.common
        refine L.call rfl en_108 rfl (rcommon_any k x w1 hk32 hx32) ?_
        rintro e _ ⟨rfl, rfl⟩
        refine ⟨_, rfl, ?_⟩
        refine L.va rfl (X.assign (by conv => lhs; whnf)) ?_
        refine L.nil ?_
        refine J.region ?_
        refine L.va rfl (X.move (by conv => lhs; whnf)) ?_
        refine L.va rfl (X.add rfl rfl (by omega)) ?_
        refine L.va rfl (X.assign (by conv => lhs; whnf)) ?_
        refine L.nil ?_
        -- loopend
        refine ⟨(i + 1, true, k &&& x), At3 (by first | rfl | exact at_int rfl (by omega) | exact at_slice rfl (by omega) | exact at_int rfl (by simp)) (by first | rfl | exact at_int rfl (by omega) | exact at_slice rfl (by omega) | exact at_int rfl (by simp)) (by first | rfl | exact at_int rfl (by omega) | exact at_slice rfl (by omega) | exact at_int rfl (by simp)), (by (iterate 21 refine Agr.lk rfl ?_); exact Agr.lk rfl (Agr.hav rfl Agr.rfl')), ?_⟩
        exact ⟨⟨rfl, by omega, hS.symm, hK.symm⟩, by show n - (i + 1) < n - i; omega⟩
    · obtain rfl : i = n := by omega
      rw [List.take_of_length_le (by omega)] at hs hk
      have e : cmB l z = (s && decide (k = z)) := by rw [hs, hk]; rfl
      rw [e]
      refine J.exit ?_
      refine J.seq ?_
      refine J.region ?_
      refine L.va rfl (X.move (by conv => lhs; whnf)) ?_
      refine L.va rfl (X.move (by conv => lhs; whnf)) ?_
      -- case t27
      cases s
      · refine L.caseBF (k := 27) rfl (by rfl) ?_
        refine L.no rfl ?_
        refine L.no rfl ?_
        refine L.no rfl ?_
        refine L.va rfl (X.pickF rfl (by conv => lhs; whnf)) ?_
        refine L.va rfl (X.assign (by conv => lhs; whnf)) ?_
        refine L.nil ?_
        -- ret
        refine J.ret ?_
        refine fin1 ?_
        exact ⟨rfl, rfl⟩
      · refine L.caseBT (k := 27) rfl (by rfl) ?_
        refine L.va rfl (X.move (by conv => lhs; whnf)) ?_
        refine L.va rfl (X.move (by conv => lhs; whnf)) ?_
        refine L.va rfl (X.eql rfl rfl) ?_
        refine L.va rfl (X.pickT rfl (by conv => lhs; whnf)) ?_
        refine L.va rfl (X.assign (by conv => lhs; whnf)) ?_
        refine L.nil ?_
        -- ret
        refine J.ret ?_
        refine fin1 ?_
        exact ⟨congrArg (fun b => Ending.returned (.bool b)) (decide_eq_decide.2 Int.ofNat_inj), rfl⟩
end Go.Proofs.Ytmnlaekcojblkaa
