/-
  Lattices: counts, all between two, the least cover, walked.
-/
import Derived.Test.YtmnlaekcojblkaaLatPlain
import Derived.Test.YtmnlaekcojblkaaWAdvA
import Derived.Test.YtmnlaekcojblkaaWCloA
namespace Go.Proofs.Ytmnlaekcojblkaa
set_option maxRecDepth 100000
open Go.RowKit H
open Mk Clo
set_option linter.unusedVariables false
theorem rcount_any (a : Nat) (w : World) (ha : a < 4294967296) : Calls Try.prog 41 #[.int .u32 (a : Int)] w fun e w' => e = .returned (.int .i64 (cnt 32 a : Int)) ∧ w = w' := by
  refine enter Try.func41 rfl (by kernel_rfl) ?_
  refine J.seq ?_
  refine J.region ?_
  refine L.va rfl (X.assign (by conv => lhs; whnf)) ?_
  refine L.nil ?_
  refine J.seq ?_
  refine J.region ?_
  refine L.va rfl (X.assign (by conv => lhs; whnf)) ?_
  refine L.nil ?_
  refine J.seq ?_
  refine J.seq ?_
  refine J.region ?_
  refine L.va rfl (X.assign (by conv => lhs; whnf)) ?_
  refine L.nil ?_
  refine J.block ?_
  -- loop
  refine J.loop (X := Nat × Nat) [3, 4, 5, 6, 7, 8, 9, 10, 11, 12, 13] (fun (i, n) => [(4, .int .i64 (i : Int)), (3, .int .i64 (n : Int))]) (fun (i, n) w' => w' = w ∧ i ≤ 32 ∧ n = cnt i a) (fun (i, _) => 32 - i) ((0, 0)) (At2 (by first | rfl | exact at_int rfl (by omega) | exact at_slice rfl (by omega) | exact at_int rfl (by simp)) (by first | rfl | exact at_int rfl (by omega) | exact at_slice rfl (by omega) | exact at_int rfl (by simp))) ?_ ?_
  · exact ⟨rfl, by omega, rfl⟩
  · rintro ⟨i, n⟩ g w1 ⟨rfl, hi, hn⟩
    have hc := cnt_le i a
    have hb := cnt_bit i a
    refine J.seq ?_
    refine J.seq ?_
    refine J.region ?_
    refine L.va rfl (X.move (by conv => lhs; whnf)) ?_
    refine L.va rfl (X.lss rfl rfl) ?_
    refine L.nil ?_
    -- cond
    refine J.dec rfl (fun hlt => ?_) (fun hlt => ?_)
    · have c1 := rin_any a i w1 ha (by omega)
      refine J.skip ?_
      refine J.seq ?_
      refine J.block ?_
      refine J.seq ?_
      refine J.region ?_
      refine L.va rfl (X.move (by conv => lhs; whnf)) ?_
      refine L.va rfl (X.move (by conv => lhs; whnf)) ?_
      -- callfn bushel/bushelref11.In
      refine L.call rfl en_103 rfl (c1) ?_
      rintro e _ ⟨rfl, rfl⟩
      refine ⟨_, rfl, ?_⟩
      refine L.nil ?_
      -- cond
      cases ht : a.testBit i
      · rw [if_neg (by rw [ht]; decide)] at hb
        refine J.iteF rfl ?_
        refine J.skip ?_
        refine J.region ?_
        refine L.va rfl (X.move (by conv => lhs; whnf)) ?_
        refine L.va rfl (X.add rfl rfl (by omega)) ?_
        refine L.va rfl (X.assign (by conv => lhs; whnf)) ?_
        refine L.nil ?_
        -- loopend
        refine ⟨(i + 1, n), At2 (by first | rfl | exact at_int rfl (by omega) | exact at_slice rfl (by omega) | exact at_int rfl (by simp)) (by first | rfl | exact at_int rfl (by omega) | exact at_slice rfl (by omega) | exact at_int rfl (by simp)), (by (iterate 8 refine Agr.lk rfl ?_); exact Agr.lk rfl (Agr.hav rfl Agr.rfl')), ?_⟩
        exact ⟨⟨rfl, by omega, by omega⟩, by show 32 - (i + 1) < 32 - i; omega⟩
      · rw [if_pos ht] at hb
        refine J.iteT rfl ?_
        refine J.region ?_
        refine L.va rfl (X.move (by conv => lhs; whnf)) ?_
        refine L.va rfl (X.add rfl rfl (by omega)) ?_
        refine L.va rfl (X.assign (by conv => lhs; whnf)) ?_
        refine L.nil ?_
        refine J.region ?_
        refine L.va rfl (X.move (by conv => lhs; whnf)) ?_
        refine L.va rfl (X.add rfl rfl (by omega)) ?_
        refine L.va rfl (X.assign (by conv => lhs; whnf)) ?_
        refine L.nil ?_
        -- loopend
        refine ⟨(i + 1, n + 1), At2 (by first | rfl | exact at_int rfl (by omega) | exact at_slice rfl (by omega) | exact at_int rfl (by simp)) (by first | rfl | exact at_int rfl (by omega) | exact at_slice rfl (by omega) | exact at_int rfl (by simp)), (by (iterate 11 refine Agr.lk rfl ?_); exact Agr.lk rfl (Agr.hav rfl Agr.rfl')), ?_⟩
        exact ⟨⟨rfl, by omega, by omega⟩, by show 32 - (i + 1) < 32 - i; omega⟩
    · obtain rfl : i = 32 := by omega
      refine J.exit ?_
      refine J.seq ?_
      refine J.region ?_
      refine L.va rfl (X.move (by conv => lhs; whnf)) ?_
      refine L.va rfl (X.assign (by conv => lhs; whnf)) ?_
      refine L.nil ?_
      -- ret
      refine J.ret ?_
      refine fin1 ?_
      exact ⟨by rw [hn]; rfl, rfl⟩
theorem lsize (A : Option Addr) (n c : Nat) (ss : List Int) (i : Nat) (w : World) (hr : Reads w w.heap.size 1 A n (nums .i64 ss)) : Calls Try.prog 105 #[.slice A n c, .int .i64 (i : Int)] w fun e w' => e = .returned (.int .i64 (ss.getD i 0)) ∧ w = w' := by
  have hl : ss.length = n := by have := hr.1; simpa [nums] using this
  refine enter Try.func105 rfl (by kernel_rfl) ?_
  refine J.seq ?_
  refine J.region ?_
  refine L.va rfl (X.assign (by conv => lhs; whnf)) ?_
  refine L.nil ?_
  refine J.seq ?_
  refine J.seq ?_
  refine J.region ?_
  refine L.va rfl (X.move (by conv => lhs; whnf)) ?_
  refine L.va rfl (X.move (by conv => lhs; whnf)) ?_
  refine L.va rfl (X.len rfl Try.underlying29) ?_
  refine L.va rfl (X.lss rfl rfl) ?_
  refine L.nil ?_
  -- cond
  refine J.dec rfl (fun hlt => ?_) (fun hlt => ?_)
  · have hA := hr.some_ (by omega)
    refine J.seq ?_
    refine J.region ?_
    refine L.va rfl (X.move (by conv => lhs; whnf)) ?_
    refine L.va rfl (X.move (by conv => lhs; whnf)) ?_
    refine L.va rfl ((by first | exact X.index1n rfl rfl Try.underlying29 sz_3 (by first | exact Option.some_ne_none _ | exact hr.some_ (by omega) | exact hA) (by omega) | exact X.index1 rfl rfl Try.underlying29 sz_3 (by first | exact Option.some_ne_none _ | exact hr.some_ (by omega) | exact hA) (by omega))) ?_
    refine L.va rfl (X.load rfl sc_3 (by first | exact Ld.num hr (by omega) | exact hA)) ?_
    refine L.va rfl (X.assign (by conv => lhs; whnf)) ?_
    refine L.nil ?_
    -- ret
    refine J.ret ?_
    refine thn_ret <| ?_
    refine fin1 ?_
    exact ⟨rfl, rfl⟩
  · refine J.skip ?_
    refine J.seq ?_
    refine J.region ?_
    refine L.va rfl (X.assign (by conv => lhs; whnf)) ?_
    refine L.nil ?_
    -- ret
    refine J.ret ?_
    refine fin1 ?_
    exact ⟨by rw [List.getD, List.getElem?_eq_none (by omega)]; rfl, rfl⟩
theorem lsizeI (A : Option Addr) (n c : Nat) (ss : List Int) (x : Int) (w : World) (hr : Reads w w.heap.size 1 A n (nums .i64 ss)) (hx : 0 ≤ x) : Calls Try.prog 105 #[.slice A n c, .int .i64 x] w fun e w' => e = .returned (.int .i64 (ss.getD x.toNat 0)) ∧ w = w' := by
  obtain ⟨k, rfl⟩ := Int.eq_ofNat_of_zero_le hx
  exact lsize A n c ss k w hr
theorem rsize (A : Option Addr) (n c : Nat) (ss : List Int) (i : Nat) (w : World) (hr : Reads w w.heap.size 1 A n (nums .i64 ss)) : Calls Try.prog 106 #[.slice A n c, .int .i64 (i : Int)] w fun e w' => e = .returned (.int .i64 (ss.getD i 0)) ∧ w = w' := by
  have hl : ss.length = n := by have := hr.1; simpa [nums] using this
  refine enter Try.func106 rfl (by kernel_rfl) ?_
  refine J.seq ?_
  refine J.region ?_
  refine L.va rfl (X.assign (by conv => lhs; whnf)) ?_
  refine L.nil ?_
  refine J.seq ?_
  refine J.seq ?_
  refine J.region ?_
  refine L.va rfl (X.move (by conv => lhs; whnf)) ?_
  refine L.va rfl (X.move (by conv => lhs; whnf)) ?_
  refine L.va rfl (X.len rfl Try.underlying29) ?_
  refine L.va rfl (X.lss rfl rfl) ?_
  refine L.nil ?_
  -- cond
  refine J.dec rfl (fun hlt => ?_) (fun hlt => ?_)
  · have hA := hr.some_ (by omega)
    refine J.seq ?_
    refine J.region ?_
    refine L.va rfl (X.move (by conv => lhs; whnf)) ?_
    refine L.va rfl (X.move (by conv => lhs; whnf)) ?_
    refine L.va rfl ((by first | exact X.index1n rfl rfl Try.underlying29 sz_3 (by first | exact Option.some_ne_none _ | exact hr.some_ (by omega) | exact hA) (by omega) | exact X.index1 rfl rfl Try.underlying29 sz_3 (by first | exact Option.some_ne_none _ | exact hr.some_ (by omega) | exact hA) (by omega))) ?_
    refine L.va rfl (X.load rfl sc_3 (by first | exact Ld.num hr (by omega) | exact hA)) ?_
    refine L.va rfl (X.assign (by conv => lhs; whnf)) ?_
    refine L.nil ?_
    -- ret
    refine J.ret ?_
    refine thn_ret <| ?_
    refine fin1 ?_
    exact ⟨rfl, rfl⟩
  · refine J.skip ?_
    refine J.seq ?_
    refine J.region ?_
    refine L.va rfl (X.assign (by conv => lhs; whnf)) ?_
    refine L.nil ?_
    -- ret
    refine J.ret ?_
    refine fin1 ?_
    exact ⟨by rw [List.getD, List.getElem?_eq_none (by omega)]; rfl, rfl⟩
theorem getN_lt {l : List Nat} (h : ∀ x ∈ l, x < 4294967296) (i : Nat) : l.getD i 0 < 4294967296 := by
  rcases Nat.lt_or_ge i l.length with hi | hi
  · rw [List.getD, List.getElem?_eq_getElem hi]; exact h _ (List.getElem_mem _)
  · rw [List.getD, List.getElem?_eq_none hi]; decide
theorem Ld.zl {w : World} {B n : Nat} {A : Option Addr} {l : List Nat} (h : Reads w B 1 A n (nums .u32 (zl l))) {j : Nat} (hj : j < n) : Ld w (pA A j) (.int .u32 ((l.getD j 0 : Nat) : Int)) := by
  have := Ld.num h hj
  rwa [zl_getD] at this
theorem lcover (A1 : Option Addr) (n1 c1 : Nat) (vs : List Nat) (A2 : Option Addr) (n2 c2 : Nat) (ss : List Int) (x : Nat) (w : World) (h1 : Reads w w.heap.size 1 A1 n1 (nums .u32 (zl vs))) (h2 : Reads w w.heap.size 1 A2 n2 (nums .i64 ss)) (hv : ∀ y ∈ vs, y < 4294967296) (hx : x < 4294967296) (hn : n1 ≤ 100) :
    Calls Try.prog 45 #[.slice A1 n1 c1, .slice A2 n2 c2, .int .u32 (x : Int)] w fun e w' => ∃ a : Int, e = .returned (.int .i64 a) ∧ MinAt (fun i => sb x (vs.getD i 0)) (fun i => ss.getD i 0) 0 n1 a ∧ w = w' := by
  refine enter Try.func45 rfl (by kernel_rfl) ?_
  refine J.seq ?_
  refine J.region ?_
  refine L.va rfl (X.assign (by conv => lhs; whnf)) ?_
  refine L.nil ?_
  refine J.seq ?_
  refine J.region ?_
  refine L.va rfl (X.assign (by conv => lhs; whnf)) ?_
  refine L.nil ?_
  refine J.seq ?_
  refine J.seq ?_
  refine J.region ?_
  refine L.va rfl (X.move (by conv => lhs; whnf)) ?_
  refine L.va rfl (X.len rfl Try.underlying54) ?_
  refine L.va rfl (X.move (by conv => lhs; whnf)) ?_
  refine L.nil ?_
  refine J.block ?_
  -- loop
  refine J.loop (X := Nat × Int) [7, 8, 9, 12, 13, 14, 15, 16, 17, 18, 19, 20, 21, 22, 23, 24, 25, 26, 27, 28, 29, 30, 31, 32, 33, 34] (fun (i, a) => [(12, .int .i64 (i : Int)), (7, .int .i64 a)]) (fun (i, a) w' => w' = w ∧ i ≤ n1 ∧ MinAt (fun i => sb x (vs.getD i 0)) (fun i => ss.getD i 0) 0 i a) (fun (i, _) => n1 - i) ((0, -1)) (At2 (by first | rfl | exact at_int rfl (by omega) | exact at_slice rfl (by omega) | exact at_int rfl (by simp)) (by first | rfl | exact at_int rfl (by omega) | exact at_slice rfl (by omega) | exact at_int rfl (by simp))) ?_ ?_
  · exact ⟨rfl, Nat.zero_le _, MinAt.none _ _ _⟩
  · rintro ⟨i, a⟩ g w1 ⟨rfl, hi, hM⟩
    have hge := hM.ge
    have hf := hM.fwd (Nat.zero_le _)
    refine J.seq ?_
    refine J.region ?_
    refine L.va rfl (X.lss rfl rfl) ?_
    refine L.nil ?_
    refine J.seq ?_
    -- cond
    refine J.dec rfl (fun hlt => ?_) (fun hlt => ?_)
    · have hA := h1.some_ (by omega)
      have c3 := lsub_any x (vs.getD i 0) w1 hx (getN_lt hv i)
      refine J.skip ?_
      refine J.seq ?_
      refine J.block ?_
      refine J.seq ?_
      refine J.region ?_
      refine L.va rfl (X.move (by conv => lhs; whnf)) ?_
      refine L.va rfl ((by first | exact X.index1n rfl rfl Try.underlying54 sz_53 (by first | exact Option.some_ne_none _ | exact hA) (by omega) | exact X.index1 rfl rfl Try.underlying54 sz_53 (by first | exact Option.some_ne_none _ | exact hA) (by omega))) ?_
      refine L.va rfl (X.load rfl sc_53 (by first | exact hA | exact Ld.zl h1 (by omega))) ?_
      refine L.va rfl (X.assign (by conv => lhs; whnf)) ?_
      refine L.va rfl (X.assign (by conv => lhs; whnf)) ?_
      refine L.nil ?_
      refine J.seq ?_
      refine J.region ?_
      refine L.va rfl (X.move (by conv => lhs; whnf)) ?_
      refine L.va rfl (X.move (by conv => lhs; whnf)) ?_
      -- callfn bushel/lattice.Sub
      refine L.call rfl en_39 rfl (c3) ?_
      rintro e _ ⟨rfl, rfl⟩
      refine ⟨_, rfl, ?_⟩
      refine L.va rfl (X.move (by conv => lhs; whnf)) ?_
      -- case t20
      cases ho : sb x (vs.getD i 0)
      · rw [if_neg (fun h => by rw [show sb x (vs.getD i 0) = true from h.1] at ho; cases ho)] at hf
        refine L.caseBF (k := 20) rfl (by rfl) ?_
        refine L.no rfl ?_
        refine L.no rfl ?_
        refine L.no rfl ?_
        refine L.no rfl ?_
        refine L.no rfl ?_
        refine L.no rfl ?_
        refine L.no rfl ?_
        refine L.no rfl ?_
        refine L.no rfl ?_
        refine L.no rfl ?_
        refine L.no rfl ?_
        refine L.va rfl (X.pickF rfl (by conv => lhs; whnf)) ?_
        refine L.nil ?_
        -- cond
        refine J.iteF rfl ?_
        refine J.skip ?_
        refine J.region ?_
        refine L.va rfl (X.add rfl rfl (by omega)) ?_
        refine L.va rfl (X.move (by conv => lhs; whnf)) ?_
        refine L.nil ?_
        -- loopend
        refine ⟨(i + 1, a), At2 (by first | rfl | exact at_int rfl (by omega) | exact at_slice rfl (by omega) | exact at_int rfl (by simp)) (by first | rfl | exact at_int rfl (by omega) | exact at_slice rfl (by omega) | exact at_int rfl (by simp)), (by (iterate 25 refine Agr.lk rfl ?_); exact Agr.lk rfl (Agr.hav rfl Agr.rfl')), ?_⟩
        exact ⟨⟨rfl, by omega, hf⟩, by show n1 - (i + 1) < n1 - i; omega⟩
      · refine L.caseBT (k := 20) rfl (by rfl) ?_
        refine L.va rfl (X.move (by conv => lhs; whnf)) ?_
        refine L.va rfl (X.lss rfl rfl) ?_
        refine L.va rfl (X.move (by conv => lhs; whnf)) ?_
        -- case t23
        refine L.caseDec (k := 23) rfl (fun ha => ?_) (fun ha => ?_)
        · rw [if_pos ⟨ho, .inl ha⟩] at hf
          refine L.no rfl ?_
          refine L.no rfl ?_
          refine L.no rfl ?_
          refine L.no rfl ?_
          refine L.no rfl ?_
          refine L.no rfl ?_
          refine L.no rfl ?_
          refine L.va rfl (X.pickT rfl (by conv => lhs; whnf)) ?_
          refine L.va rfl (X.pickT rfl (by conv => lhs; whnf)) ?_
          refine L.nil ?_
          -- cond
          refine J.iteT rfl ?_
          refine J.region ?_
          refine L.va rfl (X.move (by conv => lhs; whnf)) ?_
          refine L.va rfl (X.assign (by conv => lhs; whnf)) ?_
          refine L.nil ?_
          refine J.region ?_
          refine L.va rfl (X.add rfl rfl (by omega)) ?_
          refine L.va rfl (X.move (by conv => lhs; whnf)) ?_
          refine L.nil ?_
          -- loopend
          refine ⟨(i + 1, (i : Int)), At2 (by first | rfl | exact at_int rfl (by omega) | exact at_slice rfl (by omega) | exact at_int rfl (by simp)) (by first | rfl | exact at_int rfl (by omega) | exact at_slice rfl (by omega) | exact at_int rfl (by simp)), (by (iterate 28 refine Agr.lk rfl ?_); exact Agr.lk rfl (Agr.hav rfl Agr.rfl')), ?_⟩
          exact ⟨⟨rfl, by omega, hf⟩, by show n1 - (i + 1) < n1 - i; omega⟩
        · obtain ⟨k, rfl⟩ := Int.eq_ofNat_of_zero_le (show 0 ≤ a by omega)
          rw [Int.toNat_natCast] at hf
          refine L.va rfl (X.move (by conv => lhs; whnf)) ?_
          refine L.va rfl (X.move (by conv => lhs; whnf)) ?_
          -- callfn bushel/lattice.size
          refine L.call rfl en_105 rfl (lsize A2 n2 c2 ss i w1 h2) ?_
          rintro e _ ⟨rfl, rfl⟩
          refine ⟨_, rfl, ?_⟩
          refine L.va rfl (X.move (by conv => lhs; whnf)) ?_
          refine L.va rfl (X.move (by conv => lhs; whnf)) ?_
          -- callfn bushel/lattice.size
          refine L.call rfl en_105 rfl (lsize A2 n2 c2 ss k w1 h2) ?_
          rintro e _ ⟨rfl, rfl⟩
          refine ⟨_, rfl, ?_⟩
          refine L.va rfl (X.lss rfl rfl) ?_
          refine L.va rfl (X.pickF rfl (by conv => lhs; whnf)) ?_
          refine L.va rfl (X.pickT rfl (by conv => lhs; whnf)) ?_
          refine L.nil ?_
          -- cond
          refine J.dec rfl (fun hs => ?_) (fun hs => ?_)
          · rw [if_pos ⟨ho, .inr hs⟩] at hf
            refine J.region ?_
            refine L.va rfl (X.move (by conv => lhs; whnf)) ?_
            refine L.va rfl (X.assign (by conv => lhs; whnf)) ?_
            refine L.nil ?_
            refine J.region ?_
            refine L.va rfl (X.add rfl rfl (by omega)) ?_
            refine L.va rfl (X.move (by conv => lhs; whnf)) ?_
            refine L.nil ?_
            -- loopend
            refine ⟨(i + 1, (i : Int)), At2 (by first | rfl | exact at_int rfl (by omega) | exact at_slice rfl (by omega) | exact at_int rfl (by simp)) (by first | rfl | exact at_int rfl (by omega) | exact at_slice rfl (by omega) | exact at_int rfl (by simp)), (by (iterate 28 refine Agr.lk rfl ?_); exact Agr.lk rfl (Agr.hav rfl Agr.rfl')), ?_⟩
            exact ⟨⟨rfl, by omega, hf⟩, by show n1 - (i + 1) < n1 - i; omega⟩
          · rw [if_neg (fun h => h.2.elim (by omega) hs)] at hf
            refine J.skip ?_
            refine J.region ?_
            refine L.va rfl (X.add rfl rfl (by omega)) ?_
            refine L.va rfl (X.move (by conv => lhs; whnf)) ?_
            refine L.nil ?_
            -- loopend
            refine ⟨(i + 1, (k : Int)), At2 (by first | rfl | exact at_int rfl (by omega) | exact at_slice rfl (by omega) | exact at_int rfl (by simp)) (by first | rfl | exact at_int rfl (by omega) | exact at_slice rfl (by omega) | exact at_int rfl (by simp)), (by (iterate 26 refine Agr.lk rfl ?_); exact Agr.lk rfl (Agr.hav rfl Agr.rfl')), ?_⟩
            exact ⟨⟨rfl, by omega, hf⟩, by show n1 - (i + 1) < n1 - i; omega⟩
    · obtain rfl : i = n1 := by omega
      refine J.exit ?_
      refine J.seq ?_
      refine J.region ?_
      refine L.va rfl (X.move (by conv => lhs; whnf)) ?_
      refine L.va rfl (X.assign (by conv => lhs; whnf)) ?_
      refine L.nil ?_
      -- ret
      refine J.ret ?_
      refine fin1 ?_
      exact ⟨a, rfl, hM, rfl⟩
def okC (vs : List Nat) (x : Nat) (z : Bool) (i : Nat) : Bool := sb x (vs.getD i 0) && !(z && decide (vs.getD i 0 = x))
theorem rcover (A1 : Option Addr) (n1 c1 : Nat) (vs : List Nat) (A2 : Option Addr) (n2 c2 : Nat) (ss : List Int) (x : Nat) (z : Bool) (w : World) (h1 : Reads w w.heap.size 1 A1 n1 (nums .u32 (zl vs))) (h2 : Reads w w.heap.size 1 A2 n2 (nums .i64 ss)) (hv : ∀ y ∈ vs, y < 4294967296) (hx : x < 4294967296) (hn : n1 ≤ 100) :
    Calls Try.prog 46 #[.slice A1 n1 c1, .slice A2 n2 c2, .int .u32 (x : Int), .bool z] w fun e w' => ∃ a : Int, e = .returned (.int .i64 a) ∧ MinAt (okC vs x z) (fun i => ss.getD i 0) 0 n1 a ∧ w = w' := by
  refine enter Try.func46 rfl (by kernel_rfl) ?_
  refine J.seq ?_
  refine J.region ?_
  refine L.va rfl (X.assign (by conv => lhs; whnf)) ?_
  refine L.nil ?_
  refine J.seq ?_
  refine J.region ?_
  refine L.va rfl (X.assign (by conv => lhs; whnf)) ?_
  refine L.nil ?_
  refine J.seq ?_
  refine J.seq ?_
  refine J.region ?_
  refine L.va rfl (X.move (by conv => lhs; whnf)) ?_
  refine L.va rfl (X.len rfl Try.underlying54) ?_
  refine L.va rfl (X.sub rfl rfl (by omega)) ?_
  refine L.va rfl (X.assign (by conv => lhs; whnf)) ?_
  refine L.nil ?_
  refine J.block ?_
  -- loop
  refine J.loop (X := Nat × Int) [9, 10, 14, 15, 16, 17, 18, 19, 20, 21, 22, 23, 24, 25, 26, 27, 28, 29, 30, 31, 32, 33, 34, 35, 36, 37, 38, 39, 40, 41, 42, 43, 44, 45, 46, 47, 48, 49] (fun (i, a) => [(10, .int .i64 ((i : Int) - 1)), (9, .int .i64 a)]) (fun (i, a) w' => w' = w ∧ i ≤ n1 ∧ MinAt (okC vs x z) (fun i => ss.getD i 0) i n1 a) (fun (i, _) => i) ((n1, -1)) (At2 (by first | rfl | exact at_int rfl (by omega) | exact at_slice rfl (by omega) | exact at_int rfl (by simp)) (by first | rfl | exact at_int rfl (by omega) | exact at_slice rfl (by omega) | exact at_int rfl (by simp))) ?_ ?_
  · exact ⟨rfl, Nat.le_refl _, MinAt.none _ _ _⟩
  · rintro ⟨i, a⟩ g w1 ⟨rfl, hi, hM⟩
    have hge := hM.ge
    refine J.seq ?_
    refine J.seq ?_
    refine J.region ?_
    refine L.va rfl (X.move (by conv => lhs; whnf)) ?_
    refine L.va rfl (X.geq rfl rfl) ?_
    refine L.nil ?_
    -- cond
    refine J.dec rfl (fun hlt => ?_) (fun hlt => ?_)
    · obtain ⟨i, rfl⟩ : ∃ i', i = i' + 1 := ⟨i - 1, by omega⟩
      have hf := hM.bwd (by omega)
      have hA := h1.some_ (by omega)
      have c3 := rsub_any x (vs.getD i 0) w1 hx (getN_lt hv i)
      have ei : ((i + 1 : Nat) : Int) - 1 = (i : Int) := by omega
      -- t21
      -- t29
      refine J.skip ?_
      refine J.seq ?_
      refine J.block ?_
      refine J.seq ?_
      refine J.region ?_
      refine L.va rfl (X.move (by conv => lhs; whnf)) ?_
      refine L.va rfl (X.move (by conv => lhs; whnf)) ?_
      refine L.va rfl (X.move (by conv => lhs; whnf)) ?_
      refine L.va rfl (X.index1eU (j := i) rfl rfl (by omega) Try.underlying54 sz_53 hA (by omega)) ?_
      refine L.va rfl (X.load rfl sc_53 (by first | exact hA | exact Ld.zl h1 (by omega))) ?_
      -- callfn bushel/bushelref11.Sub
      refine L.call rfl en_38 rfl (c3) ?_
      rintro e _ ⟨rfl, rfl⟩
      refine ⟨_, rfl, ?_⟩
      refine L.va rfl (X.move (by conv => lhs; whnf)) ?_
      -- case t24
      have c4 := rsize A2 n2 c2 ss i w1 h2
      rw [← ei] at c4
      have eok : okC vs x z i = (sb x (vs.getD i 0) && !(z && decide (vs.getD i 0 = x))) := rfl
      cases ho : sb x (vs.getD i 0)
      · have hok : okC vs x z i = false := by rw [eok, ho]; rfl
        rw [if_neg (fun h => by rw [hok] at h; cases h.1)] at hf
        refine L.caseBF (k := 24) rfl (by rfl) ?_
        refine L.no rfl ?_
        refine L.no rfl ?_
        refine L.no rfl ?_
        refine L.no rfl ?_
        refine L.no rfl ?_
        refine L.no rfl ?_
        refine L.no rfl ?_
        refine L.no rfl ?_
        refine L.no rfl ?_
        refine L.no rfl ?_
        refine L.va rfl (X.pickF rfl (by conv => lhs; whnf)) ?_
        refine L.va rfl (X.move (by conv => lhs; whnf)) ?_
        refine L.no rfl ?_
        refine L.no rfl ?_
        refine L.no rfl ?_
        refine L.no rfl ?_
        refine L.no rfl ?_
        refine L.no rfl ?_
        refine L.no rfl ?_
        refine L.no rfl ?_
        refine L.no rfl ?_
        refine L.no rfl ?_
        refine L.no rfl ?_
        refine L.va rfl (X.pickF rfl (by conv => lhs; whnf)) ?_
        refine L.nil ?_
        -- cond
        refine J.iteF rfl ?_
        refine J.skip ?_
        refine J.region ?_
        refine L.va rfl (X.move (by conv => lhs; whnf)) ?_
        refine L.va rfl (X.sub rfl rfl (by omega)) ?_
        refine L.va rfl (X.assign (by conv => lhs; whnf)) ?_
        refine L.nil ?_
        -- loopend
        refine ⟨(i, a), At2 (by first | rfl | exact at_int rfl (by omega) | exact at_slice rfl (by omega) | exact at_int rfl (by simp)) (by first | rfl | exact at_int rfl (by omega) | exact at_slice rfl (by omega) | exact at_int rfl (by simp)), (by (iterate 37 refine Agr.lk rfl ?_); exact Agr.lk rfl (Agr.hav rfl Agr.rfl')), ?_⟩
        exact ⟨⟨rfl, by omega, hf⟩, by show i < i + 1; omega⟩
      · refine L.caseBT (k := 24) rfl (by rfl) ?_
        refine L.va rfl (X.move (by conv => lhs; whnf)) ?_
        refine L.va rfl (X.move (by conv => lhs; whnf)) ?_
        -- case t26
        cases z
        · have hok : okC vs x false i = true := by rw [eok, ho]; rfl
          refine L.caseBF (k := 26) rfl (by rfl) ?_
          refine L.no rfl ?_
          refine L.no rfl ?_
          refine L.no rfl ?_
          refine L.no rfl ?_
          refine L.no rfl ?_
          refine L.no rfl ?_
          refine L.va rfl (X.pickF rfl (by conv => lhs; whnf)) ?_
          refine L.va rfl (X.not rfl) ?_
          refine L.va rfl (X.pickT rfl (by conv => lhs; whnf)) ?_
          refine L.va rfl (X.move (by conv => lhs; whnf)) ?_
          refine L.va rfl (X.move (by conv => lhs; whnf)) ?_
          refine L.va rfl (X.lss rfl rfl) ?_
          refine L.va rfl (X.move (by conv => lhs; whnf)) ?_
          -- case t39
          refine L.caseDec (k := 39) rfl (fun ha => ?_) (fun ha => ?_)
          · rw [if_pos ⟨hok, .inl ha⟩] at hf
            refine L.no rfl ?_
            refine L.no rfl ?_
            refine L.no rfl ?_
            refine L.no rfl ?_
            refine L.no rfl ?_
            refine L.no rfl ?_
            refine L.no rfl ?_
            refine L.va rfl (X.pickT rfl (by conv => lhs; whnf)) ?_
            refine L.va rfl (X.pickT rfl (by conv => lhs; whnf)) ?_
            refine L.nil ?_
            -- cond
            refine J.iteT rfl ?_
            refine J.region ?_
            refine L.va rfl (X.move (by conv => lhs; whnf)) ?_
            refine L.va rfl (X.assign (by conv => lhs; whnf)) ?_
            refine L.nil ?_
            refine J.region ?_
            refine L.va rfl (X.move (by conv => lhs; whnf)) ?_
            refine L.va rfl (X.sub rfl rfl (by omega)) ?_
            refine L.va rfl (X.assign (by conv => lhs; whnf)) ?_
            refine L.nil ?_
            -- loopend
            refine ⟨(i, (i : Int)), At2 (by first | rfl | exact at_int rfl (by omega) | exact at_slice rfl (by omega) | exact at_int rfl (by simp)) (by first | rfl | exact at_int rfl (by omega) | exact at_slice rfl (by omega) | exact at_int rfl (by simp)), (by (iterate 41 refine Agr.lk rfl ?_); exact Agr.lk rfl (Agr.hav rfl Agr.rfl')), ?_⟩
            exact ⟨⟨rfl, by omega, hf⟩, by show i < i + 1; omega⟩
          · obtain ⟨k, rfl⟩ := Int.eq_ofNat_of_zero_le (show 0 ≤ a by omega)
            rw [Int.toNat_natCast] at hf
            refine L.va rfl (X.move (by conv => lhs; whnf)) ?_
            refine L.va rfl (X.move (by conv => lhs; whnf)) ?_
            -- callfn bushel/bushelref17.size
            refine L.call rfl en_106 rfl (c4) ?_
            rintro e _ ⟨rfl, rfl⟩
            refine ⟨_, rfl, ?_⟩
            refine L.va rfl (X.move (by conv => lhs; whnf)) ?_
            refine L.va rfl (X.move (by conv => lhs; whnf)) ?_
            -- callfn bushel/bushelref17.size
            refine L.call rfl en_106 rfl (rsize A2 n2 c2 ss k w1 h2) ?_
            rintro e _ ⟨rfl, rfl⟩
            refine ⟨_, rfl, ?_⟩
            refine L.va rfl (X.leq rfl rfl) ?_
            refine L.va rfl (X.pickF rfl (by conv => lhs; whnf)) ?_
            refine L.va rfl (X.pickT rfl (by conv => lhs; whnf)) ?_
            refine L.nil ?_
            -- cond
            refine J.dec rfl (fun hs => ?_) (fun hs => ?_)
            · rw [if_pos ⟨hok, .inr hs⟩] at hf
              refine J.region ?_
              refine L.va rfl (X.move (by conv => lhs; whnf)) ?_
              refine L.va rfl (X.assign (by conv => lhs; whnf)) ?_
              refine L.nil ?_
              refine J.region ?_
              refine L.va rfl (X.move (by conv => lhs; whnf)) ?_
              refine L.va rfl (X.sub rfl rfl (by omega)) ?_
              refine L.va rfl (X.assign (by conv => lhs; whnf)) ?_
              refine L.nil ?_
              -- loopend
              refine ⟨(i, (i : Int)), At2 (by first | rfl | exact at_int rfl (by omega) | exact at_slice rfl (by omega) | exact at_int rfl (by simp)) (by first | rfl | exact at_int rfl (by omega) | exact at_slice rfl (by omega) | exact at_int rfl (by simp)), (by (iterate 41 refine Agr.lk rfl ?_); exact Agr.lk rfl (Agr.hav rfl Agr.rfl')), ?_⟩
              exact ⟨⟨rfl, by omega, hf⟩, by show i < i + 1; omega⟩
            · rw [if_neg (fun h => h.2.elim (by omega) hs)] at hf
              refine J.skip ?_
              refine J.region ?_
              refine L.va rfl (X.move (by conv => lhs; whnf)) ?_
              refine L.va rfl (X.sub rfl rfl (by omega)) ?_
              refine L.va rfl (X.assign (by conv => lhs; whnf)) ?_
              refine L.nil ?_
              -- loopend
              refine ⟨(i, (k : Int)), At2 (by first | rfl | exact at_int rfl (by omega) | exact at_slice rfl (by omega) | exact at_int rfl (by simp)) (by first | rfl | exact at_int rfl (by omega) | exact at_slice rfl (by omega) | exact at_int rfl (by simp)), (by (iterate 39 refine Agr.lk rfl ?_); exact Agr.lk rfl (Agr.hav rfl Agr.rfl')), ?_⟩
              exact ⟨⟨rfl, by omega, hf⟩, by show i < i + 1; omega⟩
        · refine L.caseBT (k := 26) rfl (by rfl) ?_
          refine L.va rfl (X.move (by conv => lhs; whnf)) ?_
          refine L.va rfl (X.move (by conv => lhs; whnf)) ?_
          refine L.va rfl (X.index1eU (j := i) rfl rfl (by omega) Try.underlying54 sz_53 hA (by omega)) ?_
          refine L.va rfl (X.load rfl sc_53 (by first | exact hA | exact Ld.zl h1 (by omega))) ?_
          refine L.va rfl (X.move (by conv => lhs; whnf)) ?_
          refine L.va rfl (X.eql rfl rfl) ?_
          refine L.va rfl (X.pickT rfl (by conv => lhs; whnf)) ?_
          refine L.va rfl (X.not rfl) ?_
          refine L.va rfl (X.pickT rfl (by conv => lhs; whnf)) ?_
          refine L.va rfl (X.move (by conv => lhs; whnf)) ?_
          -- case t36
          by_cases hex : vs.getD i 0 = x
          · have hok : okC vs x true i = false := by rw [eok, ho, decide_eq_true hex]; rfl
            rw [if_neg (fun h => by rw [hok] at h; cases h.1)] at hf
            refine L.caseBF (k := 36) rfl (by rw [hex]; simp) ?_
            refine L.no rfl ?_
            refine L.no rfl ?_
            refine L.no rfl ?_
            refine L.no rfl ?_
            refine L.no rfl ?_
            refine L.no rfl ?_
            refine L.no rfl ?_
            refine L.no rfl ?_
            refine L.no rfl ?_
            refine L.no rfl ?_
            refine L.no rfl ?_
            refine L.va rfl (X.pickF rfl (by conv => lhs; whnf)) ?_
            refine L.nil ?_
            -- cond
            refine J.iteF rfl ?_
            refine J.skip ?_
            refine J.region ?_
            refine L.va rfl (X.move (by conv => lhs; whnf)) ?_
            refine L.va rfl (X.sub rfl rfl (by omega)) ?_
            refine L.va rfl (X.assign (by conv => lhs; whnf)) ?_
            refine L.nil ?_
            -- loopend
            refine ⟨(i, a), At2 (by first | rfl | exact at_int rfl (by omega) | exact at_slice rfl (by omega) | exact at_int rfl (by simp)) (by first | rfl | exact at_int rfl (by omega) | exact at_slice rfl (by omega) | exact at_int rfl (by simp)), (by (iterate 39 refine Agr.lk rfl ?_); exact Agr.lk rfl (Agr.hav rfl Agr.rfl')), ?_⟩
            exact ⟨⟨rfl, by omega, hf⟩, by show i < i + 1; omega⟩
          · have hok : okC vs x true i = true := by rw [eok, ho, decide_eq_false hex]; rfl
            refine L.caseBT (k := 36) rfl (by rw [decide_eq_false (show ¬ ((vs.getD i 0 : Nat) : Int) = (x : Int) by omega)]; rfl) ?_
            refine L.va rfl (X.move (by conv => lhs; whnf)) ?_
            refine L.va rfl (X.lss rfl rfl) ?_
            refine L.va rfl (X.move (by conv => lhs; whnf)) ?_
            -- case t39
            refine L.caseDec (k := 39) rfl (fun ha => ?_) (fun ha => ?_)
            · rw [if_pos ⟨hok, .inl ha⟩] at hf
              refine L.no rfl ?_
              refine L.no rfl ?_
              refine L.no rfl ?_
              refine L.no rfl ?_
              refine L.no rfl ?_
              refine L.no rfl ?_
              refine L.no rfl ?_
              refine L.va rfl (X.pickT rfl (by conv => lhs; whnf)) ?_
              refine L.va rfl (X.pickT rfl (by conv => lhs; whnf)) ?_
              refine L.nil ?_
              -- cond
              refine J.iteT rfl ?_
              refine J.region ?_
              refine L.va rfl (X.move (by conv => lhs; whnf)) ?_
              refine L.va rfl (X.assign (by conv => lhs; whnf)) ?_
              refine L.nil ?_
              refine J.region ?_
              refine L.va rfl (X.move (by conv => lhs; whnf)) ?_
              refine L.va rfl (X.sub rfl rfl (by omega)) ?_
              refine L.va rfl (X.assign (by conv => lhs; whnf)) ?_
              refine L.nil ?_
              -- loopend
              refine ⟨(i, (i : Int)), At2 (by first | rfl | exact at_int rfl (by omega) | exact at_slice rfl (by omega) | exact at_int rfl (by simp)) (by first | rfl | exact at_int rfl (by omega) | exact at_slice rfl (by omega) | exact at_int rfl (by simp)), (by (iterate 42 refine Agr.lk rfl ?_); exact Agr.lk rfl (Agr.hav rfl Agr.rfl')), ?_⟩
              exact ⟨⟨rfl, by omega, hf⟩, by show i < i + 1; omega⟩
            · obtain ⟨k, rfl⟩ := Int.eq_ofNat_of_zero_le (show 0 ≤ a by omega)
              rw [Int.toNat_natCast] at hf
              refine L.va rfl (X.move (by conv => lhs; whnf)) ?_
              refine L.va rfl (X.move (by conv => lhs; whnf)) ?_
              -- callfn bushel/bushelref17.size
              refine L.call rfl en_106 rfl (c4) ?_
              rintro e _ ⟨rfl, rfl⟩
              refine ⟨_, rfl, ?_⟩
              refine L.va rfl (X.move (by conv => lhs; whnf)) ?_
              refine L.va rfl (X.move (by conv => lhs; whnf)) ?_
              -- callfn bushel/bushelref17.size
              refine L.call rfl en_106 rfl (rsize A2 n2 c2 ss k w1 h2) ?_
              rintro e _ ⟨rfl, rfl⟩
              refine ⟨_, rfl, ?_⟩
              refine L.va rfl (X.leq rfl rfl) ?_
              refine L.va rfl (X.pickF rfl (by conv => lhs; whnf)) ?_
              refine L.va rfl (X.pickT rfl (by conv => lhs; whnf)) ?_
              refine L.nil ?_
              -- cond
              refine J.dec rfl (fun hs => ?_) (fun hs => ?_)
              · rw [if_pos ⟨hok, .inr hs⟩] at hf
                refine J.region ?_
                refine L.va rfl (X.move (by conv => lhs; whnf)) ?_
                refine L.va rfl (X.assign (by conv => lhs; whnf)) ?_
                refine L.nil ?_
                refine J.region ?_
                refine L.va rfl (X.move (by conv => lhs; whnf)) ?_
                refine L.va rfl (X.sub rfl rfl (by omega)) ?_
                refine L.va rfl (X.assign (by conv => lhs; whnf)) ?_
                refine L.nil ?_
                -- loopend
                refine ⟨(i, (i : Int)), At2 (by first | rfl | exact at_int rfl (by omega) | exact at_slice rfl (by omega) | exact at_int rfl (by simp)) (by first | rfl | exact at_int rfl (by omega) | exact at_slice rfl (by omega) | exact at_int rfl (by simp)), (by (iterate 42 refine Agr.lk rfl ?_); exact Agr.lk rfl (Agr.hav rfl Agr.rfl')), ?_⟩
                exact ⟨⟨rfl, by omega, hf⟩, by show i < i + 1; omega⟩
              · rw [if_neg (fun h => h.2.elim (by omega) hs)] at hf
                refine J.skip ?_
                refine J.region ?_
                refine L.va rfl (X.move (by conv => lhs; whnf)) ?_
                refine L.va rfl (X.sub rfl rfl (by omega)) ?_
                refine L.va rfl (X.assign (by conv => lhs; whnf)) ?_
                refine L.nil ?_
                -- loopend
                refine ⟨(i, (k : Int)), At2 (by first | rfl | exact at_int rfl (by omega) | exact at_slice rfl (by omega) | exact at_int rfl (by simp)) (by first | rfl | exact at_int rfl (by omega) | exact at_slice rfl (by omega) | exact at_int rfl (by simp)), (by (iterate 40 refine Agr.lk rfl ?_); exact Agr.lk rfl (Agr.hav rfl Agr.rfl')), ?_⟩
                exact ⟨⟨rfl, by omega, hf⟩, by show i < i + 1; omega⟩
    · obtain rfl : i = 0 := by omega
      refine J.exit ?_
      refine J.seq ?_
      refine J.region ?_
      refine L.va rfl (X.move (by conv => lhs; whnf)) ?_
      refine L.va rfl (X.assign (by conv => lhs; whnf)) ?_
      refine L.nil ?_
      -- ret
      refine J.ret ?_
      refine fin1 ?_
      exact ⟨a, rfl, hM, rfl⟩
/-- each view's best one -/
def okS (vs : List Nat) (i k : Nat) : Bool := decide (vs.getD i 0 ≠ vs.getD k 0) && sb (vs.getD i 0) (vs.getD k 0)
theorem okS_eq (vs : List Nat) (i : Nat) : okC vs (vs.getD i 0) true = okS vs i := by
  funext k
  unfold okC okS
  rw [Bool.true_and, Bool.and_comm]
  congr 1
  rw [Bool.eq_iff_iff]
  simp only [Bool.not_eq_true', decide_eq_false_iff_not, decide_eq_true_iff]
  exact ⟨fun h e => h e.symm, fun h e => h e.symm⟩
theorem lsteps (A1 : Option Addr) (n1 c1 : Nat) (vs : List Nat) (A2 : Option Addr) (n2 c2 : Nat) (ss : List Int) (w : World) (h1 : Reads w w.heap.size 1 A1 n1 (nums .u32 (zl vs))) (h2 : Reads w w.heap.size 1 A2 n2 (nums .i64 ss)) (hv : ∀ y ∈ vs, y < 4294967296) (hn : n1 ≤ 100) :
    Calls Try.prog 47 #[.slice A1 n1 c1, .slice A2 n2 c2] w fun e w' => ∃ (A : Option Addr) (c : Nat) (o : List Int), e = .returned (.slice A n1 c) ∧ w'.ownsRow w.heap.size 3 1 (.slice A n1 c) n1 (nums .i64 o) ∧ (∀ i, i < n1 → MinAt (okS vs i) (fun i => ss.getD i 0) 0 n1 (o.getD i 0)) ∧ Ext w w' := by
  refine enter Try.func47 rfl (by kernel_rfl) ?_
  refine J.seq ?_
  refine J.region ?_
  refine L.va rfl (X.assign (by conv => lhs; whnf)) ?_
  refine L.nil ?_
  refine J.seq ?_
  refine J.region ?_
  refine L.va rfl (X.move (by conv => lhs; whnf)) ?_
  refine L.va rfl (X.len rfl Try.underlying54) ?_
  -- makeSlice
  refine L.make (q := n1) (c := n1) rfl rfl rfl Try.underlying29 el_3 (by omega) ?_
  intro b w1 hb hs1 hk1 he1
  rw [made_nums] at hk1
  have hwb : w.heap.size ≤ b := by omega
  have ho1 : w1.ownsRow w.heap.size 3 1 (.slice (some ⟨b, 0, none⟩) n1 n1) n1 (nums .i64 (List.replicate n1 0)) := blk_own1 (q := n1) hk1 hwb (by unfold maxLen; omega) (by simp [nums])
  refine L.va rfl (X.assign (by conv => lhs; whnf)) ?_
  refine L.nil ?_
  refine J.seq ?_
  refine J.seq ?_
  refine J.region ?_
  refine L.va rfl (X.move (by conv => lhs; whnf)) ?_
  refine L.va rfl (X.len rfl Try.underlying54) ?_
  refine L.va rfl (X.move (by conv => lhs; whnf)) ?_
  refine L.nil ?_
  refine J.block ?_
  -- loop
  refine J.loop (X := Nat × List Int) [6, 7, 8, 9, 15, 16, 17, 18, 19, 20, 21, 22, 23, 24, 25, 26, 27, 28, 29, 30, 31, 32, 33, 34, 35, 36, 37, 38, 39, 40, 41, 42, 43, 44, 45, 46, 47, 48, 49, 50, 51, 52, 53, 54, 55, 56, 57, 58, 59, 60, 61, 62] (fun (i, o) => [(15, .int .i64 (i : Int))]) (fun (i, o) w' => i ≤ n1 ∧ o.length = n1 ∧ w'.ownsRow w.heap.size 3 1 (.slice (some ⟨b, 0, none⟩) n1 n1) n1 (nums .i64 o) ∧ (∀ j, j < i → MinAt (okS vs j) (fun i => ss.getD i 0) 0 n1 (o.getD j 0)) ∧ Ext w w') (fun (i, _) => n1 - i) ((0, List.replicate n1 0)) (At1 (by first | rfl | exact at_int rfl (by omega) | exact at_slice rfl (by omega) | exact at_int rfl (by simp))) ?_ ?_
  · exact ⟨Nat.zero_le _, List.length_replicate .., ho1, fun j hj => absurd hj (by omega), he1⟩
  · rintro ⟨i, o⟩ g w2 ⟨hi, hol, ho2, hM, he2⟩
    refine J.seq ?_
    refine J.region ?_
    refine L.va rfl (X.lss rfl rfl) ?_
    refine L.nil ?_
    refine J.seq ?_
    -- cond
    refine J.dec rfl (fun hlt => ?_) (fun hlt => ?_)
    · have hin : i < n1 := by omega
      have k1 := h1.ext he2
      have hA := k1.some_ (by omega)
      have hi32 := getN_lt hv i
      refine J.skip ?_
      refine J.seq ?_
      refine J.block ?_
      refine J.seq ?_
      refine J.region ?_
      refine L.va rfl (X.move (by conv => lhs; whnf)) ?_
      refine L.va rfl ((by first | exact X.index1n rfl rfl Try.underlying54 sz_53 (by first | exact Option.some_ne_none _ | exact hA) (by omega) | exact X.index1 rfl rfl Try.underlying54 sz_53 (by first | exact Option.some_ne_none _ | exact hA) (by omega))) ?_
      refine L.va rfl (X.load rfl sc_53 (by first | exact hA | exact Ld.zl k1 (by omega))) ?_
      refine L.va rfl (X.assign (by conv => lhs; whnf)) ?_
      refine L.va rfl (X.assign (by conv => lhs; whnf)) ?_
      refine L.nil ?_
      refine J.seq ?_
      refine J.region ?_
      refine L.va rfl (X.move (by conv => lhs; whnf)) ?_
      refine L.va rfl (X.move (by conv => lhs; whnf)) ?_
      refine L.va rfl ((by first | exact X.index1n rfl rfl Try.underlying29 sz_3 (by first | exact Option.some_ne_none _ | exact hA) (by omega) | exact X.index1 rfl rfl Try.underlying29 sz_3 (by first | exact Option.some_ne_none _ | exact hA) (by omega))) ?_
      -- store
      refine L.storeON rfl rfl (by conv => lhs; whnf) sz_3 (ho2) (by omega) ?_
      intro w3 ho3 hg3 hb3 hs3
      have he3 : Ext w w3 := he2.grw hg3 (by intro g hg; injection hg with hg; subst hg; exact hwb)
      refine L.nil ?_
      refine J.seq ?_
      refine J.region ?_
      refine L.va rfl (X.move (by conv => lhs; whnf)) ?_
      refine L.va rfl (X.len rfl Try.underlying54) ?_
      refine L.va rfl (X.move (by conv => lhs; whnf)) ?_
      refine L.nil ?_
      refine J.block ?_
      -- loop
      refine J.loop (X := Nat × List Int) [8, 9, 25, 26, 27, 28, 29, 30, 31, 32, 33, 34, 35, 36, 37, 38, 39, 40, 41, 42, 43, 44, 45, 46, 47, 48, 49, 50, 51, 52, 53, 54, 55, 56, 57, 58, 59, 60, 61] (fun (k, o) => [(25, .int .i64 (k : Int))]) (fun (k, p) w' => k ≤ n1 ∧ p.length = n1 ∧ w'.ownsRow w.heap.size 3 1 (.slice (some ⟨b, 0, none⟩) n1 n1) n1 (nums .i64 p) ∧ (∀ j, j ≠ i → p.getD j 0 = o.getD j 0) ∧ MinAt (okS vs i) (fun i => ss.getD i 0) 0 k (p.getD i 0) ∧ Ext w w') (fun (k, _) => n1 - k) ((0, o.set i (-1))) (At1 (by first | rfl | exact at_int rfl (by omega) | exact at_slice rfl (by omega) | exact at_int rfl (by simp))) ?_ ?_
      · refine ⟨Nat.zero_le _, by rw [List.length_set]; exact hol, ho3, fun j hj => ?_, ?_, he3⟩
        · rw [getD_set _ _ _ _ (by omega), if_neg (fun e => hj e.symm)]
        · rw [getD_set _ _ _ _ (by omega), if_pos rfl]
          exact MinAt.none _ _ _
      · rintro ⟨k, p⟩ g w4 ⟨hk, hpl, ho4, hpo, hP, he4⟩
        have k1 := h1.ext he4
        have k2 := (h2.ext he4).more he4.le
        have hge := hP.ge
        have hf := hP.fwd (Nat.zero_le _)
        refine J.seq ?_
        refine J.region ?_
        refine L.va rfl (X.lss rfl rfl) ?_
        refine L.nil ?_
        refine J.seq ?_
        -- cond
        refine J.dec rfl (fun hlt2 => ?_) (fun hlt2 => ?_)
        · have hkn : k < n1 := by omega
          have hk32 := getN_lt hv k
          have hrp := Reads.of_own ho4
          have eok : okS vs i k = (decide (vs.getD i 0 ≠ vs.getD k 0) && sb (vs.getD i 0) (vs.getD k 0)) := rfl
          have c3 := fun (w' : World) => lsub_any (vs.getD i 0) (vs.getD k 0) w' hi32 hk32
          refine J.skip ?_
          refine J.seq ?_
          refine J.block ?_
          refine J.seq ?_
          refine J.region ?_
          refine L.va rfl (X.move (by conv => lhs; whnf)) ?_
          refine L.va rfl ((by first | exact X.index1n rfl rfl Try.underlying54 sz_53 (by first | exact Option.some_ne_none _ | exact hA) (by omega) | exact X.index1 rfl rfl Try.underlying54 sz_53 (by first | exact Option.some_ne_none _ | exact hA) (by omega))) ?_
          refine L.va rfl (X.load rfl sc_53 (by first | exact hA | exact Ld.zl k1 (by omega))) ?_
          refine L.va rfl (X.assign (by conv => lhs; whnf)) ?_
          refine L.va rfl (X.assign (by conv => lhs; whnf)) ?_
          refine L.nil ?_
          refine J.seq ?_
          -- draw
          refine J.quiet mixed (by kernel_rfl) ?_
          refine Qt.va rfl (fun w' hw => X.move (by conv => lhs; whnf)) ?_
          refine Qt.va rfl (fun w' hw => X.move (by conv => lhs; whnf)) ?_
          refine Qt.va rfl (fun w' hw => X.neq rfl rfl) ?_
          refine Qt.va rfl (fun w' hw => X.move (by conv => lhs; whnf)) ?_
          -- case t33
          refine Qt.caseNdec (k := 33) rfl (fun hne => ?_) (fun hne => ?_)
          · have hne' : vs.getD i 0 ≠ vs.getD k 0 := by omega
            refine Qt.va rfl (fun w' hw => X.move (by conv => lhs; whnf)) ?_
            refine Qt.va rfl (fun w' hw => X.move (by conv => lhs; whnf)) ?_
            -- callfn bushel/lattice.Sub
            refine Qt.call rfl en_39 rfl (fun w' hw => calls_same hw (c3 w')) ?_
            refine Qt.va rfl (fun w' hw => X.pickT rfl (by conv => lhs; whnf)) ?_
            refine Qt.va rfl (fun w' hw => X.move (by conv => lhs; whnf)) ?_
            -- case t38
            cases ho : sb (vs.getD i 0) (vs.getD k 0)
            · have hok : okS vs i k = false := by rw [eok, ho, Bool.and_false]
              rw [if_neg (fun h => by rw [hok] at h; cases h.1)] at hf
              refine Qt.caseBF (k := 38) rfl (by rfl) ?_
              refine Qt.no rfl ?_
              refine Qt.no rfl ?_
              refine Qt.no rfl ?_
              refine Qt.no rfl ?_
              refine Qt.no rfl ?_
              refine Qt.no rfl ?_
              refine Qt.no rfl ?_
              refine Qt.no rfl ?_
              refine Qt.no rfl ?_
              refine Qt.no rfl ?_
              refine Qt.no rfl ?_
              refine Qt.no rfl ?_
              refine Qt.no rfl ?_
              refine Qt.no rfl ?_
              refine Qt.no rfl ?_
              refine Qt.no rfl ?_
              refine Qt.no rfl ?_
              refine Qt.va rfl (fun w' hw => X.pickF rfl (by conv => lhs; whnf)) ?_
              refine Qt.nil (fun w5 hq => ?_)
              replace hrp := hrp.ext hq
              -- cond
              refine J.iteF rfl ?_
              refine J.skip ?_
              refine J.region ?_
              refine L.va rfl (X.add rfl rfl (by omega)) ?_
              refine L.va rfl (X.move (by conv => lhs; whnf)) ?_
              refine L.nil ?_
              -- loopend
              refine ⟨(k + 1, p), At1 (by first | rfl | exact at_int rfl (by omega) | exact at_slice rfl (by omega) | exact at_int rfl (by simp)), (by (iterate 37 refine Agr.lk rfl ?_); exact Agr.lk rfl (Agr.hav rfl Agr.rfl')), ?_⟩
              exact ⟨⟨by omega, hpl, ho4.ext hq, hpo, hf, he4.trans hq⟩, by show n1 - (k + 1) < n1 - k; omega⟩
            · have hok : okS vs i k = true := by rw [eok, ho, decide_eq_true hne']; rfl
              refine Qt.caseBT (k := 38) rfl (by rfl) ?_
              refine Qt.va rfl (fun w' hw => X.move (by conv => lhs; whnf)) ?_
              refine Qt.va rfl (fun w' hw => X.move (by conv => lhs; whnf)) ?_
              refine Qt.va rfl (fun w' hw => (by first | exact X.index1n rfl rfl Try.underlying29 sz_3 (by first | exact Option.some_ne_none _ | exact hrp.some_ (by omega) | exact hA) (by omega) | exact X.index1 rfl rfl Try.underlying29 sz_3 (by first | exact Option.some_ne_none _ | exact hrp.some_ (by omega) | exact hA) (by omega))) ?_
              refine Qt.va rfl (fun w' hw => X.load rfl sc_3 (by first | exact Ld.num (hrp.ext hw) (by omega) | exact hA | exact Ld.zl k1 (by omega))) ?_
              refine Qt.va rfl (fun w' hw => X.lss rfl rfl) ?_
              refine Qt.va rfl (fun w' hw => X.move (by conv => lhs; whnf)) ?_
              -- case t44
              refine Qt.caseDec (k := 44) rfl (fun ha => ?_) (fun ha => ?_)
              · rw [if_pos ⟨hok, .inl ha⟩] at hf
                refine Qt.no rfl ?_
                refine Qt.no rfl ?_
                refine Qt.no rfl ?_
                refine Qt.no rfl ?_
                refine Qt.no rfl ?_
                refine Qt.no rfl ?_
                refine Qt.no rfl ?_
                refine Qt.no rfl ?_
                refine Qt.no rfl ?_
                refine Qt.no rfl ?_
                refine Qt.va rfl (fun w' hw => X.pickT rfl (by conv => lhs; whnf)) ?_
                refine Qt.va rfl (fun w' hw => X.pickT rfl (by conv => lhs; whnf)) ?_
                refine Qt.nil (fun w5 hq => ?_)
                replace hrp := hrp.ext hq
                -- cond
                refine J.iteT rfl ?_
                have ho5 := ho4.ext hq
                refine J.region ?_
                refine L.va rfl (X.move (by conv => lhs; whnf)) ?_
                refine L.va rfl (X.move (by conv => lhs; whnf)) ?_
                refine L.va rfl (X.move (by conv => lhs; whnf)) ?_
                refine L.va rfl ((by first | exact X.index1n rfl rfl Try.underlying29 sz_3 (by first | exact Option.some_ne_none _ | exact hA) (by omega) | exact X.index1 rfl rfl Try.underlying29 sz_3 (by first | exact Option.some_ne_none _ | exact hA) (by omega))) ?_
                -- store
                refine L.storeON rfl rfl (by conv => lhs; whnf) sz_3 (ho5) (by omega) ?_
                intro w6 ho6 hg6 hb6 hs6
                have he6 : Ext w w6 := (he4.trans hq).grw hg6 (by intro g hg; injection hg with hg; subst hg; exact hwb)
                refine L.nil ?_
                refine J.region ?_
                refine L.va rfl (X.add rfl rfl (by omega)) ?_
                refine L.va rfl (X.move (by conv => lhs; whnf)) ?_
                refine L.nil ?_
                -- loopend
                refine ⟨(k + 1, p.set i (k : Int)), At1 (by first | rfl | exact at_int rfl (by omega) | exact at_slice rfl (by omega) | exact at_int rfl (by simp)), (by (iterate 42 refine Agr.lk rfl ?_); exact Agr.lk rfl (Agr.hav rfl Agr.rfl')), ?_⟩
                refine ⟨⟨by omega, by rw [List.length_set]; exact hpl, ho6, fun j hj => ?_, ?_, he6⟩, by show n1 - (k + 1) < n1 - k; omega⟩
                · rw [getD_set _ _ _ _ (by omega), if_neg (fun e => hj e.symm)]
                  exact hpo j hj
                · rw [getD_set _ _ _ _ (by omega), if_pos rfl]
                  exact hf
              · have hge0 : 0 ≤ p.getD i 0 := by omega
                refine Qt.va rfl (fun w' hw => X.move (by conv => lhs; whnf)) ?_
                refine Qt.va rfl (fun w' hw => X.move (by conv => lhs; whnf)) ?_
                -- callfn bushel/lattice.size
                refine Qt.call rfl en_105 rfl (fun w' hw => calls_same hw (lsize A2 n2 c2 ss k w' ((k2.ext hw).more hw.le))) ?_
                refine Qt.va rfl (fun w' hw => X.move (by conv => lhs; whnf)) ?_
                refine Qt.va rfl (fun w' hw => X.move (by conv => lhs; whnf)) ?_
                refine Qt.va rfl (fun w' hw => X.move (by conv => lhs; whnf)) ?_
                refine Qt.va rfl (fun w' hw => (by first | exact X.index1n rfl rfl Try.underlying29 sz_3 (by first | exact Option.some_ne_none _ | exact hrp.some_ (by omega) | exact hA) (by omega) | exact X.index1 rfl rfl Try.underlying29 sz_3 (by first | exact Option.some_ne_none _ | exact hrp.some_ (by omega) | exact hA) (by omega))) ?_
                refine Qt.va rfl (fun w' hw => X.load rfl sc_3 (by first | exact Ld.num (hrp.ext hw) (by omega) | exact hA | exact Ld.zl k1 (by omega))) ?_
                -- callfn bushel/lattice.size
                refine Qt.call rfl en_105 rfl (fun w' hw => calls_same hw (lsizeI A2 n2 c2 ss (p.getD i 0) w' ((k2.ext hw).more hw.le) hge0)) ?_
                refine Qt.va rfl (fun w' hw => X.lss rfl rfl) ?_
                refine Qt.va rfl (fun w' hw => X.pickF rfl (by conv => lhs; whnf)) ?_
                refine Qt.va rfl (fun w' hw => X.pickT rfl (by conv => lhs; whnf)) ?_
                refine Qt.nil (fun w5 hq => ?_)
                replace hrp := hrp.ext hq
                -- cond
                refine J.dec rfl (fun hs => ?_) (fun hs => ?_)
                · rw [if_pos ⟨hok, .inr hs⟩] at hf
                  have ho5 := ho4.ext hq
                  refine J.region ?_
                  refine L.va rfl (X.move (by conv => lhs; whnf)) ?_
                  refine L.va rfl (X.move (by conv => lhs; whnf)) ?_
                  refine L.va rfl (X.move (by conv => lhs; whnf)) ?_
                  refine L.va rfl ((by first | exact X.index1n rfl rfl Try.underlying29 sz_3 (by first | exact Option.some_ne_none _ | exact hA) (by omega) | exact X.index1 rfl rfl Try.underlying29 sz_3 (by first | exact Option.some_ne_none _ | exact hA) (by omega))) ?_
                  -- store
                  refine L.storeON rfl rfl (by conv => lhs; whnf) sz_3 (ho5) (by omega) ?_
                  intro w6 ho6 hg6 hb6 hs6
                  have he6 : Ext w w6 := (he4.trans hq).grw hg6 (by intro g hg; injection hg with hg; subst hg; exact hwb)
                  refine L.nil ?_
                  refine J.region ?_
                  refine L.va rfl (X.add rfl rfl (by omega)) ?_
                  refine L.va rfl (X.move (by conv => lhs; whnf)) ?_
                  refine L.nil ?_
                  -- loopend
                  refine ⟨(k + 1, p.set i (k : Int)), At1 (by first | rfl | exact at_int rfl (by omega) | exact at_slice rfl (by omega) | exact at_int rfl (by simp)), (by (iterate 42 refine Agr.lk rfl ?_); exact Agr.lk rfl (Agr.hav rfl Agr.rfl')), ?_⟩
                  refine ⟨⟨by omega, by rw [List.length_set]; exact hpl, ho6, fun j hj => ?_, ?_, he6⟩, by show n1 - (k + 1) < n1 - k; omega⟩
                  · rw [getD_set _ _ _ _ (by omega), if_neg (fun e => hj e.symm)]
                    exact hpo j hj
                  · rw [getD_set _ _ _ _ (by omega), if_pos rfl]
                    exact hf
                · rw [if_neg (fun h => h.2.elim (by omega) hs)] at hf
                  refine J.skip ?_
                  refine J.region ?_
                  refine L.va rfl (X.add rfl rfl (by omega)) ?_
                  refine L.va rfl (X.move (by conv => lhs; whnf)) ?_
                  refine L.nil ?_
                  -- loopend
                  refine ⟨(k + 1, p), At1 (by first | rfl | exact at_int rfl (by omega) | exact at_slice rfl (by omega) | exact at_int rfl (by simp)), (by (iterate 38 refine Agr.lk rfl ?_); exact Agr.lk rfl (Agr.hav rfl Agr.rfl')), ?_⟩
                  exact ⟨⟨by omega, hpl, ho4.ext hq, hpo, hf, he4.trans hq⟩, by show n1 - (k + 1) < n1 - k; omega⟩
          · have hok : okS vs i k = false := by rw [eok, decide_eq_false (fun h => h (by omega))]; rfl
            rw [if_neg (fun h => by rw [hok] at h; cases h.1)] at hf
            refine Qt.no rfl ?_
            refine Qt.no rfl ?_
            refine Qt.no rfl ?_
            refine Qt.va rfl (fun w' hw => X.pickF rfl (by conv => lhs; whnf)) ?_
            refine Qt.va rfl (fun w' hw => X.move (by conv => lhs; whnf)) ?_
            refine Qt.no rfl ?_
            refine Qt.no rfl ?_
            refine Qt.no rfl ?_
            refine Qt.no rfl ?_
            refine Qt.no rfl ?_
            refine Qt.no rfl ?_
            refine Qt.no rfl ?_
            refine Qt.no rfl ?_
            refine Qt.no rfl ?_
            refine Qt.no rfl ?_
            refine Qt.no rfl ?_
            refine Qt.no rfl ?_
            refine Qt.no rfl ?_
            refine Qt.no rfl ?_
            refine Qt.no rfl ?_
            refine Qt.no rfl ?_
            refine Qt.no rfl ?_
            refine Qt.va rfl (fun w' hw => X.pickF rfl (by conv => lhs; whnf)) ?_
            refine Qt.nil (fun w5 hq => ?_)
            replace hrp := hrp.ext hq
            -- cond
            refine J.iteF rfl ?_
            refine J.skip ?_
            refine J.region ?_
            refine L.va rfl (X.add rfl rfl (by omega)) ?_
            refine L.va rfl (X.move (by conv => lhs; whnf)) ?_
            refine L.nil ?_
            -- loopend
            refine ⟨(k + 1, p), At1 (by first | rfl | exact at_int rfl (by omega) | exact at_slice rfl (by omega) | exact at_int rfl (by simp)), (by (iterate 36 refine Agr.lk rfl ?_); exact Agr.lk rfl (Agr.hav rfl Agr.rfl')), ?_⟩
            exact ⟨⟨by omega, hpl, ho4.ext hq, hpo, hf, he4.trans hq⟩, by show n1 - (k + 1) < n1 - k; omega⟩
        · obtain rfl : k = n1 := by omega
          refine J.exit ?_
          refine J.region ?_
          refine L.va rfl (X.add rfl rfl (by omega)) ?_
          refine L.va rfl (X.move (by conv => lhs; whnf)) ?_
          refine L.nil ?_
          -- loopend
          refine ⟨(i + 1, p), At1 (by first | rfl | exact at_int rfl (by omega) | exact at_slice rfl (by omega) | exact at_int rfl (by simp)), (by (iterate 3 refine Agr.lk rfl ?_); refine Agr.lk rfl ?_; refine Agr.hav rfl ?_; (iterate 12 refine Agr.lk rfl ?_); exact Agr.lk rfl (Agr.hav rfl Agr.rfl')), ?_⟩
          refine ⟨⟨by omega, hpl, ho4, fun j hj => ?_, he4⟩, by show k - (i + 1) < k - i; omega⟩
          by_cases e : j = i
          · subst e; exact hP
          · rw [hpo j e]
            exact hM j (by omega)
    · obtain rfl : i = n1 := by omega
      refine J.exit ?_
      refine J.seq ?_
      refine J.region ?_
      refine L.va rfl (X.move (by conv => lhs; whnf)) ?_
      refine L.va rfl (X.assign (by conv => lhs; whnf)) ?_
      refine L.nil ?_
      -- ret
      refine J.ret ?_
      refine fin1 ?_
      exact ⟨_, _, o, rfl, ho2, hM, he2⟩
end Go.Proofs.Ytmnlaekcojblkaa
