/-
  The reference of package advise, and what it takes of the reference of package lattice.
-/
import Derived.Test.YtkipdkkpifnboaaWAdvE
namespace Go.Proofs.Ytkipdkkpifnboaa
open Go.RowKit H
open Mk Ad
set_option linter.unusedVariables false
namespace H
/-- min of two numbers -/
theorem X.min2 {P : Program} {w : World} {f : Operand → Value} {x y : Operand} {k : IntKind} {m n : Int} {d : Option Tmp} {t ty : TypeId} {pos : String} {aft : Array Edge} {g : Option (Nat × Bool)} (hx : f x = .int k m) (hy : f y = .int k n) :
    (execOp f ⟨d, .call { callee := .builtin .min, args := #[x, y], argTypes := #[t, t] }, ty, pos, aft, g⟩).run P w = .ok (.value (.int k (min m n))) w := by
  have h : (min m n : Int) = if n < m then n else m := by rw [Int.min_def]; split <;> split <;> omega
  rw [h]
  simp [hx, hy, go_sem, Builtin.min_, Builtin.min2]
end H
theorem rtwo_any (n : Nat) (w : World) (hn : n < 32) :
    Calls Try.prog 67 #[.int .i64 (n : Int)] w fun e w' => e = .returned (.int .u32 ((2 ^ n : Nat) : Int)) ∧ w = w' := by
  refine enter Try.func67 rfl (by kernel_rfl) ?_
  refine J.seq ?_
  refine J.region ?_
  refine L.va rfl (X.assign (by conv => lhs; whnf)) ?_
  refine L.nil ?_
  refine J.seq ?_
  refine J.region ?_
  refine L.va rfl (X.assign (by conv => lhs; whnf)) ?_
  refine L.nil ?_
  refine J.seq ?_
  refine J.seq ?_
  refine J.region ?_
  refine L.va rfl (X.assign (by conv => lhs; whnf)) ?_
  refine L.nil ?_
  refine J.block ?_
  -- loop
  refine J.loop (X := Nat × Nat) [3, 4, 5, 6, 7, 8, 9, 10, 11] (fun x => [(4, .int .i64 (x.1 : Int)), (3, .int .u32 (x.2 : Int))]) (fun x w' => w' = w ∧ x.1 ≤ n ∧ x.2 = 2 ^ x.1) (fun x => n - x.1) ((0, 1)) (At2 (by first | rfl | exact at_int rfl (by omega) | exact at_slice rfl (by omega) | exact at_int rfl (by simp)) (by first | rfl | exact at_int rfl (by omega) | exact at_slice rfl (by omega) | exact at_int rfl (by simp))) ?_ ?_
  · exact ⟨rfl, by dsimp only; omega, rfl⟩
  · rintro ⟨i, p⟩ g w1 ⟨rfl, hi, hp⟩
    dsimp only at hi hp
    refine J.seq ?_
    refine J.seq ?_
    refine J.region ?_
    refine L.va rfl (X.move (by conv => lhs; whnf)) ?_
    refine L.va rfl (X.move (by conv => lhs; whnf)) ?_
    refine L.va rfl (X.lss rfl rfl) ?_
    refine L.nil ?_
    -- cond
    refine J.dec rfl (fun hlt => ?_) (fun hlt => ?_)
    · have hb : 2 ^ (i + 1) ≤ 2 ^ 31 := Nat.pow_le_pow_right (by decide) (by omega)
      have e : IntKind.u32.wrap (2 * (p : Int)) = ((2 ^ (i + 1) : Nat) : Int) := by
        rw [Nat.pow_succ, ← hp] at hb ⊢
        rw [w32 (by omega)]
        omega
      refine J.skip ?_
      refine J.seq ?_
      refine J.block ?_
      refine J.region ?_
      refine L.va rfl (X.move (by conv => lhs; whnf)) ?_
      refine L.va rfl (X.mulw rfl rfl) ?_
      refine L.va rfl (X.assign (by conv => lhs; whnf)) ?_
      refine L.nil ?_
      refine J.region ?_
      refine L.va rfl (X.move (by conv => lhs; whnf)) ?_
      refine L.va rfl (X.add rfl rfl (by omega)) ?_
      refine L.va rfl (X.assign (by conv => lhs; whnf)) ?_
      refine L.nil ?_
      -- loopend
      refine ⟨(i + 1, 2 ^ (i + 1)), At2 (rfl) (at_int rfl e), (by (iterate 9 refine Agr.lk rfl ?_); exact Agr.lk rfl (Agr.hav rfl Agr.rfl')), ?_⟩
      exact ⟨⟨rfl, by dsimp only; omega, rfl⟩, by dsimp only; omega⟩
    · obtain rfl : i = n := by omega
      subst hp
      refine J.exit ?_
      refine J.seq ?_
      refine J.region ?_
      refine L.va rfl (X.move (by conv => lhs; whnf)) ?_
      refine L.va rfl (X.assign (by conv => lhs; whnf)) ?_
      refine L.nil ?_
      -- ret
      refine J.ret ?_
      refine fin1 ?_
      exact ⟨rfl, rfl⟩
theorem rin_any (a n : Nat) (w : World) (ha : a < 4294967296) (hn : n < 32) :
    Calls Try.prog 75 #[.int .u32 (a : Int), .int .i64 (n : Int)] w fun e w' => e = .returned (.bool (a.testBit n)) ∧ w = w' := by
  have hpos : 0 < ((2 ^ n : Nat) : Int) := by have := Nat.pow_pos (n := n) (by decide : 0 < 2); omega
  have hd : (a : Int) / ((2 ^ n : Nat) : Int) = ((a / 2 ^ n : Nat) : Int) := rfl
  have e : decide ((a : Int) / ((2 ^ n : Nat) : Int) % 2 = 1) = a.testBit n := by
    rw [Nat.testBit_eq_decide_div_mod_eq, hd, decide_eq_decide]
    omega
  have h0 : 0 ≤ (a : Int) / ((2 ^ n : Nat) : Int) := by rw [hd]; exact Int.natCast_nonneg _
  have hp := rtwo_any n
  generalize ((2 ^ n : Nat) : Int) = p at *
  refine enter Try.func75 rfl (by kernel_rfl) ?_
  refine J.seq ?_
  refine J.region ?_
  refine L.va rfl (X.assign (by conv => lhs; whnf)) ?_
  refine L.nil ?_
  refine J.seq ?_
  refine J.region ?_
  refine L.va rfl (X.move (by conv => lhs; whnf)) ?_
  refine L.va rfl (X.move (by conv => lhs; whnf)) ?_
  -- callfn bushel/bushelref11.Two
  refine L.call rfl en_67 rfl (hp _ hn) ?_
  rintro e _ ⟨rfl, rfl⟩
  refine ⟨_, rfl, ?_⟩
  refine L.va rfl (X.quo32 rfl rfl (by omega)) ?_
  refine L.va rfl (X.rem rfl rfl (by omega)) ?_
  refine L.va rfl (X.eql rfl rfl) ?_
  refine L.va rfl (X.assign (by conv => lhs; whnf)) ?_
  refine L.nil ?_
  -- ret
  refine J.ret ?_
  refine fin1 ?_
  rw [e]
  exact ⟨rfl, rfl⟩
theorem rsub_any (a b : Nat) (w : World) (ha : a < 4294967296) (hb : b < 4294967296) :
    Calls Try.prog 32 #[.int .u32 (a : Int), .int .u32 (b : Int)] w fun e w' => e = .returned (.bool (sb a b)) ∧ w = w' := by
  refine enter Try.func32 rfl (by kernel_rfl) ?_
  refine J.seq ?_
  refine J.region ?_
  refine L.va rfl (X.assign (by conv => lhs; whnf)) ?_
  refine L.nil ?_
  refine J.seq ?_
  refine J.seq ?_
  refine J.region ?_
  refine L.va rfl (X.assign (by conv => lhs; whnf)) ?_
  refine L.nil ?_
  refine J.block ?_
  -- loop
  refine J.loop (X := Nat) [4, 5, 6, 7, 8, 9, 10, 11, 12, 13, 14, 15, 16, 17, 18] (fun i => [(5, .int .i64 (i : Int))]) (fun i w' => w' = w ∧ i ≤ 32 ∧ ∀ j, j < i → a.testBit j = true → b.testBit j = true) (fun i => 32 - i) (0) (At1 (by first | rfl | exact at_int rfl (by omega) | exact at_slice rfl (by omega) | exact at_int rfl (by simp))) ?_ ?_
  · exact ⟨rfl, by omega, fun j hj => absurd hj (by omega)⟩
  · rintro i g w1 ⟨rfl, hi, hP⟩
    refine J.seq ?_
    refine J.seq ?_
    refine J.region ?_
    refine L.va rfl (X.move (by conv => lhs; whnf)) ?_
    refine L.va rfl (X.lss rfl rfl) ?_
    refine L.nil ?_
    -- cond
    refine J.dec rfl (fun hlt => ?_) (fun hlt => ?_)
    · refine J.skip ?_
      refine J.seq ?_
      refine J.block ?_
      refine J.seq ?_
      refine J.region ?_
      refine L.va rfl (X.move (by conv => lhs; whnf)) ?_
      refine L.va rfl (X.move (by conv => lhs; whnf)) ?_
      -- callfn bushel/bushelref11.In
      refine L.call rfl en_75 rfl (rin_any a i _ ha (by omega)) ?_
      rintro e _ ⟨rfl, rfl⟩
      refine ⟨_, rfl, ?_⟩
      refine L.va rfl (X.move (by conv => lhs; whnf)) ?_
      -- case t13
      refine L.caseB (k := 13) rfl (fun h1 => ?_) (fun h1 => ?_)
      · refine L.va rfl (X.move (by conv => lhs; whnf)) ?_
        refine L.va rfl (X.move (by conv => lhs; whnf)) ?_
        -- callfn bushel/bushelref11.In
        refine L.call rfl en_75 rfl (rin_any b i _ hb (by omega)) ?_
        rintro e _ ⟨rfl, rfl⟩
        refine ⟨_, rfl, ?_⟩
        cases h2 : b.testBit i
        · have e : sb a b = false := by
            cases hs : sb a b with
            | false => rfl
            | true => have := sb_iff.1 hs i h1; rw [h2] at this; cases this
          rw [e]
          refine L.va rfl (X.not rfl) ?_
          refine L.va rfl (X.pickT rfl (by conv => lhs; whnf)) ?_
          refine L.nil ?_
          -- cond
          refine J.iteT rfl ?_
          refine J.seq ?_
          refine J.region ?_
          refine L.va rfl (X.assign (by conv => lhs; whnf)) ?_
          refine L.nil ?_
          -- ret
          refine J.ret ?_
          refine inB_ret <|  thn_ret <|  thn_ret <|  inB_ret <|  thn_ret <| ?_
          refine fin1 ?_
          exact ⟨rfl, rfl⟩
        · refine L.va rfl (X.not rfl) ?_
          refine L.va rfl (X.pickT rfl (by conv => lhs; whnf)) ?_
          refine L.nil ?_
          -- cond
          refine J.iteF rfl ?_
          refine J.skip ?_
          refine J.region ?_
          refine L.va rfl (X.move (by conv => lhs; whnf)) ?_
          refine L.va rfl (X.add rfl rfl (by omega)) ?_
          refine L.va rfl (X.assign (by conv => lhs; whnf)) ?_
          refine L.nil ?_
          -- loopend
          refine ⟨i + 1, At1 (by first | rfl | exact at_int rfl (by omega) | exact at_slice rfl (by omega) | exact at_int rfl (by simp)), (by (iterate 15 refine Agr.lk rfl ?_); exact Agr.lk rfl (Agr.hav rfl Agr.rfl')), ?_⟩
          refine ⟨⟨rfl, by omega, fun j hj => ?_⟩, by omega⟩
          rcases Nat.lt_or_ge j i with h | h
          · exact hP j h
          · obtain rfl : j = i := by omega
            exact fun _ => h2
      · refine L.no rfl ?_
        refine L.no rfl ?_
        refine L.no rfl ?_
        refine L.no rfl ?_
        refine L.va rfl (X.pickF rfl (by conv => lhs; whnf)) ?_
        refine L.nil ?_
        -- cond
        refine J.iteF rfl ?_
        refine J.skip ?_
        refine J.region ?_
        refine L.va rfl (X.move (by conv => lhs; whnf)) ?_
        refine L.va rfl (X.add rfl rfl (by omega)) ?_
        refine L.va rfl (X.assign (by conv => lhs; whnf)) ?_
        refine L.nil ?_
        -- loopend
        refine ⟨i + 1, At1 (by first | rfl | exact at_int rfl (by omega) | exact at_slice rfl (by omega) | exact at_int rfl (by simp)), (by (iterate 15 refine Agr.lk rfl ?_); exact Agr.lk rfl (Agr.hav rfl Agr.rfl')), ?_⟩
        refine ⟨⟨rfl, by omega, fun j hj => ?_⟩, by omega⟩
        rcases Nat.lt_or_ge j i with h | h
        · exact hP j h
        · obtain rfl : j = i := by omega
          intro h2
          rw [h1] at h2
          cases h2
    · obtain rfl : i = 32 := by omega
      have e : sb a b = true := by
        rw [sb_iff]
        intro j hj
        rcases Nat.lt_or_ge j 32 with h | h
        · exact hP j h hj
        · have : a < 2 ^ j := Nat.lt_of_lt_of_le ha (by rw [show 4294967296 = 2 ^ 32 by decide]; exact Nat.pow_le_pow_right (by decide) h)
          rw [Nat.testBit_lt_two_pow this] at hj
          cases hj
      rw [e]
      refine J.exit ?_
      refine J.seq ?_
      refine J.region ?_
      refine L.va rfl (X.assign (by conv => lhs; whnf)) ?_
      refine L.nil ?_
      -- ret
      refine J.ret ?_
      refine fin1 ?_
      exact ⟨rfl, rfl⟩
theorem rwrong_any (n : Int) (A : Option Addr) (q c : Nat) (ss : List Int) (w : World) (hr : Reads w w.heap.size 1 A q (nums .i64 ss)) (hq : q ≤ 9223372036854775807) :
    Calls Try.prog 18 #[.int .i64 n, .slice A q c] w fun e w' => e = .returned (.int .i64 (askE n ss)) ∧ w = w' := by
  have hl : ss.length = q := by have := hr.1; simpa [nums] using this
  refine enter Try.func18 rfl (by kernel_rfl) ?_
  refine J.seq ?_
  refine J.region ?_
  refine L.va rfl (X.assign (by conv => lhs; whnf)) ?_
  refine L.nil ?_
  refine J.seq ?_
  refine J.seq ?_
  refine J.region ?_
  refine L.va rfl (X.move (by conv => lhs; whnf)) ?_
  refine L.va rfl (X.lss rfl rfl) ?_
  refine L.va rfl (X.move (by conv => lhs; whnf)) ?_
  -- case t8
  refine L.caseDec (k := 8) rfl (fun h1 => ?_) (fun h1 => ?_)
  · refine L.no rfl ?_
    refine L.no rfl ?_
    refine L.va rfl (X.pickT rfl (by conv => lhs; whnf)) ?_
    refine L.nil ?_
    -- cond
    refine J.iteT rfl ?_
    refine J.seq ?_
    refine J.region ?_
    refine L.va rfl (X.assign (by conv => lhs; whnf)) ?_
    refine L.nil ?_
    -- ret
    refine J.ret ?_
    refine thn_ret <| ?_
    refine fin1 ?_
    have hE : askE n ss = 2 := by rw [askE, if_pos (.inl h1)]
    rw [hE]
    exact ⟨rfl, rfl⟩
  · refine L.va rfl (X.move (by conv => lhs; whnf)) ?_
    refine L.va rfl (X.gtr rfl rfl) ?_
    refine L.va rfl (X.pickF rfl (by conv => lhs; whnf)) ?_
    refine L.nil ?_
    -- cond
    refine J.dec rfl (fun h2 => ?_) (fun h2 => ?_)
    · refine J.seq ?_
      refine J.region ?_
      refine L.va rfl (X.assign (by conv => lhs; whnf)) ?_
      refine L.nil ?_
      -- ret
      refine J.ret ?_
      refine thn_ret <| ?_
      refine fin1 ?_
      have hE : askE n ss = 2 := by rw [askE, if_pos (.inr h2)]
      rw [hE]
      exact ⟨rfl, rfl⟩
    · obtain ⟨k, rfl⟩ := Int.eq_ofNat_of_zero_le (by omega : 0 ≤ n)
      have hp : 2 ^ k ≤ 2 ^ 6 := Nat.pow_le_pow_right (by decide) (by omega)
      have c1 := rtwo_any k
      have hk0 : ((k : Int)).toNat = k := by omega
      have e0 : ∀ h : ¬ ((k : Int) < 1 ∨ 6 < (k : Int)), askE k ss = if (ss.length : Int) ≠ ((2 ^ k : Nat) : Int) then 3 else if ∃ z ∈ ss, z < 1 ∨ 1099511627776 < z then 2 else 0 := fun h => by rw [askE, if_neg h, hk0]
      replace e0 := e0 (by omega)
      generalize 2 ^ k = p at *
      refine J.skip ?_
      refine J.seq ?_
      refine J.seq ?_
      refine J.region ?_
      refine L.va rfl (X.move (by conv => lhs; whnf)) ?_
      refine L.va rfl (X.len rfl Try.underlying22) ?_
      refine L.va rfl (X.move (by conv => lhs; whnf)) ?_
      -- callfn bushel/bushelref11.Two
      refine L.call rfl en_67 rfl (c1 _ (by omega)) ?_
      rintro e _ ⟨rfl, rfl⟩
      refine ⟨_, rfl, ?_⟩
      refine L.va rfl ((by first | exact X.convI rfl is_29 Try.underlying3 (by omega) | exact X.convw rfl is_29 Try.underlying3)) ?_
      refine L.va rfl (X.neq rfl rfl) ?_
      refine L.nil ?_
      -- cond
      refine J.ndec rfl (fun h3 => ?_) (fun h3 => ?_)
      · refine J.seq ?_
        refine J.region ?_
        refine L.va rfl (X.assign (by conv => lhs; whnf)) ?_
        refine L.nil ?_
        -- ret
        refine J.ret ?_
        refine thn_ret <| ?_
        refine fin1 ?_
        have hE : askE k ss = 3 := by rw [e0, if_pos (by rw [hl]; exact h3)]
        rw [hE]
        exact ⟨rfl, rfl⟩
      · refine J.skip ?_
        refine J.seq ?_
        refine J.seq ?_
        refine J.region ?_
        refine L.va rfl (X.assign (by conv => lhs; whnf)) ?_
        refine L.nil ?_
        refine J.block ?_
        -- loop
        refine J.loop (X := Nat) [4, 5, 18, 19, 20, 21, 22, 23, 24, 25, 26, 27, 28, 29, 30, 31, 32, 33, 34, 35] (fun i => [(5, .int .i64 (i : Int))]) (fun i w' => w' = w ∧ i ≤ q ∧ ∀ j, j < i → 1 ≤ ss.getD j 0 ∧ ss.getD j 0 ≤ 1099511627776) (fun i => q - i) (0) (At1 (by first | rfl | exact at_int rfl (by omega) | exact at_slice rfl (by omega) | exact at_int rfl (by simp))) ?_ ?_
        · exact ⟨rfl, by omega, fun j hj => absurd hj (by omega)⟩
        · rintro i g w1 ⟨rfl, hi, hP⟩
          refine J.seq ?_
          refine J.seq ?_
          refine J.region ?_
          refine L.va rfl (X.move (by conv => lhs; whnf)) ?_
          refine L.va rfl (X.move (by conv => lhs; whnf)) ?_
          refine L.va rfl (X.len rfl Try.underlying22) ?_
          refine L.va rfl (X.lss rfl rfl) ?_
          refine L.nil ?_
          -- cond
          refine J.dec rfl (fun hlt => ?_) (fun hlt => ?_)
          · refine J.skip ?_
            refine J.seq ?_
            refine J.block ?_
            refine J.seq ?_
            refine J.region ?_
            refine L.va rfl (X.move (by conv => lhs; whnf)) ?_
            refine L.va rfl (X.move (by conv => lhs; whnf)) ?_
            refine L.va rfl ((by first | exact X.index1n rfl rfl Try.underlying22 sz_2 (by first | exact Option.some_ne_none _ | exact hr.some_ (by omega)) (by omega) | exact X.index1 rfl rfl Try.underlying22 sz_2 (by first | exact Option.some_ne_none _ | exact hr.some_ (by omega)) (by omega))) ?_
            refine L.va rfl (X.load rfl sc_2 (by first | exact Ld.num hr (by omega))) ?_
            refine L.va rfl (X.lss rfl rfl) ?_
            refine L.va rfl (X.move (by conv => lhs; whnf)) ?_
            -- case t29
            refine L.caseDec (k := 29) rfl (fun h4 => ?_) (fun h4 => ?_)
            · refine L.no rfl ?_
              refine L.no rfl ?_
              refine L.no rfl ?_
              refine L.no rfl ?_
              refine L.no rfl ?_
              refine L.va rfl (X.pickT rfl (by conv => lhs; whnf)) ?_
              refine L.nil ?_
              -- cond
              refine J.iteT rfl ?_
              refine J.seq ?_
              refine J.region ?_
              refine L.va rfl (X.assign (by conv => lhs; whnf)) ?_
              refine L.nil ?_
              -- ret
              refine J.ret ?_
              refine inB_ret <|  thn_ret <|  thn_ret <|  inB_ret <|  thn_ret <| ?_
              refine fin1 ?_
              have hE : askE k ss = 2 := by rw [e0, if_neg (by omega), if_pos (bad_of (by omega) (.inl h4))]
              rw [hE]
              exact ⟨rfl, rfl⟩
            · refine L.va rfl (X.move (by conv => lhs; whnf)) ?_
              refine L.va rfl (X.move (by conv => lhs; whnf)) ?_
              refine L.va rfl ((by first | exact X.index1n rfl rfl Try.underlying22 sz_2 (by first | exact Option.some_ne_none _ | exact hr.some_ (by omega)) (by omega) | exact X.index1 rfl rfl Try.underlying22 sz_2 (by first | exact Option.some_ne_none _ | exact hr.some_ (by omega)) (by omega))) ?_
              refine L.va rfl (X.load rfl sc_2 (by first | exact Ld.num hr (by omega))) ?_
              refine L.va rfl (X.gtr rfl rfl) ?_
              refine L.va rfl (X.pickF rfl (by conv => lhs; whnf)) ?_
              refine L.nil ?_
              -- cond
              refine J.dec rfl (fun h5 => ?_) (fun h5 => ?_)
              · refine J.seq ?_
                refine J.region ?_
                refine L.va rfl (X.assign (by conv => lhs; whnf)) ?_
                refine L.nil ?_
                -- ret
                refine J.ret ?_
                refine inB_ret <|  thn_ret <|  thn_ret <|  inB_ret <|  thn_ret <| ?_
                refine fin1 ?_
                have hE : askE k ss = 2 := by rw [e0, if_neg (by omega), if_pos (bad_of (by omega) (.inr h5))]
                rw [hE]
                exact ⟨rfl, rfl⟩
              · refine J.skip ?_
                refine J.region ?_
                refine L.va rfl (X.move (by conv => lhs; whnf)) ?_
                refine L.va rfl (X.add rfl rfl (by omega)) ?_
                refine L.va rfl (X.assign (by conv => lhs; whnf)) ?_
                refine L.nil ?_
                -- loopend
                refine ⟨i + 1, At1 (by first | rfl | exact at_int rfl (by omega) | exact at_slice rfl (by omega) | exact at_int rfl (by simp)), (by (iterate 20 refine Agr.lk rfl ?_); exact Agr.lk rfl (Agr.hav rfl Agr.rfl')), ?_⟩
                refine ⟨⟨rfl, by omega, fun j hj => ?_⟩, by omega⟩
                rcases Nat.lt_or_ge j i with h | h
                · exact hP j h
                · obtain rfl : j = i := by omega
                  omega
          · obtain rfl : i = q := by omega
            refine J.exit ?_
            refine J.seq ?_
            refine J.region ?_
            refine L.va rfl (X.assign (by conv => lhs; whnf)) ?_
            refine L.nil ?_
            -- ret
            refine J.ret ?_
            refine fin1 ?_
            have hE : askE k ss = 0 := by rw [e0, if_neg (by omega), if_neg (ok_of hl hP)]
            rw [hE]
            exact ⟨rfl, rfl⟩
theorem mn_take (ss : List Int) (vs : List Nat) (i w : Nat) (h : i < vs.length) : mn ss (vs.take (i + 1)) w = if sb w (vs.getD i 0) then min (mn ss (vs.take i) w) (ss.getD (vs.getD i 0) 0) else mn ss (vs.take i) w := by
  rw [take_next h, mn_snoc]
theorem rcost_any (A : Option Addr) (q c : Nat) (B : Option Addr) (m cB : Nat) (ss : List Int) (vs : List Nat) (w : World) (hr : Reads w w.heap.size 1 A q (nums .i64 ss)) (hq : q ≤ 64) (hq0 : 0 < q) (hS : Ok ss)
    (hV : Reads w w.heap.size 1 B m (nums .u32 (zl vs))) (hm : m ≤ 9223372036854775807) (hvs : ∀ v ∈ vs, v < q) :
    Calls Try.prog 19 #[.slice A q c, .slice B m cB] w fun e w' => e = .returned (.int .i64 (costL ss vs)) ∧ w = w' := by
  have hl : ss.length = q := by have := hr.1; simpa [nums] using this
  have hml : vs.length = m := by have := hV.1; simpa [nums, zl] using this
  have hn : 0 < ss.length := by omega
  have hO := outs_ok hS hn vs (by rw [hl]; exact hvs)
  have hlast : ss.getD (q - 1) 0 = lastS ss := by unfold lastS; rw [hl]
  have hsum : ∀ i, i ≤ q → 0 ≤ (((List.range i).map (mn ss vs)).sum) ∧ ((List.range i).map (mn ss vs)).sum ≤ i * 1099511627776 := by
    intro i hi
    have : Ok ((List.range i).map (mn ss vs)) := by
      intro z hz
      simp only [List.mem_map] at hz
      obtain ⟨u, _, rfl⟩ := hz
      exact mn_ok hS hn vs (by rw [hl]; exact hvs) u
    have := this.sum
    simpa using this
  refine enter Try.func19 rfl (by kernel_rfl) ?_
  refine J.seq ?_
  refine J.region ?_
  refine L.va rfl (X.assign (by conv => lhs; whnf)) ?_
  refine L.nil ?_
  refine J.seq ?_
  refine J.region ?_
  refine L.va rfl (X.assign (by conv => lhs; whnf)) ?_
  refine L.nil ?_
  refine J.seq ?_
  refine J.seq ?_
  refine J.region ?_
  refine L.va rfl (X.assign (by conv => lhs; whnf)) ?_
  refine L.nil ?_
  refine J.block ?_
  -- loop
  refine J.loop (X := Nat × Int) [5, 6, 7, 8, 9, 10, 11, 12, 13, 14, 15, 16, 17, 18, 19, 20, 21, 22, 23, 24, 25, 26, 27, 28, 29, 30, 31, 32, 33, 34, 35, 36, 37, 38, 39, 40, 41, 42, 43, 44, 45] (fun x => [(6, .int .i64 (x.1 : Int)), (5, .int .i64 x.2)]) (fun x w' => w' = w ∧ x.1 ≤ q ∧ x.2 = ((List.range x.1).map (mn ss vs)).sum) (fun x => q - x.1) ((0, 0)) (At2 (by first | rfl | exact at_int rfl (by omega) | exact at_slice rfl (by omega) | exact at_int rfl (by simp)) (by first | rfl | exact at_int rfl (by omega) | exact at_slice rfl (by omega) | exact at_int rfl (by simp))) ?_ ?_
  · exact ⟨rfl, by dsimp only; omega, rfl⟩
  · rintro ⟨u, z⟩ g w1 ⟨rfl, hu, hz⟩
    dsimp only at hu hz
    have hz' : ((u, z) : Nat × Int).2 = z := rfl
    have hb := hsum u hu
    refine J.seq ?_
    refine J.seq ?_
    refine J.region ?_
    refine L.va rfl (X.move (by conv => lhs; whnf)) ?_
    refine L.va rfl (X.move (by conv => lhs; whnf)) ?_
    refine L.va rfl (X.len rfl Try.underlying22) ?_
    refine L.va rfl (X.lss rfl rfl) ?_
    refine L.nil ?_
    -- cond
    refine J.dec rfl (fun hlt => ?_) (fun hlt => ?_)
    · have e1 : (q : Int) - 1 = ((q - 1 : Nat) : Int) := by omega
      have el : ss.getD ((q : Int) - 1).toNat 0 = lastS ss := by rw [show ((q : Int) - 1).toNat = q - 1 by omega]; exact hlast
      refine J.skip ?_
      refine J.seq ?_
      refine J.block ?_
      refine J.seq ?_
      refine J.region ?_
      refine L.va rfl (X.move (by conv => lhs; whnf)) ?_
      refine L.va rfl (X.move (by conv => lhs; whnf)) ?_
      refine L.va rfl (X.len rfl Try.underlying22) ?_
      refine L.va rfl (X.sub rfl rfl (by omega)) ?_
      refine L.va rfl ((by first | exact X.index1n rfl rfl Try.underlying22 sz_2 (by first | exact Option.some_ne_none _ | exact hr.some_ (by omega) | exact hV.some_ (by omega)) (by omega) | exact X.index1 rfl rfl Try.underlying22 sz_2 (by first | exact Option.some_ne_none _ | exact hr.some_ (by omega) | exact hV.some_ (by omega)) (by omega))) ?_
      refine L.va rfl (X.load rfl sc_2 (by first | exact Ld.num hr (by omega) | exact Ld.num hV (by omega))) ?_
      refine L.va rfl (X.assign (by conv => lhs; whnf)) ?_
      refine L.nil ?_
      -- until
      rw [el]
      refine J.cut (X := Unit) [7, 8, 21, 22, 23, 24, 25, 26, 27, 28, 29, 30, 31, 32, 33, 34, 35, 36, 37, 38, 39, 40, 41, 42] (fun _ => [(7, .int .i64 (mn ss vs u))]) (fun _ w' => w' = w1) ?_ ?_
      · refine J.seq ?_
        refine J.region ?_
        refine L.va rfl (X.assign (by conv => lhs; whnf)) ?_
        refine L.nil ?_
        refine J.block ?_
        -- loop
        refine J.loop (X := Nat × Int) [7, 8, 21, 22, 23, 24, 25, 26, 27, 28, 29, 30, 31, 32, 33, 34, 35, 36, 37, 38, 39, 40, 41, 42] (fun x => [(8, .int .i64 (x.1 : Int)), (7, .int .i64 x.2)]) (fun x w' => w' = w1 ∧ x.1 ≤ m ∧ x.2 = mn ss (vs.take x.1) u) (fun x => m - x.1) ((0, lastS ss)) (At2 (by first | rfl | exact at_int rfl (by omega) | exact at_slice rfl (by omega) | exact at_int rfl (by simp)) (by first | rfl | exact at_int rfl (by omega) | exact at_slice rfl (by omega) | exact at_int rfl (by simp))) ?_ ?_
        · exact ⟨rfl, by dsimp only; omega, rfl⟩
        · rintro ⟨i, y⟩ g w2 ⟨rfl, hi, hy⟩
          dsimp only at hi hy
          refine J.seq ?_
          refine J.seq ?_
          refine J.region ?_
          refine L.va rfl (X.move (by conv => lhs; whnf)) ?_
          refine L.va rfl (X.move (by conv => lhs; whnf)) ?_
          refine L.va rfl (X.len rfl Try.underlying23) ?_
          refine L.va rfl (X.lss rfl rfl) ?_
          refine L.nil ?_
          -- cond
          refine J.dec rfl (fun hlt2 => ?_) (fun hlt2 => ?_)
          · have hzv := zl_getD vs i
            have ht := mn_take ss vs i u (by omega)
            have hmem := mem_at (vs := vs) (i := i) (by omega)
            obtain ⟨v, hv⟩ : ∃ v, vs.getD i 0 = v := ⟨_, rfl⟩
            rw [hv] at hzv ht hmem
            have hvq := hvs v hmem
            refine J.skip ?_
            refine J.seq ?_
            refine J.block ?_
            refine J.seq ?_
            refine J.region ?_
            refine L.va rfl (X.move (by conv => lhs; whnf)) ?_
            refine L.va rfl ((by first | exact X.conv32 rfl is_3 Try.underlying29 (by omega) | exact X.convw rfl is_3 Try.underlying29)) ?_
            refine L.va rfl (X.move (by conv => lhs; whnf)) ?_
            refine L.va rfl (X.move (by conv => lhs; whnf)) ?_
            refine L.va rfl ((by first | exact X.index1n rfl rfl Try.underlying23 sz_29 (by first | exact Option.some_ne_none _ | exact hr.some_ (by omega) | exact hV.some_ (by omega)) (by omega) | exact X.index1 rfl rfl Try.underlying23 sz_29 (by first | exact Option.some_ne_none _ | exact hr.some_ (by omega) | exact hV.some_ (by omega)) (by omega))) ?_
            refine L.va rfl (X.load rfl sc_29 (by first | exact Ld.num hr (by omega) | exact Ld.num hV (by omega))) ?_
            -- callfn bushel/bushelref11.Sub
            rw [hzv]
            refine L.call rfl en_32 rfl (rsub_any u v _ (by omega) (by omega)) ?_
            rintro e _ ⟨rfl, rfl⟩
            refine ⟨_, rfl, ?_⟩
            cases hs : sb u v
            · rw [hs] at ht
              refine L.nil ?_
              -- cond
              refine J.iteF rfl ?_
              refine J.skip ?_
              refine J.region ?_
              refine L.va rfl (X.move (by conv => lhs; whnf)) ?_
              refine L.va rfl (X.add rfl rfl (by omega)) ?_
              refine L.va rfl (X.assign (by conv => lhs; whnf)) ?_
              refine L.nil ?_
              -- loopend
              refine ⟨(i + 1, y), At2 (by first | rfl | exact at_int rfl (by omega) | exact at_slice rfl (by omega) | exact at_int rfl (by simp)) (by first | rfl | exact at_int rfl (by omega) | exact at_slice rfl (by omega) | exact at_int rfl (by simp)), (by (iterate 14 refine Agr.lk rfl ?_); exact Agr.lk rfl (Agr.hav rfl Agr.rfl')), ?_⟩
              exact ⟨⟨rfl, by dsimp only; omega, by dsimp only; rw [ht, hy]; rfl⟩, by dsimp only; omega⟩
            · rw [hs] at ht
              have hzv' : (zl vs).getD ((i, y) : Nat × Int).1 0 = (v : Int) := hzv
              -- t42
              refine L.nil ?_
              -- cond
              refine J.iteT rfl ?_
              refine J.region ?_
              refine L.va rfl (X.move (by conv => lhs; whnf)) ?_
              refine L.va rfl (X.move (by conv => lhs; whnf)) ?_
              refine L.va rfl (X.move (by conv => lhs; whnf)) ?_
              refine L.va rfl (X.move (by conv => lhs; whnf)) ?_
              refine L.va rfl ((by first | exact X.index1n rfl rfl Try.underlying23 sz_29 (by first | exact Option.some_ne_none _ | exact hr.some_ (by omega) | exact hV.some_ (by omega)) (by omega) | exact X.index1 rfl rfl Try.underlying23 sz_29 (by first | exact Option.some_ne_none _ | exact hr.some_ (by omega) | exact hV.some_ (by omega)) (by omega))) ?_
              refine L.va rfl (X.load rfl sc_29 (by first | exact Ld.num hr (by omega) | exact Ld.num hV (by omega))) ?_
              refine L.va rfl ((by first | exact X.index1n rfl rfl Try.underlying22 sz_2 (by first | exact Option.some_ne_none _ | exact hr.some_ (by omega) | exact hV.some_ (by omega)) (by omega) | exact X.index1 rfl rfl Try.underlying22 sz_2 (by first | exact Option.some_ne_none _ | exact hr.some_ (by omega) | exact hV.some_ (by omega)) (by omega))) ?_
              refine L.va rfl (X.load rfl sc_2 (by first | exact Ld.num hr (by omega) | exact Ld.num hV (by omega))) ?_
              refine L.va rfl (X.min2 rfl rfl) ?_
              refine L.va rfl (X.assign (by conv => lhs; whnf)) ?_
              refine L.nil ?_
              refine J.region ?_
              refine L.va rfl (X.move (by conv => lhs; whnf)) ?_
              refine L.va rfl (X.add rfl rfl (by omega)) ?_
              refine L.va rfl (X.assign (by conv => lhs; whnf)) ?_
              refine L.nil ?_
              -- loopend
              refine ⟨(i + 1, min y (ss.getD v 0)), At2 (rfl) (at_int rfl (by rw [hzv']; rfl)), (by (iterate 24 refine Agr.lk rfl ?_); exact Agr.lk rfl (Agr.hav rfl Agr.rfl')), ?_⟩
              exact ⟨⟨rfl, by dsimp only; omega, by dsimp only; rw [ht, hy]; rfl⟩, by dsimp only; omega⟩
          · obtain rfl : i = m := by omega
            rw [List.take_of_length_le (by omega)] at hy
            subst hy
            refine J.exit ?_
            -- cutend
            refine ⟨(), At1 (by first | rfl | exact at_int rfl (by omega) | exact at_slice rfl (by omega) | exact at_int rfl (by simp)), (by (iterate 4 refine Agr.lk rfl ?_); refine Agr.lk rfl ?_; refine Agr.hav rfl ?_; (iterate 1 refine Agr.lk rfl ?_); exact Agr.rfl'), ?_⟩
            exact rfl
      · rintro _ g w2 rfl
        have hb2 := hsum (u + 1) (by omega)
        have es : ((List.range (u + 1)).map (mn ss vs)).sum = z + mn ss vs u := by rw [List.range_succ, List.map_append, List.sum_append, hz]; simp
        rw [es] at hb2
        refine J.region ?_
        refine L.va rfl (X.move (by conv => lhs; whnf)) ?_
        refine L.va rfl (X.move (by conv => lhs; whnf)) ?_
        refine L.va rfl (X.add rfl rfl (by omega)) ?_
        refine L.va rfl (X.assign (by conv => lhs; whnf)) ?_
        refine L.nil ?_
        refine J.region ?_
        refine L.va rfl (X.move (by conv => lhs; whnf)) ?_
        refine L.va rfl (X.add rfl rfl (by omega)) ?_
        refine L.va rfl (X.assign (by conv => lhs; whnf)) ?_
        refine L.nil ?_
        -- loopend
        refine ⟨(u + 1, z + mn ss vs u), At2 (by first | rfl | exact at_int rfl (by omega) | exact at_slice rfl (by omega) | exact at_int rfl (by simp)) (by first | rfl | exact at_int rfl (by omega) | exact at_slice rfl (by omega) | exact at_int rfl (by simp)), (by (iterate 7 refine Agr.lk rfl ?_); refine Agr.lk rfl ?_; refine Agr.hav rfl ?_; (iterate 11 refine Agr.lk rfl ?_); exact Agr.lk rfl (Agr.hav rfl Agr.rfl')), ?_⟩
        exact ⟨⟨rfl, by dsimp only; omega, es.symm⟩, by dsimp only; omega⟩
    · obtain rfl : u = q := by omega
      have e : costL ss vs = z := by rw [hz, costL, outs, hl]
      rw [e]
      refine J.exit ?_
      refine J.seq ?_
      refine J.region ?_
      refine L.va rfl (X.move (by conv => lhs; whnf)) ?_
      refine L.va rfl (X.assign (by conv => lhs; whnf)) ?_
      refine L.nil ?_
      -- ret
      refine J.ret ?_
      refine fin1 ?_
      exact ⟨rfl, rfl⟩
end Go.Proofs.Ytkipdkkpifnboaa
