/-
  The law DiffRows, walked.
-/
import Derived.Test.YtlohbkcedpkjaaaWRowE
import Derived.Test.YtlohbkcedpkjaaaWDiffB
namespace Go.Proofs.Ytlohbkcedpkjaaa
set_option maxRecDepth 100000
open Go.RowKit H
set_option linter.unusedVariables false
theorem Fl.lt (x : Fl) : x.b < 18446744073709551616 := of_decide_eq_true x.ok
/-- values that lie in memory -/
theorem vals_of {w : World} {B n : Nat} {A : Option Addr} {xs : List (Bool × Nm .i64 × Fl)} (h : LiesSlice w B A n xs) : ∃ l : List Vl, l.length = n ∧ Reads w B 3 A n (l.flatMap Vl.vs) ∧ wfV l := by
  obtain ⟨l, h1, h2, h3⟩ := h.rows (X := Vl) (f := Vl.vs) (g := fun v => v.x < 18446744073709551616) (fun _ => rfl) (fun us a hl => by
    obtain ⟨u1, u2, rfl, k1, u3, u4, rfl, k2, k3⟩ := hl
    exact ⟨⟨a.1, a.2.1.z, a.2.2.b⟩, by rw [show u1 = [.bool a.1] from k1, show u3 = [.int .i64 a.2.1.z] from k2, show u4 = [.float .f64 a.2.2.b] from k3]; rfl, a.2.2.lt⟩)
  exact ⟨l, h1, h2, h3⟩
abbrev RowT := (List (Nm .i64)) × (List (Bool × Nm .i64 × Fl))
/-- a row that is handed in -/
theorem row_of {w : World} {B : Nat} {us : List Value} {x : RowT} (h : Lay.lies w B us x) : ∃ r : Rw, us = r.vs ∧ r.At B w := by
  obtain ⟨u1, u2, rfl, ⟨A, n, c, rfl, hn, hc, _, hl⟩, ⟨A', n', c', rfl, hn', hc', _, hl'⟩⟩ := h
  obtain ⟨l, h1, h2, h3⟩ := vals_of hl'
  exact ⟨⟨A, n, c, zsOf x.1, A', n', c', l⟩, rfl, hl.reads, h2, h3, h1, Nat.le_trans hn hc, Nat.le_trans hn' hc'⟩
theorem rows_of {w : World} {B n c : Nat} {A : Option Addr} {xs : List RowT} (h : LiesSlice w B A n xs) (hm : n ≤ maxLen) : ∃ l : List Rw, (Rws.mk A n c l).At B w := by
  obtain ⟨l, h1, h2, h3⟩ := h.rows (X := Rw) (f := Rw.vs) (g := fun r => r.At B w) (fun _ => rfl) (fun us a hl => row_of hl)
  exact ⟨l, h2, h3, h1, hm⟩
theorem law_DiffRows (w : World) (A0 : Option Addr) (n0 c0 : Nat) (xs0 : List ((List (Nm .i64)) × (List ((Bool) × (Nm .i64) × (Fl))))) (hn0 : n0 ≤ c0) (hc0 : c0 ≤ maxLen) (hA0 : A0 = none → c0 = 0) (hl0 : LiesSlice w w.heap.size A0 n0 xs0) (A1 : Option Addr) (n1 c1 : Nat) (xs1 : List ((List (Nm .i64)) × (List ((Bool) × (Nm .i64) × (Fl))))) (hn1 : n1 ≤ c1) (hc1 : c1 ≤ maxLen) (hA1 : A1 = none → c1 = 0) (hl1 : LiesSlice w w.heap.size A1 n1 xs1) :
    Calls Try.prog 3 #[.slice A0 n0 c0, .slice A1 n1 c1] w fun e w' => e = .returned (.bool true) ∧ Below w.heap.size w w' := by
  obtain ⟨la, Ha⟩ := rows_of (c := c0) hl0 (Nat.le_trans hn0 hc0)
  obtain ⟨lb, Hb⟩ := rows_of (c := c1) hl1 (Nat.le_trans hn1 hc1)
  have sa : la.length = n0 := Ha.l
  have sb : lb.length = n1 := Hb.l
  refine enter Try.func3 rfl (by kernel_rfl) ?_
  refine J.seq ?_
  refine J.region ?_
  refine L.va rfl (X.assign (by conv => lhs; whnf)) ?_
  refine L.nil ?_
  refine J.seq ?_
  refine J.seq ?_
  refine J.region ?_
  refine L.va rfl (X.move (by conv => lhs; whnf)) ?_
  -- callfn bushel/bushelref33.Light
  refine L.call rfl en_10 rfl (light33 (Rws.mk A0 n0 c0 la) w.heap.size w Ha) ?_
  rintro e w1 ⟨b1, rfl, hb1, he1⟩
  refine ⟨_, rfl, ?_⟩
  refine L.va rfl (X.not rfl) ?_
  refine L.va rfl (X.move (by conv => lhs; whnf)) ?_
  -- case t12
  by_cases k1 : b1 = true
  · subst k1
    have L1 := hb1 rfl
    refine L.caseBF (k := 12) rfl (by rfl) ?_
    refine L.va rfl (X.move (by conv => lhs; whnf)) ?_
    -- callfn bushel/bushelref33.Light
    refine L.call rfl en_10 rfl (light33 (Rws.mk A1 n1 c1 lb) w.heap.size w1 (Hb.ext he1)) ?_
    rintro e w2 ⟨b2, rfl, hb2, he2⟩
    refine ⟨_, rfl, ?_⟩
    have he02 := he1.trans he2
    have z2 := he02.le
    refine L.va rfl (X.not rfl) ?_
    refine L.va rfl (X.pickF rfl (by conv => lhs; whnf)) ?_
    refine L.nil ?_
    -- cond
    by_cases k2 : b2 = true
    · subst k2
      have L2 := hb2 rfl
      have y1 : n0 ≤ 60 := L1.1
      have y2 : n1 ≤ 60 := L2.1
      refine J.iteF rfl ?_
      refine J.skip ?_
      refine J.seq ?_
      refine J.region ?_
      refine L.va rfl (X.move (by conv => lhs; whnf)) ?_
      refine L.va rfl (X.move (by conv => lhs; whnf)) ?_
      -- callfn bushel/diff.Rows
      have K1 : Calls Try.prog 12 #[.slice A0 n0 c0, .slice A1 n1 c1] w2 (RowsGot la lb w2) := drows (Rws.mk A0 n0 c0 la) (Rws.mk A1 n1 c1 lb) w2 ((Ha.ext he02).more z2) ((Hb.ext he02).more z2) L1.1 L2.1
      refine L.call rfl en_12 rfl (K1) ?_
      rintro e w3 ⟨A3, c3, A4, c4, rfl, ho3, ho4, he3⟩
      refine ⟨_, rfl, ?_⟩
      have he03 := he02.trans he3
      have z3 := he03.le
      refine L.va rfl (X.move (by conv => lhs; whnf)) ?_
      refine L.va rfl (X.extract rfl rfl) ?_
      refine L.va rfl (X.extract rfl rfl) ?_
      refine L.va rfl (X.assign (by conv => lhs; whnf)) ?_
      refine L.va rfl (X.assign (by conv => lhs; whnf)) ?_
      refine L.nil ?_
      refine J.seq ?_
      refine J.region ?_
      refine L.va rfl (X.move (by conv => lhs; whnf)) ?_
      refine L.va rfl (X.move (by conv => lhs; whnf)) ?_
      -- callfn bushel/bushelref43.Rows
      have K2 : Calls Try.prog 13 #[.slice A0 n0 c0, .slice A1 n1 c1] w3 (RowsGot la lb w3) := drows43 (Rws.mk A0 n0 c0 la) (Rws.mk A1 n1 c1 lb) w3 ((Ha.ext he03).more z3) ((Hb.ext he03).more z3) L1.1 L2.1
      refine L.call rfl en_13 rfl (K2) ?_
      rintro e w4 ⟨A5, c5, A6, c6, rfl, ho5, ho6, he4⟩
      refine ⟨_, rfl, ?_⟩
      have he04 := he03.trans he4
      have h1 := ho3.ext he4
      have h2 := ho4.ext he4
      have hc := mst_ok la lb
      have q1 := mst_left la lb la.length
      have q2 := nh_len (mst la lb la.length).1 lb.length
      refine L.va rfl (X.move (by conv => lhs; whnf)) ?_
      refine L.va rfl (X.extract rfl rfl) ?_
      refine L.va rfl (X.extract rfl rfl) ?_
      refine L.va rfl (X.assign (by conv => lhs; whnf)) ?_
      refine L.va rfl (X.assign (by conv => lhs; whnf)) ?_
      refine L.nil ?_
      refine J.seq ?_
      refine J.region ?_
      refine L.va rfl (X.move (by conv => lhs; whnf)) ?_
      refine L.va rfl (X.move (by conv => lhs; whnf)) ?_
      -- callfn bushel/bushelref16.Ints
      refine L.call rfl en_14 rfl (ints16 _ _ _ _ _ _ _ _ w4 (Reads.of_own h1) (Reads.of_own ho5) (by unfold maxLen; omega) (by unfold maxLen; omega)) ?_
      rintro e w5 ⟨rfl, he5⟩
      refine ⟨_, rfl, ?_⟩
      rw [eqI_self]
      refine L.va rfl (X.move (by conv => lhs; whnf)) ?_
      -- case t33
      refine L.caseBT (k := 33) rfl (by rfl) ?_
      refine L.va rfl (X.move (by conv => lhs; whnf)) ?_
      refine L.va rfl (X.move (by conv => lhs; whnf)) ?_
      -- callfn bushel/bushelref16.Ints
      refine L.call rfl en_14 rfl (ints16 _ _ _ _ _ _ _ _ w5 (Reads.of_own (h2.ext he5)) (Reads.of_own (ho6.ext he5)) (by unfold maxLen; omega) (by unfold maxLen; omega)) ?_
      rintro e w6 ⟨rfl, he6⟩
      refine ⟨_, rfl, ?_⟩
      rw [eqI_self]
      refine L.va rfl (X.pickT rfl (by conv => lhs; whnf)) ?_
      refine L.va rfl (X.move (by conv => lhs; whnf)) ?_
      -- case t38
      refine L.caseBT (k := 38) rfl (by rfl) ?_
      refine L.va rfl (X.move (by conv => lhs; whnf)) ?_
      refine L.va rfl (X.len rfl Try.underlying22) ?_
      refine L.va rfl (X.move (by conv => lhs; whnf)) ?_
      refine L.va rfl (X.len rfl Try.underlying25) ?_
      refine L.va rfl (X.sub rfl rfl (by omega)) ?_
      refine L.va rfl (X.move (by conv => lhs; whnf)) ?_
      refine L.va rfl (X.len rfl Try.underlying22) ?_
      refine L.va rfl (X.move (by conv => lhs; whnf)) ?_
      refine L.va rfl (X.len rfl Try.underlying25) ?_
      refine L.va rfl (X.sub rfl rfl (by omega)) ?_
      refine L.va rfl (X.eql rfl rfl) ?_
      refine L.va rfl (X.pickT rfl (by conv => lhs; whnf)) ?_
      refine L.va rfl (X.move (by conv => lhs; whnf)) ?_
      -- case t51
      refine L.caseDecT (k := 51) rfl (by omega) ?_
      -- callfn bushel/bushellaw43.awake
      refine L.call rfl en_11 rfl (awake43 w6) ?_
      rintro e w7 ⟨rfl, he7⟩
      refine ⟨_, rfl, ?_⟩
      refine L.va rfl (X.pickT rfl (by conv => lhs; whnf)) ?_
      refine L.va rfl (X.assign (by conv => lhs; whnf)) ?_
      refine L.nil ?_
      -- ret
      refine J.ret ?_
      refine fin1 ?_
      exact ⟨rfl, ((he04.trans he5).trans he6).trans he7⟩
    · have k2 : b2 = false := by simpa using k2
      subst k2
      refine J.iteT rfl ?_
      refine J.seq ?_
      refine J.region ?_
      -- callfn bushel/bushellaw43.awake
      refine L.call rfl en_11 rfl (awake43 w2) ?_
      rintro e w3 ⟨rfl, he3⟩
      refine ⟨_, rfl, ?_⟩
      refine L.va rfl (X.assign (by conv => lhs; whnf)) ?_
      refine L.nil ?_
      -- ret
      refine J.ret ?_
      refine thn_ret <| ?_
      refine fin1 ?_
      exact ⟨rfl, he02.trans he3⟩
  · have k1 : b1 = false := by simpa using k1
    subst k1
    refine L.caseBT (k := 12) rfl (by rfl) ?_
    refine L.no rfl ?_
    refine L.no rfl ?_
    refine L.no rfl ?_
    refine L.va rfl (X.pickT rfl (by conv => lhs; whnf)) ?_
    refine L.nil ?_
    -- cond
    refine J.iteT rfl ?_
    refine J.seq ?_
    refine J.region ?_
    -- callfn bushel/bushellaw43.awake
    refine L.call rfl en_11 rfl (awake43 w1) ?_
    rintro e w3 ⟨rfl, he3⟩
    refine ⟨_, rfl, ?_⟩
    refine L.va rfl (X.assign (by conv => lhs; whnf)) ?_
    refine L.nil ?_
    -- ret
    refine J.ret ?_
    refine thn_ret <| ?_
    refine fin1 ?_
    exact ⟨rfl, he1.trans he3⟩
end Go.Proofs.Ytlohbkcedpkjaaa
