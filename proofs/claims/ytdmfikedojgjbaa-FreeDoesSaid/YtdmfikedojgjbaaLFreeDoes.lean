/-
  The law FreeDoes, walked: every size, list and asks.
-/
import Derived.Test.YtdmfikedojgjbaaWFreeF
namespace Go.Proofs.Ytdmfikedojgjbaa
set_option maxRecDepth 100000
open Go.RowKit H
set_option linter.unusedVariables false
/-- an ask in memory -/
structure Am where
  (a : Int) (lA : Option Addr) (ln lc : Nat) (live : List Int)
abbrev Am.vals (x : Am) : List Value := [.int .i64 x.a, .slice x.lA x.ln x.lc]
structure Am.At (x : Am) (N : Nat) (w : World) : Prop where
  hl : Reads w N 1 x.lA x.ln (nums .i64 x.live)
  hb : ∀ z ∈ x.live, -9223372036854775808 ≤ z ∧ z ≤ 9223372036854775807
  hn : x.ln ≤ maxLen
theorem Am.At.low {x : Am} {N : Nat} {w w' : World} (h : x.At N w) (hb : Below N w w') : x.At N w' := ⟨h.hl.low hb (Nat.le_refl _), h.hb, h.hn⟩
structure AmsAt (xs : List Am) (A : Option Addr) (n N : Nat) (w : World) : Prop where
  hr : Reads w N 2 A n (xs.flatMap Am.vals)
  hx : ∀ x ∈ xs, x.At N w
  hn : xs.length = n
theorem AmsAt.low {xs : List Am} {A : Option Addr} {n N : Nat} {w w' : World} (h : AmsAt xs A n N w) (hb : Below N w w') : AmsAt xs A n N w' := ⟨h.hr.low hb (Nat.le_refl _), fun x hx => (h.hx x hx).low hb, h.hn⟩
theorem AmsAt.row {xs : List Am} {A : Option Addr} {n N : Nat} {w : World} (h : AmsAt xs A n N w) {i : Nat} (hi : i < n) : ∃ x, xs[i]? = some x ∧ x ∈ xs ∧ x.At N w := by
  have hlt : i < xs.length := by rw [h.hn]; exact hi
  exact ⟨xs[i], List.getElem?_eq_getElem hlt, List.getElem_mem hlt, h.hx _ (List.getElem_mem hlt)⟩
theorem am_len (x : Am) : x.vals.length = 2 := rfl
theorem zsOf_i64 (xs : List (Nm .i64)) : ∀ z ∈ zsOf xs, -9223372036854775808 ≤ z ∧ z ≤ 9223372036854775807 := by
  intro z hz
  obtain ⟨x, _, rfl⟩ := List.mem_map.1 hz
  exact x.i64
theorem asks_of {w : World} {N n : Nat} {A : Option Addr} {xs : List ((Nm .i64) × (List (Nm .i64)))} (h : LiesSlice w N A n xs) : ∃ ds : List Am, AmsAt ds A n N w := by
  obtain ⟨l, h1, h2, h3⟩ := h.rows (X := Am) (f := Am.vals) (g := fun x => x.At N w) (fun x => rfl) (fun us a hl => by
    obtain ⟨u1, v1, rfl, e1, kA, kn, kc, rfl, m1, m2, _, m3⟩ := hl
    obtain rfl : u1 = [.int .i64 a.1.z] := e1
    exact ⟨⟨a.1.z, kA, kn, kc, zsOf a.2⟩, rfl, m3.reads, zsOf_i64 _, by dsimp only; omega⟩)
  exact ⟨l, h2, h3, h1⟩
namespace H
theorem Ld.flat' {X : Type} {f : X → List Value} {sz B n : Nat} {A : Option Addr} {w : World} {l : List X} (hf : ∀ x, (f x).length = sz) (h : Reads w B sz A n (l.flatMap f)) {i : Nat} {x : X} (hi : l[i]? = some x) {r : Nat} {u : Value} (hu : (f x)[r]? = some u) : Ld w (pA A (i * sz + r)) u := by
  have h2 := flat_row hf hi r u hu
  have hj : i * sz + r < n * sz := by rw [← h.1]; exact (List.getElem?_eq_some_iff.1 h2).1
  have h1 := Ld.rd h hj
  rw [List.getD, h2] at h1
  exact h1
end H
namespace Sp
theorem At.notT {s : Sp} {N : Nat} {w : World} {g t : Nat} {cs : Array Value} (h : s.At N w) (hb : Blk w g t cs) (h1 : t ≠ 83) (h2 : t ≠ 3) : ¬ s.T g := by
  rintro (rfl | hg | hg)
  · have h3 := h.hb
    have e := h3.symm.trans hb
    injection e with e
    injection e with _ e
    exact h1 e.symm
  · exact own_blk_ne h.hk hb (fun e => h2 e.symm) hg
  · exact own_blk_ne h.hf hb (fun e => h2 e.symm) hg
end Sp
/-- space and reference agree -/
structure Fq (s : Sp) (R : List Int) (A : Option Addr) (c N q : Nat) (d : Nat) (w0 w : World) : Prop where
  hs : s.At N w
  hi : s.Is R
  hd : s.d = d
  ho : w.ownsRow N 3 1 (.slice A R.length c) R.length (nums .i64 R)
  hT : ∀ g, Value.ownBlock (.slice A R.length c) = some g → ¬ s.T g
  hq : R.length = q
  he : Ext w0 w
theorem Fq.ext {s : Sp} {R : List Int} {A : Option Addr} {c N q d : Nat} {w0 w w' : World} (h : Fq s R A c N q d w0 w) (he : Ext w w') : Fq s R A c N q d w0 w' := ⟨h.hs.ext he, h.hi, h.hd, h.ho.ext he, h.hT, h.hq, h.he.trans he⟩
theorem doF_len (R : List Int) (a : Int) (live : List Int) : (doF R a live).1.length = R.length := by
  unfold doF
  (repeat' split) <;> first | rfl | simp [dropR, mark_length]
theorem law_FreeDoes (w : World) (x0 : Nm .i64) (A1 : Option Addr) (n1 c1 : Nat) (xs1 : List (Nm .i64)) (hn1 : n1 ≤ c1) (hc1 : c1 ≤ maxLen) (hA1 : A1 = none → c1 = 0) (hl1 : LiesSlice w w.heap.size A1 n1 xs1) (A2 : Option Addr) (n2 c2 : Nat) (xs2 : List ((Nm .i64) × (List (Nm .i64)))) (hn2 : n2 ≤ c2) (hc2 : c2 ≤ maxLen) (hA2 : A2 = none → c2 = 0) (hl2 : LiesSlice w w.heap.size A2 n2 xs2) :
    Calls Try.prog 9 #[.int .i64 x0.z, .slice A1 n1 c1, .slice A2 n2 c2] w fun e w' => e = .returned (.bool true) ∧ Below w.heap.size w w' := by
  obtain ⟨ds, hds⟩ := asks_of hl2
  have hr := hl1.reads
  have hx0 := x0.i64
  generalize zsOf xs1 = live at hr
  unfold maxLen at hc1 hc2
  refine enter Try.func9 rfl (by kernel_rfl) ?_
  refine J.seq ?_
  refine J.region ?_
  refine L.va rfl (X.assign (by conv => lhs; whnf)) ?_
  refine L.nil ?_
  -- until
  refine J.cut (X := Unit) [6, 17, 18, 19, 20, 21, 22, 23, 24, 25, 26, 27, 28, 29, 30, 31, 32, 33] (fun _ => []) (fun _ w' => w' = w ∧ (x0.z ≤ 100 ∨ 8192 < x0.z) ∧ n1 ≤ 200 ∧ n2 ≤ 60) ?_ ?_
  · refine J.seq ?_
    refine J.region ?_
    refine L.va rfl (X.move (by conv => lhs; whnf)) ?_
    refine L.va rfl (X.gtr rfl rfl) ?_
    refine L.va rfl (X.move (by conv => lhs; whnf)) ?_
    -- case t19
    refine L.caseDec (k := 19) rfl (fun h1 => ?_) (fun h1 => ?_)
    · refine L.va rfl (X.move (by conv => lhs; whnf)) ?_
      refine L.va rfl (X.leq rfl rfl) ?_
      refine L.va rfl (X.pickT rfl (by conv => lhs; whnf)) ?_
      refine L.va rfl (X.move (by conv => lhs; whnf)) ?_
      -- case t23
      refine L.caseDec (k := 23) rfl (fun h2 => ?_) (fun h2 => ?_)
      · refine L.no rfl ?_
        refine L.no rfl ?_
        refine L.no rfl ?_
        refine L.va rfl (X.pickT rfl (by conv => lhs; whnf)) ?_
        refine L.va rfl (X.move (by conv => lhs; whnf)) ?_
        refine L.no rfl ?_
        refine L.no rfl ?_
        refine L.no rfl ?_
        refine L.va rfl (X.pickT rfl (by conv => lhs; whnf)) ?_
        refine L.nil ?_
        -- cond
        refine J.iteT rfl ?_
        refine J.seq ?_
        refine J.region ?_
        -- callfn bushel/bushellaw24.awake
        refine L.call rfl en_32 rfl (awake24 w) ?_
        rintro e w1 ⟨rfl, he1⟩
        refine ⟨_, rfl, ?_⟩
        refine L.va rfl (X.assign (by conv => lhs; whnf)) ?_
        refine L.nil ?_
        -- ret
        refine J.ret ?_
        refine thn_ret <| ?_
        refine fin1 ?_
        exact ⟨rfl, he1⟩
      · refine L.va rfl (X.move (by conv => lhs; whnf)) ?_
        refine L.va rfl (X.len rfl Try.underlying62) ?_
        refine L.va rfl (X.gtr rfl rfl) ?_
        refine L.va rfl (X.pickF rfl (by conv => lhs; whnf)) ?_
        refine L.va rfl (X.move (by conv => lhs; whnf)) ?_
        -- case t28
        refine L.caseDec (k := 28) rfl (fun h3 => ?_) (fun h3 => ?_)
        · refine L.no rfl ?_
          refine L.no rfl ?_
          refine L.no rfl ?_
          refine L.va rfl (X.pickT rfl (by conv => lhs; whnf)) ?_
          refine L.nil ?_
          -- cond
          refine J.iteT rfl ?_
          refine J.seq ?_
          refine J.region ?_
          -- callfn bushel/bushellaw24.awake
          refine L.call rfl en_32 rfl (awake24 w) ?_
          rintro e w1 ⟨rfl, he1⟩
          refine ⟨_, rfl, ?_⟩
          refine L.va rfl (X.assign (by conv => lhs; whnf)) ?_
          refine L.nil ?_
          -- ret
          refine J.ret ?_
          refine thn_ret <| ?_
          refine fin1 ?_
          exact ⟨rfl, he1⟩
        · refine L.va rfl (X.move (by conv => lhs; whnf)) ?_
          refine L.va rfl (X.len rfl Try.underlying69) ?_
          refine L.va rfl (X.gtr rfl rfl) ?_
          refine L.va rfl (X.pickF rfl (by conv => lhs; whnf)) ?_
          refine L.nil ?_
          -- cond
          refine J.dec rfl (fun h4 => ?_) (fun h4 => ?_)
          · refine J.seq ?_
            refine J.region ?_
            -- callfn bushel/bushellaw24.awake
            refine L.call rfl en_32 rfl (awake24 w) ?_
            rintro e w1 ⟨rfl, he1⟩
            refine ⟨_, rfl, ?_⟩
            refine L.va rfl (X.assign (by conv => lhs; whnf)) ?_
            refine L.nil ?_
            -- ret
            refine J.ret ?_
            refine thn_ret <| ?_
            refine fin1 ?_
            exact ⟨rfl, he1⟩
          · refine J.skip ?_
            -- cutend
            refine ⟨(), At0 , (by (iterate 19 refine Agr.lk rfl ?_); exact Agr.rfl'), ?_⟩
            exact ⟨rfl, .inr (by omega), by omega, by omega⟩
    · refine L.no rfl ?_
      refine L.no rfl ?_
      refine L.va rfl (X.pickF rfl (by conv => lhs; whnf)) ?_
      refine L.va rfl (X.move (by conv => lhs; whnf)) ?_
      refine L.va rfl (X.move (by conv => lhs; whnf)) ?_
      refine L.va rfl (X.len rfl Try.underlying62) ?_
      refine L.va rfl (X.gtr rfl rfl) ?_
      refine L.va rfl (X.pickF rfl (by conv => lhs; whnf)) ?_
      refine L.va rfl (X.move (by conv => lhs; whnf)) ?_
      -- case t28
      refine L.caseDec (k := 28) rfl (fun h3 => ?_) (fun h3 => ?_)
      · refine L.no rfl ?_
        refine L.no rfl ?_
        refine L.no rfl ?_
        refine L.va rfl (X.pickT rfl (by conv => lhs; whnf)) ?_
        refine L.nil ?_
        -- cond
        refine J.iteT rfl ?_
        refine J.seq ?_
        refine J.region ?_
        -- callfn bushel/bushellaw24.awake
        refine L.call rfl en_32 rfl (awake24 w) ?_
        rintro e w1 ⟨rfl, he1⟩
        refine ⟨_, rfl, ?_⟩
        refine L.va rfl (X.assign (by conv => lhs; whnf)) ?_
        refine L.nil ?_
        -- ret
        refine J.ret ?_
        refine thn_ret <| ?_
        refine fin1 ?_
        exact ⟨rfl, he1⟩
      · refine L.va rfl (X.move (by conv => lhs; whnf)) ?_
        refine L.va rfl (X.len rfl Try.underlying69) ?_
        refine L.va rfl (X.gtr rfl rfl) ?_
        refine L.va rfl (X.pickF rfl (by conv => lhs; whnf)) ?_
        refine L.nil ?_
        -- cond
        refine J.dec rfl (fun h4 => ?_) (fun h4 => ?_)
        · refine J.seq ?_
          refine J.region ?_
          -- callfn bushel/bushellaw24.awake
          refine L.call rfl en_32 rfl (awake24 w) ?_
          rintro e w1 ⟨rfl, he1⟩
          refine ⟨_, rfl, ?_⟩
          refine L.va rfl (X.assign (by conv => lhs; whnf)) ?_
          refine L.nil ?_
          -- ret
          refine J.ret ?_
          refine thn_ret <| ?_
          refine fin1 ?_
          exact ⟨rfl, he1⟩
        · refine J.skip ?_
          -- cutend
          refine ⟨(), At0 , (by (iterate 18 refine Agr.lk rfl ?_); exact Agr.rfl'), ?_⟩
          exact ⟨rfl, .inl (by omega), by omega, by omega⟩
  · rintro ⟨⟩ g w0 ⟨rfl, h100, hn200, hn60⟩
    refine J.seq ?_
    refine J.region ?_
    refine L.va rfl (X.move (by conv => lhs; whnf)) ?_
    refine L.va rfl (X.move (by conv => lhs; whnf)) ?_
    -- callfn bushel/free.New
    rcases (show (x0.z < 1 ∨ 8192 < x0.z) ∨ (1 ≤ x0.z ∧ x0.z ≤ 100) ∧ allThere x0.z.toNat live = false ∨ (1 ≤ x0.z ∧ x0.z ≤ 100) ∧ allThere x0.z.toNat live = true by cases allThere x0.z.toNat live <;> simp <;> omega) with h1 | ⟨h1, hth⟩ | ⟨h1, hth⟩
    · refine L.call rfl en_33 rfl (fnew_2 x0.z A1 n1 c1 h1) ?_
      rintro e _ ⟨rfl, rfl⟩
      refine ⟨_, rfl, ?_⟩
      refine L.va rfl (X.move (by conv => lhs; whnf)) ?_
      refine L.va rfl (X.extract rfl rfl) ?_
      refine L.va rfl (X.extract rfl rfl) ?_
      refine L.va rfl (X.assign (by conv => lhs; whnf)) ?_
      refine L.va rfl (X.assign (by conv => lhs; whnf)) ?_
      refine L.nil ?_
      refine J.seq ?_
      refine J.region ?_
      refine L.va rfl (X.move (by conv => lhs; whnf)) ?_
      refine L.va rfl (X.move (by conv => lhs; whnf)) ?_
      -- callfn bushel/bushelref24.New
      refine L.call rfl en_36 rfl (rfnew_2 x0.z h1 hx0 A1 n1 c1 live hr (by omega)) ?_
      rintro e w1 ⟨rfl, he1⟩
      refine ⟨_, rfl, ?_⟩
      have he1 : Ext w0 w1 := he1
      refine L.va rfl (X.move (by conv => lhs; whnf)) ?_
      refine L.va rfl (X.extract rfl rfl) ?_
      refine L.va rfl (X.extract rfl rfl) ?_
      -- alloc
      refine L.alloc rfl zr_71 ?_
      intro b2 w2 hb2 hs2 hk2 he2
      -- store
      refine L.storeAgg (vs := [_]) rfl rfl rfl rfl sz_71 (hk2) rfl ?_
      intro w3 hk3 hg3 hs3
      have he3 : Ext w0 w3 := (he1.trans he2).grw hg3 (by intro g hg; injection hg with hg; have := he1.le; omega)
      refine L.va rfl (X.assign (by conv => lhs; whnf)) ?_
      refine L.nil ?_
      refine J.seq ?_
      refine J.seq ?_
      refine J.region ?_
      refine L.va rfl (X.move (by conv => lhs; whnf)) ?_
      refine L.va rfl (X.neq rfl rfl) ?_
      refine L.nil ?_
      -- cond
      refine J.ndecT rfl (by decide) ?_
      refine J.seq ?_
      refine J.region ?_
      refine L.va rfl (X.move (by conv => lhs; whnf)) ?_
      refine L.va rfl (X.eqlPn rfl rfl (by kernel_rfl)) ?_
      refine L.va rfl (X.move (by conv => lhs; whnf)) ?_
      -- case t50
      refine L.caseBT (k := 50) rfl (by rfl) ?_
      refine L.va rfl (X.move (by conv => lhs; whnf)) ?_
      refine L.va rfl (X.move (by conv => lhs; whnf)) ?_
      refine L.va rfl (X.eql rfl rfl) ?_
      refine L.va rfl (X.pickT rfl (by conv => lhs; whnf)) ?_
      refine L.va rfl (X.move (by conv => lhs; whnf)) ?_
      -- case t55
      refine L.caseDecT (k := 55) rfl (by rfl) ?_
      -- callfn bushel/bushellaw24.awake
      refine L.call rfl en_32 rfl (awake24 w3) ?_
      rintro e w4 ⟨rfl, he4⟩
      refine ⟨_, rfl, ?_⟩
      refine L.va rfl (X.pickT rfl (by conv => lhs; whnf)) ?_
      refine L.va rfl (X.assign (by conv => lhs; whnf)) ?_
      refine L.nil ?_
      -- ret
      refine J.ret ?_
      refine thn_ret <| ?_
      refine fin1 ?_
      exact ⟨rfl, he3.trans he4⟩
    · obtain ⟨q, hq⟩ := Int.eq_ofNat_of_zero_le (show 0 ≤ x0.z by omega)
      rw [hq, Int.toNat_natCast] at hth
      rw [hq]
      refine L.call rfl en_33 rfl (fnew_no q (by omega) A1 n1 c1 live hr (by omega) hth) ?_
      rintro e w1 ⟨rfl, he1⟩
      refine ⟨_, rfl, ?_⟩
      have he1 : Ext w0 w1 := he1
      refine L.va rfl (X.move (by conv => lhs; whnf)) ?_
      refine L.va rfl (X.extract rfl rfl) ?_
      refine L.va rfl (X.extract rfl rfl) ?_
      refine L.va rfl (X.assign (by conv => lhs; whnf)) ?_
      refine L.va rfl (X.assign (by conv => lhs; whnf)) ?_
      refine L.nil ?_
      refine J.seq ?_
      refine J.region ?_
      refine L.va rfl (X.move (by conv => lhs; whnf)) ?_
      refine L.va rfl (X.move (by conv => lhs; whnf)) ?_
      -- callfn bushel/bushelref24.New
      refine L.call rfl en_36 rfl (rfnew_no q (by omega) A1 n1 c1 live ((hr.ext he1).more he1.le) (by omega) hth) ?_
      rintro e w2 ⟨rfl, he2⟩
      refine ⟨_, rfl, ?_⟩
      have he2 : Ext w1 w2 := he2
      refine L.va rfl (X.move (by conv => lhs; whnf)) ?_
      refine L.va rfl (X.extract rfl rfl) ?_
      refine L.va rfl (X.extract rfl rfl) ?_
      -- alloc
      refine L.alloc rfl zr_71 ?_
      intro b3 w3 hb3 hs3 hk3 he3
      -- store
      refine L.storeAgg (vs := [_]) rfl rfl rfl rfl sz_71 (hk3) rfl ?_
      intro w4 hk4 hg4 hs4
      have he4 : Ext w0 w4 := ((he1.trans he2).trans he3).grw hg4 (by intro g hg; injection hg with hg; have := (he1.trans he2).le; omega)
      refine L.va rfl (X.assign (by conv => lhs; whnf)) ?_
      refine L.nil ?_
      refine J.seq ?_
      refine J.seq ?_
      refine J.region ?_
      refine L.va rfl (X.move (by conv => lhs; whnf)) ?_
      refine L.va rfl (X.neq rfl rfl) ?_
      refine L.nil ?_
      -- cond
      refine J.ndecT rfl (by decide) ?_
      refine J.seq ?_
      refine J.region ?_
      refine L.va rfl (X.move (by conv => lhs; whnf)) ?_
      refine L.va rfl (X.eqlPn rfl rfl (by kernel_rfl)) ?_
      refine L.va rfl (X.move (by conv => lhs; whnf)) ?_
      -- case t50
      refine L.caseBT (k := 50) rfl (by rfl) ?_
      refine L.va rfl (X.move (by conv => lhs; whnf)) ?_
      refine L.va rfl (X.move (by conv => lhs; whnf)) ?_
      refine L.va rfl (X.eql rfl rfl) ?_
      refine L.va rfl (X.pickT rfl (by conv => lhs; whnf)) ?_
      refine L.va rfl (X.move (by conv => lhs; whnf)) ?_
      -- case t55
      refine L.caseDecT (k := 55) rfl (by rfl) ?_
      -- callfn bushel/bushellaw24.awake
      refine L.call rfl en_32 rfl (awake24 w4) ?_
      rintro e w5 ⟨rfl, he5⟩
      refine ⟨_, rfl, ?_⟩
      refine L.va rfl (X.pickT rfl (by conv => lhs; whnf)) ?_
      refine L.va rfl (X.assign (by conv => lhs; whnf)) ?_
      refine L.nil ?_
      -- ret
      refine J.ret ?_
      refine thn_ret <| ?_
      refine fin1 ?_
      exact ⟨rfl, he4.trans he5⟩
    · obtain ⟨q, hq⟩ := Int.eq_ofNat_of_zero_le (show 0 ≤ x0.z by omega)
      rw [hq, Int.toNat_natCast] at hth
      rw [hq]
      refine L.call rfl en_33 rfl (fnew_yes q (by omega) A1 n1 c1 live hr (by omega) hth) ?_
      rintro e w1 ⟨s, rfl, hS1, iS1, he1⟩
      refine ⟨_, rfl, ?_⟩
      have he1 : Ext w0 w1 := he1
      refine L.va rfl (X.move (by conv => lhs; whnf)) ?_
      refine L.va rfl (X.extract rfl rfl) ?_
      refine L.va rfl (X.extract rfl rfl) ?_
      refine L.va rfl (X.assign (by conv => lhs; whnf)) ?_
      refine L.va rfl (X.assign (by conv => lhs; whnf)) ?_
      refine L.nil ?_
      refine J.seq ?_
      refine J.region ?_
      refine L.va rfl (X.move (by conv => lhs; whnf)) ?_
      refine L.va rfl (X.move (by conv => lhs; whnf)) ?_
      -- callfn bushel/bushelref24.New
      refine L.call rfl en_36 rfl (rfnew_yes q (by omega) A1 n1 c1 live ((hr.ext he1).more he1.le) (by omega) hth) ?_
      rintro e w2 ⟨rA, rc, rfl, ho2, he2⟩
      refine ⟨_, rfl, ?_⟩
      have he2 : Ext w1 w2 := he2
      have hml : (mark (List.replicate q (0 : Int)) live).length = q := by rw [mark_length]; simp
      generalize mark (List.replicate q (0 : Int)) live = R0 at *
      have hF2 : Fq s R0 rA rc w0.heap.size q s.d w0 w2 := ⟨hS1.ext he2, iS1, rfl, ho2.mono he1.le, fun g hg hh => by
        have k1 := (ho2.lt g hg).1
        have k2 := (hS1.tN g hh).2
        omega, hml, he1.trans he2⟩
      refine L.va rfl (X.move (by conv => lhs; whnf)) ?_
      refine L.va rfl (X.extract rfl rfl) ?_
      refine L.va rfl (X.extract rfl rfl) ?_
      -- alloc
      refine L.alloc rfl zr_71 ?_
      intro b9 w3 hb9 hs3 hk3 he3
      -- store
      refine L.storeAgg (vs := [_]) rfl rfl rfl rfl sz_71 (hk3) rfl ?_
      intro w4 hk4 hg4 hs4
      have e24 : Ext w2 w4 := he3.grw hg4 (by intro g hg; injection hg with hg; omega)
      have hF4 := hF2.ext e24
      have hk4 : Blk w4 b9 71 #[.slice rA R0.length rc] := hk4
      have cI := fis hF4.hs hF4.hi rA rc hF4.ho
      refine L.va rfl (X.assign (by conv => lhs; whnf)) ?_
      refine L.nil ?_
      refine J.seq ?_
      refine J.seq ?_
      refine J.region ?_
      refine L.va rfl (X.move (by conv => lhs; whnf)) ?_
      refine L.va rfl (X.neq rfl rfl) ?_
      refine L.nil ?_
      -- cond
      refine J.ndecF rfl (by exact rfl) ?_
      refine J.skip ?_
      refine J.seq ?_
      refine J.seq ?_
      refine J.region ?_
      refine L.va rfl (X.move (by conv => lhs; whnf)) ?_
      refine L.va rfl (X.eqlPn rfl rfl (by kernel_rfl)) ?_
      refine L.va rfl (X.move (by conv => lhs; whnf)) ?_
      -- case t60
      refine L.caseBF (k := 60) rfl (by rfl) ?_
      refine L.va rfl (X.move (by conv => lhs; whnf)) ?_
      refine L.va rfl (X.neq rfl rfl) ?_
      refine L.va rfl (X.pickF rfl (by conv => lhs; whnf)) ?_
      refine L.va rfl (X.move (by conv => lhs; whnf)) ?_
      -- case t64
      refine L.caseNdecF (k := 64) rfl (by rfl) ?_
      refine L.va rfl (X.move (by conv => lhs; whnf)) ?_
      refine L.va rfl ((by first | exact X.loadAgg rfl (range_l hk4) Try.underlying71 rfl (by kernel_rfl) | exact X.loadAgg rfl (range_blk hk4) Try.underlying71 rfl (by kernel_rfl))) ?_
      -- callfn bushel/bushellaw24.is
      refine L.call rfl en_37 rfl (cI) ?_
      rintro e w5 ⟨rfl, he5⟩
      refine ⟨_, rfl, ?_⟩
      have he5 : Ext w4 w5 := he5
      have hF5 := hF4.ext he5
      have hk5 := hk4.ext he5
      generalize hdd : s.d = d at hF5
      have hptr : s.ptr = .pointer (some ⟨d, 0, none⟩) := by unfold Sp.ptr; rw [hdd]
      refine L.va rfl (X.not rfl) ?_
      refine L.va rfl (X.pickF rfl (by conv => lhs; whnf)) ?_
      refine L.nil ?_
      -- cond
      refine J.iteF rfl ?_
      rw [hptr]
      refine J.skip ?_
      refine J.seq ?_
      refine J.seq ?_
      refine J.region ?_
      refine L.va rfl (X.assign (by conv => lhs; whnf)) ?_
      refine L.nil ?_
      refine J.block ?_
      -- loop
      refine J.loop (X := Nat × (Sp × List Int) × (Option Addr × Nat)) [6, 11, 12, 13, 14, 15, 16, 70, 71, 72, 73, 74, 75, 76, 77, 78, 79, 80, 81, 82, 83, 84, 85, 86, 87, 88, 89, 90, 91, 92, 93, 94, 95, 96, 97, 98, 99, 100, 101, 102, 103, 104, 105, 106, 107, 108, 109, 110, 111, 112, 113, 114, 115, 116, 117, 118, 119, 120, 121, 122, 123, 124, 125, 126, 127, 128, 129, 130, 131, 132, 133, 134, 135, 136, 137, 138, 139, 140, 141, 142, 143, 144, 145, 146, 147, 148] (fun y => [(11, .int .i64 (y.1 : Int))]) (fun y w' => y.1 ≤ n2 ∧ Fq y.2.1.1 y.2.1.2 y.2.2.1 y.2.2.2 w0.heap.size q d w0 w' ∧ Blk w' b9 71 #[.slice y.2.2.1 y.2.1.2.length y.2.2.2]) (fun y => n2 - y.1) ((0, (s, R0), (rA, rc))) (At1 (by first | rfl | exact at_int rfl (by omega) | exact at_slice rfl (by omega) | exact at_int rfl (by simp))) ?_ ?_
      · exact ⟨Nat.zero_le _, hF5, hk5⟩
      · rintro ⟨i, ⟨s, R⟩, ⟨rA, rc⟩⟩ g w6 ⟨hi, F, hk6⟩
        dsimp only at hi F hk6
        have q1 : ((i, (s, R), (rA, rc)) : Nat × (Sp × List Int) × (Option Addr × Nat)).1 = i := rfl
        have hx6 := hds.low F.he
        have hR6 := hx6.hr
        have hpt : s.ptr = .pointer (some ⟨d, 0, none⟩) := by unfold Sp.ptr; rw [F.hd]
        refine J.seq ?_
        refine J.seq ?_
        refine J.region ?_
        refine L.va rfl (X.move (by conv => lhs; whnf)) ?_
        refine L.va rfl (X.move (by conv => lhs; whnf)) ?_
        refine L.va rfl (X.len rfl Try.underlying69) ?_
        refine L.va rfl (X.lss rfl rfl) ?_
        refine L.nil ?_
        -- cond
        refine J.dec rfl (fun hlt => ?_) (fun hlt => ?_)
        · have hil : i < n2 := by dsimp only at hlt; omega
          obtain ⟨x, hxi, hxm, hxA⟩ := hx6.row hil
          have hxn := hxA.hn
          unfold maxLen at hxn
          -- t80
          -- t88
          -- t96
          refine J.skip ?_
          refine J.seq ?_
          refine J.block ?_
          -- until
          refine J.cut (X := Unit) [76, 77, 78, 79, 80, 81, 82, 83, 84, 85, 86, 87, 88, 89, 90, 91, 92, 93, 94, 95, 96, 97, 98] (fun _ => []) (fun _ w' => w' = w6 ∧ x.ln ≤ 200 ∧ 0 ≤ x.a ∧ x.a ≤ 2) ?_ ?_
          · refine J.seq ?_
            refine J.region ?_
            refine L.va rfl (X.move (by conv => lhs; whnf)) ?_
            refine L.va rfl (X.move (by conv => lhs; whnf)) ?_
            refine L.va rfl ((by first | exact X.indexAddrn rfl rfl Try.underlying69 sz_76 (by first | exact Option.some_ne_none _ | exact hR6.some_ (by omega)) (by omega) | exact X.indexAddr rfl rfl Try.underlying69 sz_76 (by first | exact Option.some_ne_none _ | exact hR6.some_ (by omega)) (by omega))) ?_
            refine L.va rfl (X.fieldP rfl Try.underlying76 rfl sz_62 (by decide) (by first | exact Option.some_ne_none _ | exact hR6.some_ (by omega))) ?_
            refine L.va rfl (X.load rfl sc_62 (Ld.flat' am_len hR6 hxi (r := 1) rfl)) ?_
            refine L.va rfl (X.len rfl Try.underlying62) ?_
            refine L.va rfl (X.gtr rfl rfl) ?_
            refine L.va rfl (X.move (by conv => lhs; whnf)) ?_
            -- case t83
            refine L.caseDec (k := 83) rfl (fun h3 => ?_) (fun h3 => ?_)
            · refine L.no rfl ?_
              refine L.no rfl ?_
              refine L.no rfl ?_
              refine L.no rfl ?_
              refine L.no rfl ?_
              refine L.no rfl ?_
              refine L.va rfl (X.pickT rfl (by conv => lhs; whnf)) ?_
              refine L.va rfl (X.move (by conv => lhs; whnf)) ?_
              refine L.no rfl ?_
              refine L.no rfl ?_
              refine L.no rfl ?_
              refine L.no rfl ?_
              refine L.no rfl ?_
              refine L.no rfl ?_
              refine L.va rfl (X.pickT rfl (by conv => lhs; whnf)) ?_
              refine L.nil ?_
              -- cond
              refine J.iteT rfl ?_
              refine J.exit ?_
              refine J.region ?_
              refine L.va rfl (X.move (by conv => lhs; whnf)) ?_
              refine L.va rfl (X.add rfl rfl (by omega)) ?_
              refine L.va rfl (X.assign (by conv => lhs; whnf)) ?_
              refine L.nil ?_
              -- loopend
              refine ⟨(i + 1, (s, R), (rA, rc)), At1 (by first | rfl | exact at_int rfl (by omega) | exact at_slice rfl (by omega) | exact at_int rfl (by simp)), (by (iterate 31 refine Agr.lk rfl ?_); exact Agr.lk rfl (Agr.hav rfl Agr.rfl')), ?_⟩
              exact ⟨⟨by dsimp only; omega, F, hk6⟩, by dsimp only; omega⟩
            · refine L.va rfl (X.move (by conv => lhs; whnf)) ?_
              refine L.va rfl (X.move (by conv => lhs; whnf)) ?_
              refine L.va rfl ((by first | exact X.indexAddrn rfl rfl Try.underlying69 sz_76 (by first | exact Option.some_ne_none _ | exact hR6.some_ (by omega)) (by omega) | exact X.indexAddr rfl rfl Try.underlying69 sz_76 (by first | exact Option.some_ne_none _ | exact hR6.some_ (by omega)) (by omega))) ?_
              refine L.va rfl (X.fieldP rfl Try.underlying76 rfl sz_3 (by decide) (by first | exact Option.some_ne_none _ | exact hR6.some_ (by omega))) ?_
              refine L.va rfl (X.load rfl sc_3 (Ld.flat' am_len hR6 hxi (r := 0) rfl)) ?_
              refine L.va rfl (X.lss rfl rfl) ?_
              refine L.va rfl (X.pickF rfl (by conv => lhs; whnf)) ?_
              refine L.va rfl (X.move (by conv => lhs; whnf)) ?_
              -- case t91
              refine L.caseDec (k := 91) rfl (fun h4 => ?_) (fun h4 => ?_)
              · refine L.no rfl ?_
                refine L.no rfl ?_
                refine L.no rfl ?_
                refine L.no rfl ?_
                refine L.no rfl ?_
                refine L.no rfl ?_
                refine L.va rfl (X.pickT rfl (by conv => lhs; whnf)) ?_
                refine L.nil ?_
                -- cond
                refine J.iteT rfl ?_
                refine J.exit ?_
                refine J.region ?_
                refine L.va rfl (X.move (by conv => lhs; whnf)) ?_
                refine L.va rfl (X.add rfl rfl (by omega)) ?_
                refine L.va rfl (X.assign (by conv => lhs; whnf)) ?_
                refine L.nil ?_
                -- loopend
                refine ⟨(i + 1, (s, R), (rA, rc)), At1 (by first | rfl | exact at_int rfl (by omega) | exact at_slice rfl (by omega) | exact at_int rfl (by simp)), (by (iterate 32 refine Agr.lk rfl ?_); exact Agr.lk rfl (Agr.hav rfl Agr.rfl')), ?_⟩
                exact ⟨⟨by dsimp only; omega, F, hk6⟩, by dsimp only; omega⟩
              · refine L.va rfl (X.move (by conv => lhs; whnf)) ?_
                refine L.va rfl (X.move (by conv => lhs; whnf)) ?_
                refine L.va rfl ((by first | exact X.indexAddrn rfl rfl Try.underlying69 sz_76 (by first | exact Option.some_ne_none _ | exact hR6.some_ (by omega)) (by omega) | exact X.indexAddr rfl rfl Try.underlying69 sz_76 (by first | exact Option.some_ne_none _ | exact hR6.some_ (by omega)) (by omega))) ?_
                refine L.va rfl (X.fieldP rfl Try.underlying76 rfl sz_3 (by decide) (by first | exact Option.some_ne_none _ | exact hR6.some_ (by omega))) ?_
                refine L.va rfl (X.load rfl sc_3 (Ld.flat' am_len hR6 hxi (r := 0) rfl)) ?_
                refine L.va rfl (X.gtr rfl rfl) ?_
                refine L.va rfl (X.pickF rfl (by conv => lhs; whnf)) ?_
                refine L.nil ?_
                -- cond
                refine J.dec rfl (fun h5 => ?_) (fun h5 => ?_)
                · refine J.exit ?_
                  refine J.region ?_
                  refine L.va rfl (X.move (by conv => lhs; whnf)) ?_
                  refine L.va rfl (X.add rfl rfl (by omega)) ?_
                  refine L.va rfl (X.assign (by conv => lhs; whnf)) ?_
                  refine L.nil ?_
                  -- loopend
                  refine ⟨(i + 1, (s, R), (rA, rc)), At1 (by first | rfl | exact at_int rfl (by omega) | exact at_slice rfl (by omega) | exact at_int rfl (by simp)), (by (iterate 32 refine Agr.lk rfl ?_); exact Agr.lk rfl (Agr.hav rfl Agr.rfl')), ?_⟩
                  exact ⟨⟨by dsimp only; omega, F, hk6⟩, by dsimp only; omega⟩
                · refine J.skip ?_
                  -- cutend
                  refine ⟨(), At0 , (by (iterate 25 refine Agr.lk rfl ?_); exact Agr.rfl'), ?_⟩
                  exact ⟨rfl, by omega, by omega, by omega⟩
          · rintro ⟨⟩ g w7 ⟨rfl, hx200, ha0, ha2⟩
            have hNs := F.hs.nsz
            -- t103
            -- t118
            refine J.seq ?_
            refine J.region ?_
            refine L.va rfl (X.assign (by conv => lhs; whnf)) ?_
            refine L.va rfl (X.assign (by conv => lhs; whnf)) ?_
            refine L.nil ?_
            -- until
            refine J.cut (X := Sp) [12, 13, 99, 100, 101, 102, 103, 104, 105, 106, 107, 108, 109, 110, 111, 112, 113, 114, 115, 116, 117, 118, 119, 120, 121, 122, 123] (fun _ => [(12, .int .i64 (doF R x.a x.live).2.1), (13, .int .i64 (doF R x.a x.live).2.2)]) (fun u w' => u.At w0.heap.size w' ∧ u.d = s.d ∧ u.Is (doF R x.a x.live).1 ∧ Chg s.T w7 w' ∧ ∀ g, u.T g → s.T g ∨ w7.heap.size ≤ g) ?_ ?_
            · refine J.seq ?_
              refine J.region ?_
              refine L.va rfl (X.move (by conv => lhs; whnf)) ?_
              refine L.va rfl (X.move (by conv => lhs; whnf)) ?_
              refine L.va rfl ((by first | exact X.indexAddrn rfl rfl Try.underlying69 sz_76 (by first | exact Option.some_ne_none _ | exact hR6.some_ (by omega)) (by omega) | exact X.indexAddr rfl rfl Try.underlying69 sz_76 (by first | exact Option.some_ne_none _ | exact hR6.some_ (by omega)) (by omega))) ?_
              refine L.va rfl (X.fieldP rfl Try.underlying76 rfl sz_3 (by decide) (by first | exact Option.some_ne_none _ | exact hR6.some_ (by omega))) ?_
              refine L.va rfl (X.load rfl sc_3 (Ld.flat' am_len hR6 hxi (r := 0) rfl)) ?_
              refine L.nil ?_
              refine J.block ?_
              refine J.seq ?_
              refine J.region ?_
              refine L.va rfl (X.eql rfl rfl) ?_
              refine L.va rfl (X.assign (by conv => lhs; whnf)) ?_
              refine L.nil ?_
              -- cond
              refine J.dec rfl (fun k0 => ?_) (fun k0 => ?_)
              · have e0 : doF R x.a x.live = doF R 0 [] := by unfold doF; rw [if_pos k0, if_pos rfl]
                rw [e0]
                have cT := F.hs.take_ F.hi
                rw [hpt] at cT
                refine J.region ?_
                refine L.va rfl (X.move (by conv => lhs; whnf)) ?_
                -- callfn (*bushel/free.Space).Take
                refine L.call rfl en_35 rfl (cT) ?_
                rintro e w8 ⟨rfl, u, H', hd', I', K', T'⟩
                refine ⟨_, rfl, ?_⟩
                refine L.va rfl (X.move (by conv => lhs; whnf)) ?_
                refine L.va rfl (X.extract rfl rfl) ?_
                refine L.va rfl (X.extract rfl rfl) ?_
                refine L.va rfl (X.assign (by conv => lhs; whnf)) ?_
                refine L.va rfl (X.assign (by conv => lhs; whnf)) ?_
                refine L.nil ?_
                -- cutend
                refine ⟨u, At2 (rfl) (rfl), (by (iterate 14 refine Agr.lk rfl ?_); exact Agr.rfl'), ?_⟩
                exact ⟨H', hd', I', K', T'⟩
              · refine J.seq ?_
                refine J.region ?_
                refine L.va rfl (X.eql rfl rfl) ?_
                refine L.va rfl (X.assign (by conv => lhs; whnf)) ?_
                refine L.nil ?_
                -- cond
                refine J.dec rfl (fun k1 => ?_) (fun k1 => ?_)
                · have e0 : doF R x.a x.live = doF R 1 x.live := by rw [show x.a = 1 from k1]
                  have e1 : (doF R x.a x.live).2.1 = 0 := by
                    rw [e0]
                    unfold doF
                    rw [if_neg (by decide), if_neg (by decide)]
                    split <;> rfl
                  have cT := F.hs.keep_ F.hi x.lA x.ln x.lc x.live hxA.hl (by omega)
                  rw [hpt, ← e0] at cT
                  refine J.region ?_
                  refine L.va rfl (X.move (by conv => lhs; whnf)) ?_
                  refine L.va rfl (X.move (by conv => lhs; whnf)) ?_
                  refine L.va rfl (X.move (by conv => lhs; whnf)) ?_
                  refine L.va rfl ((by first | exact X.indexAddrn rfl rfl Try.underlying69 sz_76 (by first | exact Option.some_ne_none _ | exact hR6.some_ (by omega)) (by omega) | exact X.indexAddr rfl rfl Try.underlying69 sz_76 (by first | exact Option.some_ne_none _ | exact hR6.some_ (by omega)) (by omega))) ?_
                  refine L.va rfl (X.fieldP rfl Try.underlying76 rfl sz_62 (by decide) (by first | exact Option.some_ne_none _ | exact hR6.some_ (by omega))) ?_
                  refine L.va rfl (X.load rfl sc_62 (Ld.flat' am_len hR6 hxi (r := 1) rfl)) ?_
                  -- callfn (*bushel/free.Space).Keep
                  refine L.call rfl en_38 rfl (cT) ?_
                  rintro e w8 ⟨rfl, u, H', hd', I', K', T'⟩
                  refine ⟨_, rfl, ?_⟩
                  refine L.va rfl (X.assign (by conv => lhs; whnf)) ?_
                  refine L.nil ?_
                  -- cutend
                  refine ⟨u, At2 (at_int rfl e1.symm) (rfl), (by (iterate 17 refine Agr.lk rfl ?_); exact Agr.rfl'), ?_⟩
                  exact ⟨H', hd', I', K', T'⟩
                · have e0 : doF R x.a x.live = (dropR R, 0, 0) := by unfold doF; rw [if_neg k0, if_pos (by omega)]
                  rw [e0]
                  have cT := F.hs.drop_ F.hi
                  rw [hpt] at cT
                  refine J.seq ?_
                  refine J.region ?_
                  refine L.va rfl (X.eql rfl rfl) ?_
                  refine L.va rfl (X.assign (by conv => lhs; whnf)) ?_
                  refine L.nil ?_
                  -- cond
                  refine J.decT rfl (by omega) ?_
                  refine J.region ?_
                  refine L.va rfl (X.move (by conv => lhs; whnf)) ?_
                  -- callfn (*bushel/free.Space).Drop
                  refine L.call rfl en_39 rfl (cT) ?_
                  rintro e w8 ⟨rfl, u, H', hd', I', K', T'⟩
                  refine ⟨_, rfl, ?_⟩
                  refine L.nil ?_
                  -- cutend
                  refine ⟨u, At2 (rfl) (rfl), (by (iterate 13 refine Agr.lk rfl ?_); exact Agr.rfl'), ?_⟩
                  exact ⟨H', hd', I', K', T'⟩
            · rintro u g w8 ⟨H8, hd8, I8, K8, T8⟩
              have b8 := F.hs.below K8
              have he8 : Ext w0 w8 := Below.trans F.he b8
              have ho8 := K8.own F.ho F.hT
              have hk8 := K8.blk hk6 (F.hs.notT hk6 (by decide) (by decide))
              have hx8 := hx6.low b8
              have hR8 := hx8.hr
              have hxA8 := hxA.low b8
              have z8 := he8.le
              have zz := K8.size
              have hpu : u.ptr = .pointer (some ⟨d, 0, none⟩) := by unfold Sp.ptr; rw [hd8, F.hd]
              have hlen8 := doF_len R x.a x.live
              -- until
              refine J.cut (X := (Option Addr × Nat) × Nat) [14, 15, 16, 124, 125, 126, 127, 128, 129, 130, 131, 132, 133] (fun y => [(14, .pointer (some ⟨y.2, 0, none⟩)), (15, .int .i64 (doF R x.a x.live).2.1), (16, .int .i64 (doF R x.a x.live).2.2)]) (fun y w' => Blk w' y.2 71 #[.slice y.1.1 (doF R x.a x.live).1.length y.1.2] ∧ w'.ownsRow w0.heap.size 3 1 (.slice y.1.1 (doF R x.a x.live).1.length y.1.2) (doF R x.a x.live).1.length (nums .i64 (doF R x.a x.live).1) ∧ Ext w8 w' ∧ (∀ g, Value.ownBlock (.slice y.1.1 (doF R x.a x.live).1.length y.1.2) = some g → ¬ u.T g)) ?_ ?_
              · -- draw
                refine J.draw (ℓ := 1000000) (S := Ext w8) mixed (fun w9 hS hS_h => ?_)
                -- t125
                -- t129
                refine D.va 0 rfl (by kernel_rfl) (fun _ _ _ h => h) rfl (fun w' hw => X.loadAgg rfl (range_l (hk8.ext hw)) Try.underlying71 rfl (by kernel_rfl)) hS ?_
                refine D.va 1 rfl (by kernel_rfl) (fun _ _ _ h => h) rfl (fun w' hw => X.move (by conv => lhs; whnf)) hS ?_
                refine D.va 2 rfl (by kernel_rfl) (fun _ _ _ h => h) rfl (fun w' hw => X.move (by conv => lhs; whnf)) hS ?_
                refine D.va 3 rfl (by kernel_rfl) (fun _ _ _ h => h) rfl (fun w' hw => (by first | exact X.indexAddrn rfl rfl Try.underlying69 sz_76 (by first | exact Option.some_ne_none _ | exact (hR8.some_ (by omega))) (by omega) | exact X.indexAddr rfl rfl Try.underlying69 sz_76 (by first | exact Option.some_ne_none _ | exact (hR8.some_ (by omega))) (by omega))) hS ?_
                refine D.va 4 rfl (by kernel_rfl) (fun _ _ _ h => h) rfl (fun w' hw => X.loadRow (cs := x.vals) rfl (hR8.low (Below.mono hw z8) (Nat.le_refl _)) (fun r u hu => flat_row am_len hxi r u hu) (Nat.zero_lt_succ _) Try.underlying76 rfl (by kernel_rfl)) hS ?_
                refine D.two 5 10 (by kernel_rfl) rfl rfl ?_ ?_
                · have z49 := (hS).le
                  refine L.call rfl en_40 rfl ((rfdo rA rc R (ho8.ext hS) (by omega) (by rw [F.hq]; omega) x.a x.lA x.ln x.lc x.live ((hxA8.hl.low (Below.mono hS z8) (Nat.le_refl _)).more (by omega)) (by omega) hxA8.hb)) ?_
                  rintro e wA ⟨A', c', rfl, k1, k2, k3⟩
                  refine ⟨_, rfl, ?_⟩
                  have hS1 := (hS).trans k2
                  refine L.nil ?_
                  refine ⟨fun _ => hS1, ?_⟩
                  have k2 : Ext _ wA := k2
                  have k3 : ∀ g, Value.ownBlock (.slice A' (doF R x.a x.live).1.length c') = some g → Value.ownBlock (.slice rA R.length rc) = some g ∨ w8.heap.size ≤ g := fun g hg => (k3 g hg).imp id (fun hh => by omega)
                  try replace hkB := hkB.ext k2
                  refine D.va 6 rfl (by kernel_rfl) (fun _ _ _ h => h) rfl (fun w' hw => X.move (by conv => lhs; whnf)) hS1 ?_
                  refine D.va 7 rfl (by kernel_rfl) (fun _ _ _ h => h) rfl (fun w' hw => X.extract rfl rfl) hS1 ?_
                  refine D.va 8 rfl (by kernel_rfl) (fun _ _ _ h => h) rfl (fun w' hw => X.extract rfl rfl) hS1 ?_
                  refine D.va 9 rfl (by kernel_rfl) (fun _ _ _ h => h) rfl (fun w' hw => X.extract rfl rfl) hS1 ?_
                  have z11 := (hS1).le
                  refine D.one 10 (by kernel_rfl) rfl ?_
                  refine L.alloc rfl zr_71 ?_
                  intro bB wB hbB hsB hkB heB
                  have hS2 := (hS1).trans heB
                  refine L.nil ?_
                  refine ⟨fun _ => hS2, ?_⟩
                  try replace k1 := k1.ext heB
                  have hsz := (hS2).le
                  refine D.one 11 (by kernel_rfl) rfl ?_
                  refine L.storeAgg (vs := [_]) rfl rfl rfl rfl sz_71 (hkB) rfl ?_
                  intro wC hkC hgC hsC
                  have hS3 := (hS2).grw hgC (by intro g hg; injection hg with hg; omega)
                  refine L.nil ?_
                  refine ⟨fun _ => hS3, ?_⟩
                  have k1C := k1.kept hgC (.inr (own_blk_ne k1 hkB (by decide)))
                  refine D.va 12 rfl (by kernel_rfl) (fun _ _ _ h => h) rfl (fun w' hw => X.assign (by conv => lhs; whnf)) hS3 ?_
                  refine D.va 13 rfl (by kernel_rfl) (fun _ _ _ h => h) rfl (fun w' hw => X.assign (by conv => lhs; whnf)) hS3 ?_
                  refine D.done (by kernel_rfl) ?_
                  refine ⟨((A', c'), bB), At3 (by first | rfl | exact at_int rfl (by omega) | exact at_slice rfl (by omega) | exact at_int rfl (by simp)) (by first | rfl | exact at_int rfl (by omega) | exact at_slice rfl (by omega) | exact at_int rfl (by simp)) (by first | rfl | exact at_int rfl (by omega) | exact at_slice rfl (by omega) | exact at_int rfl (by simp)), (by (iterate 13 refine Agr.lk rfl ?_); exact Agr.rfl'), ?_⟩
                  refine ⟨hkC, k1C, hS3, fun g hg hh => ?_⟩
                  have k5 := (H8.tN g hh).2
                  rcases k3 g hg with k4 | k4
                  · rcases T8 g hh with k6 | k6
                    · exact F.hT g k4 k6
                    · have := (F.ho.lt g k4).2; omega
                  · omega
                · have z11 := (hS).le
                  refine L.alloc rfl zr_71 ?_
                  intro bB wB hbB hsB hkB heB
                  have hS1 := (hS).trans heB
                  refine L.nil ?_
                  refine ⟨fun _ => hS1, ?_⟩
                  try replace k1 := k1.ext heB
                  have z49 := (hS1).le
                  refine D.one 5 (by kernel_rfl) rfl ?_
                  refine L.call rfl en_40 rfl ((rfdo rA rc R (ho8.ext hS1) (by omega) (by rw [F.hq]; omega) x.a x.lA x.ln x.lc x.live ((hxA8.hl.low (Below.mono hS1 z8) (Nat.le_refl _)).more (by omega)) (by omega) hxA8.hb)) ?_
                  rintro e wA ⟨A', c', rfl, k1, k2, k3⟩
                  refine ⟨_, rfl, ?_⟩
                  have hS2 := (hS1).trans k2
                  refine L.nil ?_
                  refine ⟨fun _ => hS2, ?_⟩
                  have k2 : Ext _ wA := k2
                  have k3 : ∀ g, Value.ownBlock (.slice A' (doF R x.a x.live).1.length c') = some g → Value.ownBlock (.slice rA R.length rc) = some g ∨ w8.heap.size ≤ g := fun g hg => (k3 g hg).imp id (fun hh => by omega)
                  try replace hkB := hkB.ext k2
                  refine D.va 6 rfl (by kernel_rfl) (fun _ _ _ h => h) rfl (fun w' hw => X.move (by conv => lhs; whnf)) hS2 ?_
                  refine D.va 7 rfl (by kernel_rfl) (fun _ _ _ h => h) rfl (fun w' hw => X.extract rfl rfl) hS2 ?_
                  refine D.va 8 rfl (by kernel_rfl) (fun _ _ _ h => h) rfl (fun w' hw => X.extract rfl rfl) hS2 ?_
                  refine D.va 9 rfl (by kernel_rfl) (fun _ _ _ h => h) rfl (fun w' hw => X.extract rfl rfl) hS2 ?_
                  have hsz := (hS2).le
                  refine D.one 11 (by kernel_rfl) rfl ?_
                  refine L.storeAgg (vs := [_]) rfl rfl rfl rfl sz_71 (hkB) rfl ?_
                  intro wC hkC hgC hsC
                  have hS3 := (hS2).grw hgC (by intro g hg; injection hg with hg; omega)
                  refine L.nil ?_
                  refine ⟨fun _ => hS3, ?_⟩
                  have k1C := k1.kept hgC (.inr (own_blk_ne k1 hkB (by decide)))
                  refine D.va 12 rfl (by kernel_rfl) (fun _ _ _ h => h) rfl (fun w' hw => X.assign (by conv => lhs; whnf)) hS3 ?_
                  refine D.va 13 rfl (by kernel_rfl) (fun _ _ _ h => h) rfl (fun w' hw => X.assign (by conv => lhs; whnf)) hS3 ?_
                  refine D.done (by kernel_rfl) ?_
                  refine ⟨((A', c'), bB), At3 (by first | rfl | exact at_int rfl (by omega) | exact at_slice rfl (by omega) | exact at_int rfl (by simp)) (by first | rfl | exact at_int rfl (by omega) | exact at_slice rfl (by omega) | exact at_int rfl (by simp)) (by first | rfl | exact at_int rfl (by omega) | exact at_slice rfl (by omega) | exact at_int rfl (by simp)), (by (iterate 13 refine Agr.lk rfl ?_); exact Agr.rfl'), ?_⟩
                  refine ⟨hkC, k1C, hS3, fun g hg hh => ?_⟩
                  have k5 := (H8.tN g hh).2
                  rcases k3 g hg with k4 | k4
                  · rcases T8 g hh with k6 | k6
                    · exact F.hT g k4 k6
                    · have := (F.ho.lt g k4).2; omega
                  · omega
              · rintro ⟨⟨A', c'⟩, b14⟩ g w9 ⟨hk9, ho9, he9, hT9⟩
                dsimp only at hk9 ho9 hT9
                have he9 : Ext w8 w9 := he9
                have hk89 := hk8.ext he9
                have H9 := H8.ext he9
                have z9 := he9.le
                refine J.seq ?_
                refine J.region ?_
                refine L.va rfl ((by first | exact X.loadAgg rfl (range_l hk9) Try.underlying71 rfl (by kernel_rfl) | exact X.loadAgg rfl (range_blk hk9) Try.underlying71 rfl (by kernel_rfl))) ?_
                -- store
                refine L.storeAgg (vs := [_]) rfl rfl rfl rfl sz_71 (hk89) rfl ?_
                intro w10 hk10 hg10 hs10
                have hk10 : Blk w10 b9 71 #[.slice A' (doF R x.a x.live).1.length c'] := hk10
                have zb9 : w0.heap.size ≤ b9 := by have := (he1.trans he2).le; omega
                have H10 : u.At w0.heap.size w10 := by
                  have hne : ∀ {t : Nat} {cs : Array Value} {gg : Nat}, Blk w9 gg t cs → t ≠ 71 → some gg ≠ some b9 := fun hb ht e => by
                    injection e with e
                    subst e
                    have e := hb.symm.trans hk89
                    injection e with e
                    injection e with _ e
                    exact ht e
                  exact ⟨H9.hb.grown hg10 (hne H9.hb (by decide)), H9.hk.kept hg10 (.inr (own_blk_ne H9.hk hk89 (by decide))), H9.hf.kept hg10 (.inr (own_blk_ne H9.hf hk89 (by decide))), H9.hne, H9.hN, H9.hl, H9.hfl⟩
                have ho10 := ho9.kept hg10 (.inr (own_blk_ne ho9 hk89 (by decide)))
                have he10 : Ext w0 w10 := (he8.trans he9).grw hg10 (by intro g hg; injection hg with hg; omega)
                have F10 : Fq u (doF R x.a x.live).1 A' c' w0.heap.size q d w0 w10 := ⟨H10, I8, hd8.trans F.hd, ho10, hT9, hlen8.trans F.hq, he10⟩
                have cI := fis H10 I8 A' c' ho10
                rw [hpu] at cI
                refine L.nil ?_
                refine J.seq ?_
                refine J.region ?_
                refine L.va rfl (X.move (by conv => lhs; whnf)) ?_
                refine L.va rfl (X.move (by conv => lhs; whnf)) ?_
                refine L.va rfl (X.neq rfl rfl) ?_
                refine L.va rfl (X.move (by conv => lhs; whnf)) ?_
                -- case t138
                refine L.caseNdecF (k := 138) rfl (by exact rfl) ?_
                refine L.va rfl (X.move (by conv => lhs; whnf)) ?_
                refine L.va rfl (X.move (by conv => lhs; whnf)) ?_
                refine L.va rfl (X.neq rfl rfl) ?_
                refine L.va rfl (X.pickF rfl (by conv => lhs; whnf)) ?_
                refine L.va rfl (X.move (by conv => lhs; whnf)) ?_
                -- case t143
                refine L.caseNdecF (k := 143) rfl (by exact rfl) ?_
                refine L.va rfl (X.move (by conv => lhs; whnf)) ?_
                refine L.va rfl ((by first | exact X.loadAgg rfl (range_l hk10) Try.underlying71 rfl (by kernel_rfl) | exact X.loadAgg rfl (range_blk hk10) Try.underlying71 rfl (by kernel_rfl))) ?_
                -- callfn bushel/bushellaw24.is
                refine L.call rfl en_37 rfl (cI) ?_
                rintro e w11 ⟨rfl, he11⟩
                refine ⟨_, rfl, ?_⟩
                have he11 : Ext w10 w11 := he11
                refine L.va rfl (X.not rfl) ?_
                refine L.va rfl (X.pickF rfl (by conv => lhs; whnf)) ?_
                refine L.nil ?_
                -- cond
                refine J.iteF rfl ?_
                refine J.skip ?_
                refine J.region ?_
                refine L.va rfl (X.move (by conv => lhs; whnf)) ?_
                refine L.va rfl (X.add rfl rfl (by omega)) ?_
                refine L.va rfl (X.assign (by conv => lhs; whnf)) ?_
                refine L.nil ?_
                -- loopend
                refine ⟨(i + 1, (u, (doF R x.a x.live).1), (A', c')), At1 (by first | rfl | exact at_int rfl (by omega) | exact at_slice rfl (by omega) | exact at_int rfl (by simp)), (by (iterate 20 refine Agr.lk rfl ?_); refine Agr.lk rfl ?_; refine Agr.hav rfl ?_; refine Agr.lk rfl ?_; refine Agr.hav rfl ?_; (iterate 2 refine Agr.lk rfl ?_); refine Agr.lk rfl ?_; refine Agr.hav rfl ?_; (iterate 4 refine Agr.lk rfl ?_); exact Agr.lk rfl (Agr.hav rfl Agr.rfl')), ?_⟩
                exact ⟨⟨by dsimp only; omega, F10.ext he11, hk10.ext he11⟩, by dsimp only; omega⟩
        · skip
          refine J.exit ?_
          refine J.seq ?_
          refine J.region ?_
          -- callfn bushel/bushellaw24.awake
          refine L.call rfl en_32 rfl (awake24 w6) ?_
          rintro e w7 ⟨rfl, he7⟩
          refine ⟨_, rfl, ?_⟩
          refine L.va rfl (X.assign (by conv => lhs; whnf)) ?_
          refine L.nil ?_
          -- ret
          refine J.ret ?_
          refine fin1 ?_
          exact ⟨rfl, F.he.trans he7⟩
end Go.Proofs.Ytdmfikedojgjbaa
