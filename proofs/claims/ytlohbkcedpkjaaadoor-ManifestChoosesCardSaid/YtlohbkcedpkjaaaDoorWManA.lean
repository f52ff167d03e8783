/-
  Manifests in memory; which may be.
-/
import Derived.Test.YtlohbkcedpkjaaaDoorManPlain
import Derived.Test.YtlohbkcedpkjaaaDoorAux
import Derived.Test.YtlohbkcedpkjaaaDoorLogic
namespace Go.Proofs.YtlohbkcedpkjaaaDoor
set_option maxRecDepth 100000
open Go.RowKit H
set_option linter.unusedVariables false
namespace H
theorem Ld.flat2 {X : Type} {f : X → List Value} {sz B n : Nat} {A : Option Addr} {w : World} {l : List X} (hf : ∀ x, (f x).length = sz) (h : Reads w B sz A n (l.flatMap f)) {i : Nat} {x : X} (hi : l[i]? = some x) {r : Nat} {u : Value} (hu : (f x)[r]? = some u) : Ld w (pA A (i * sz + r)) u := by
  have h2 := flat_row hf hi r u hu
  have hj : i * sz + r < n * sz := by rw [← h.1]; exact (List.getElem?_eq_some_iff.1 h2).1
  have h1 := Ld.rd h hj
  rw [List.getD, h2] at h1
  exact h1
end H
namespace Man
abbrev rV (r : Int × Int) : List Value := [.int .i64 r.1, .int .i64 r.2]
theorem rV_len (r : Int × Int) : (rV r).length = 2 := rfl
abbrev vs (m : M) (A : Option Addr) (c : Nat) : List Value := [.int .u64 m.v, .int .u64 m.e, .int .u64 m.b, .int .i64 m.s, .slice A m.r.length c]
abbrev val (m : M) (A : Option Addr) (c : Nat) : Value := .agg (vs m A c).toArray
theorem may_no1 {m : M} (h : m.v = 0 ∨ m.s < 1 ∨ 8192 < m.s ∨ (m.r.length : Int) < 1 ∨ 16 < (m.r.length : Int)) : decide (may m) = false := decide_eq_false (by rintro ⟨h1, h2, h3, h4, h5, h6⟩; omega)
theorem may_no2 {m : M} {x : Int × Int} (hi : x ∈ m.r) (h : ¬ okR x) : decide (may m) = false := decide_eq_false (fun hm => h (hm.2.2.2.2.2 x hi))
theorem may_yes {m : M} (h1 : ¬ m.v = 0) (h2 : ¬ m.s < 1) (h3 : ¬ 8192 < m.s) (h4 : ¬ (m.r.length : Int) < 1) (h5 : ¬ 16 < (m.r.length : Int)) (h : ∀ (i : Nat) x, m.r[i]? = some x → okR x) : decide (may m) = true :=
  decide_eq_true ⟨h1, by omega, by omega, by omega, by omega, fun r hr => by obtain ⟨i, hi, rfl⟩ := List.getElem_of_mem hr; exact h i _ (List.getElem?_eq_getElem hi)⟩
theorem okR_no {x : Int × Int} (h : x.1 < 0 ∨ 8192 < x.1 ∨ x.2 < 0 ∨ 2147483647 < x.2 ∨ 2147483648 ≤ x.2) : ¬ okR x := by rintro ⟨h1, h2, h3, h4, h5⟩; omega
theorem okR_no5 {x : Int × Int} (h : (!(decide (x.1 = 0) == decide (x.2 = 0))) = true) : ¬ okR x := by
  rintro ⟨h1, h2, h3, h4, h5⟩
  by_cases a : x.1 = 0 <;> by_cases b : x.2 = 0 <;> simp [a, b] at h <;> simp [a, b] at h5
theorem okR_yes {x : Int × Int} (h1 : ¬ x.1 < 0) (h2 : ¬ 8192 < x.1) (h3 : ¬ x.2 < 0) (h4 : ¬ 2147483647 < x.2) (h5 : (!(decide (x.1 = 0) == decide (x.2 = 0))) = false) : okR x := by
  refine ⟨by omega, by omega, by omega, by omega, ?_⟩
  by_cases a : x.1 = 0 <;> by_cases b : x.2 = 0 <;> simp [a, b] at h5 ⊢
theorem may_ {w : World} {N : Nat} (m : M) (A : Option Addr) (c : Nat) (hr : Reads w N 2 A m.r.length (m.r.flatMap rV)) (hN : N ≤ w.heap.size) (h0 : 0 ≤ m.v) (hm : m.r.length ≤ 1000000) :
    Calls Tryd.prog 30 #[val m A c] w fun e w' => e = .returned (.bool (decide (may m))) ∧ Ext w w' := by
  refine enter Tryd.func30 rfl (by kernel_rfl) ?_
  refine J.seq ?_
  refine J.region ?_
  -- box
  refine L.boxA (l := [_, _, _, _, _]) rfl rfl ?_
  intro b1 w1 hb1 hs1 hk1 he1
  have hr1 := hr.low (Below.mono he1 hN) (Nat.le_refl _)
  refine L.va rfl (X.assign (by conv => lhs; whnf)) ?_
  refine L.nil ?_
  refine J.seq ?_
  refine J.seq ?_
  refine J.region ?_
  refine L.va rfl (X.fieldAddr rfl Tryd.underlying30 rfl sz_22 (by decide)) ?_
  refine L.va rfl (X.load rfl sc_22 (by first | exact Ld.blk hk1 rfl)) ?_
  refine L.va rfl (X.lss rfl rfl) ?_
  refine L.va rfl (X.move (by conv => lhs; whnf)) ?_
  -- case t8
  refine L.caseDec (k := 8) rfl (fun h1 => ?_) (fun h1 => ?_)
  · refine L.no rfl ?_
    refine L.no rfl ?_
    refine L.no rfl ?_
    refine L.va rfl (X.pickT rfl (by conv => lhs; whnf)) ?_
    refine L.va rfl (X.move (by conv => lhs; whnf)) ?_
    refine L.no rfl ?_
    refine L.no rfl ?_
    refine L.no rfl ?_
    refine L.va rfl (X.pickT rfl (by conv => lhs; whnf)) ?_
    refine L.va rfl (X.move (by conv => lhs; whnf)) ?_
    refine L.no rfl ?_
    refine L.no rfl ?_
    refine L.no rfl ?_
    refine L.no rfl ?_
    refine L.va rfl (X.pickT rfl (by conv => lhs; whnf)) ?_
    refine L.va rfl (X.move (by conv => lhs; whnf)) ?_
    refine L.no rfl ?_
    refine L.no rfl ?_
    refine L.no rfl ?_
    refine L.no rfl ?_
    refine L.va rfl (X.pickT rfl (by conv => lhs; whnf)) ?_
    refine L.nil ?_
    -- cond
    refine J.iteT rfl ?_
    rw [may_no1 (by have := h1; omega)]
    refine J.seq ?_
    refine J.region ?_
    refine L.va rfl (X.assign (by conv => lhs; whnf)) ?_
    refine L.nil ?_
    -- ret
    refine J.ret ?_
    refine thn_ret <| ?_
    refine fin1 ?_
    exact ⟨rfl, he1⟩
  refine L.va rfl (X.fieldAddr rfl Tryd.underlying30 rfl sz_3 (by decide)) ?_
  refine L.va rfl (X.load rfl sc_3 (by first | exact Ld.blk hk1 rfl)) ?_
  refine L.va rfl (X.lss rfl rfl) ?_
  refine L.va rfl (X.pickF rfl (by conv => lhs; whnf)) ?_
  refine L.va rfl (X.move (by conv => lhs; whnf)) ?_
  -- case t13
  refine L.caseDec (k := 13) rfl (fun h2 => ?_) (fun h2 => ?_)
  · refine L.no rfl ?_
    refine L.no rfl ?_
    refine L.no rfl ?_
    refine L.va rfl (X.pickT rfl (by conv => lhs; whnf)) ?_
    refine L.va rfl (X.move (by conv => lhs; whnf)) ?_
    refine L.no rfl ?_
    refine L.no rfl ?_
    refine L.no rfl ?_
    refine L.no rfl ?_
    refine L.va rfl (X.pickT rfl (by conv => lhs; whnf)) ?_
    refine L.va rfl (X.move (by conv => lhs; whnf)) ?_
    refine L.no rfl ?_
    refine L.no rfl ?_
    refine L.no rfl ?_
    refine L.no rfl ?_
    refine L.va rfl (X.pickT rfl (by conv => lhs; whnf)) ?_
    refine L.nil ?_
    -- cond
    refine J.iteT rfl ?_
    rw [may_no1 (by have := h2; omega)]
    refine J.seq ?_
    refine J.region ?_
    refine L.va rfl (X.assign (by conv => lhs; whnf)) ?_
    refine L.nil ?_
    -- ret
    refine J.ret ?_
    refine thn_ret <| ?_
    refine fin1 ?_
    exact ⟨rfl, he1⟩
  refine L.va rfl (X.fieldAddr rfl Tryd.underlying30 rfl sz_3 (by decide)) ?_
  refine L.va rfl (X.load rfl sc_3 (by first | exact Ld.blk hk1 rfl)) ?_
  refine L.va rfl (X.gtr rfl rfl) ?_
  refine L.va rfl (X.pickF rfl (by conv => lhs; whnf)) ?_
  refine L.va rfl (X.move (by conv => lhs; whnf)) ?_
  -- case t18
  refine L.caseDec (k := 18) rfl (fun h3 => ?_) (fun h3 => ?_)
  · refine L.no rfl ?_
    refine L.no rfl ?_
    refine L.no rfl ?_
    refine L.no rfl ?_
    refine L.va rfl (X.pickT rfl (by conv => lhs; whnf)) ?_
    refine L.va rfl (X.move (by conv => lhs; whnf)) ?_
    refine L.no rfl ?_
    refine L.no rfl ?_
    refine L.no rfl ?_
    refine L.no rfl ?_
    refine L.va rfl (X.pickT rfl (by conv => lhs; whnf)) ?_
    refine L.nil ?_
    -- cond
    refine J.iteT rfl ?_
    rw [may_no1 (by have := h3; omega)]
    refine J.seq ?_
    refine J.region ?_
    refine L.va rfl (X.assign (by conv => lhs; whnf)) ?_
    refine L.nil ?_
    -- ret
    refine J.ret ?_
    refine thn_ret <| ?_
    refine fin1 ?_
    exact ⟨rfl, he1⟩
  refine L.va rfl (X.fieldAddr rfl Tryd.underlying30 rfl sz_28 (by decide)) ?_
  refine L.va rfl (X.load rfl sc_28 (by first | exact Ld.blk hk1 rfl)) ?_
  refine L.va rfl (X.len rfl Tryd.underlying28) ?_
  refine L.va rfl (X.lss rfl rfl) ?_
  refine L.va rfl (X.pickF rfl (by conv => lhs; whnf)) ?_
  refine L.va rfl (X.move (by conv => lhs; whnf)) ?_
  -- case t24
  refine L.caseDec (k := 24) rfl (fun h4 => ?_) (fun h4 => ?_)
  · refine L.no rfl ?_
    refine L.no rfl ?_
    refine L.no rfl ?_
    refine L.no rfl ?_
    refine L.va rfl (X.pickT rfl (by conv => lhs; whnf)) ?_
    refine L.nil ?_
    -- cond
    refine J.iteT rfl ?_
    rw [may_no1 (by have := h4; omega)]
    refine J.seq ?_
    refine J.region ?_
    refine L.va rfl (X.assign (by conv => lhs; whnf)) ?_
    refine L.nil ?_
    -- ret
    refine J.ret ?_
    refine thn_ret <| ?_
    refine fin1 ?_
    exact ⟨rfl, he1⟩
  refine L.va rfl (X.fieldAddr rfl Tryd.underlying30 rfl sz_28 (by decide)) ?_
  refine L.va rfl (X.load rfl sc_28 (by first | exact Ld.blk hk1 rfl)) ?_
  refine L.va rfl (X.len rfl Tryd.underlying28) ?_
  refine L.va rfl (X.gtr rfl rfl) ?_
  refine L.va rfl (X.pickF rfl (by conv => lhs; whnf)) ?_
  refine L.nil ?_
  -- cond
  refine J.dec rfl (fun h5 => ?_) (fun h5 => ?_)
  · rw [may_no1 (by have := h5; omega)]
    refine J.seq ?_
    refine J.region ?_
    refine L.va rfl (X.assign (by conv => lhs; whnf)) ?_
    refine L.nil ?_
    -- ret
    refine J.ret ?_
    refine thn_ret <| ?_
    refine fin1 ?_
    exact ⟨rfl, he1⟩
  refine J.skip ?_
  refine J.seq ?_
  refine J.seq ?_
  refine J.region ?_
  refine L.va rfl (X.fieldAddr rfl Tryd.underlying30 rfl sz_28 (by decide)) ?_
  refine L.va rfl (X.load rfl sc_28 (by first | exact Ld.blk hk1 rfl)) ?_
  refine L.va rfl (X.len rfl Tryd.underlying28) ?_
  refine L.va rfl (X.move (by conv => lhs; whnf)) ?_
  refine L.nil ?_
  refine J.block ?_
  -- loop
  refine J.loop (X := Nat) [2, 4, 33, 34, 35, 36, 37, 38, 39, 40, 41, 42, 43, 44, 45, 46, 47, 48, 49, 50, 51, 52, 53, 54, 55, 56, 57, 58, 59, 60, 61, 62, 63, 64] (fun i => [(33, .int .i64 (i : Int))]) (fun i w' => i ≤ m.r.length ∧ Ext w1 w' ∧ ∀ j x, j < i → m.r[j]? = some x → okR x) (fun i => m.r.length - i) (0) (At1 (by first | rfl | exact at_int rfl (by omega) | exact at_slice rfl (by omega) | exact at_int rfl (by simp))) ?_ ?_
  · exact ⟨Nat.zero_le _, Ext.refl _, fun j x hj => by omega⟩
  · rintro i g w2 ⟨hi, he, hall⟩
    have hr2 := hr1.low (Below.mono he (by have := he1.le; omega)) (Nat.le_refl _)
    have z := he.le
    have hk2 := hk1.ext he
    have z1 := he1.le
    refine J.seq ?_
    refine J.region ?_
    refine L.va rfl (X.lss rfl rfl) ?_
    refine L.nil ?_
    refine J.seq ?_
    -- cond
    refine J.dec rfl (fun hlt => ?_) (fun hlt => ?_)
    · have hil : i < m.r.length := by omega
      have hA := hr2.some_ (by omega)
      obtain ⟨x, hx⟩ : ∃ x, m.r[i]? = some x := ⟨_, List.getElem?_eq_getElem hil⟩
      have hxm : x ∈ m.r := List.mem_of_getElem? hx
      -- t36
      refine J.skip ?_
      refine J.seq ?_
      refine J.block ?_
      refine J.seq ?_
      refine J.region ?_
      refine L.va rfl ((by first | exact X.indexAddrn rfl rfl Tryd.underlying28 sz_59 (by first | exact Option.some_ne_none _ | exact hA) (by omega) | exact X.indexAddr rfl rfl Tryd.underlying28 sz_59 (by first | exact Option.some_ne_none _ | exact hA) (by omega))) ?_
      refine L.va rfl (X.loadRow (cs := rV x) rfl hr2 (fun r u hu => flat_row rV_len hx r u hu) (Nat.zero_lt_succ _) Tryd.underlying59 rfl (by kernel_rfl)) ?_
      -- alloc
      refine L.alloc rfl zr_59 ?_
      intro b3 w3 hb3 hs3 hk3 he3
      -- store
      refine L.storeAgg (vs := [_, _]) rfl rfl rfl rfl sz_59 (hk3) rfl ?_
      intro w4 hk4 hg4 hs4
      have he4 : Ext w1 w4 := (he.trans he3).grw hg4 (by intro g hg; injection hg with hg; omega)
      have hk4 : Blk w4 b3 59 #[.int .i64 x.1, .int .i64 x.2] := hk4
      refine L.nil ?_
      refine J.seq ?_
      refine J.region ?_
      refine L.va rfl (X.fieldAddr rfl Tryd.underlying59 rfl sz_3 (by decide)) ?_
      refine L.va rfl (X.load rfl sc_3 (by first | exact Ld.blk hk4 rfl | exact hA)) ?_
      refine L.va rfl (X.lss rfl rfl) ?_
      refine L.va rfl (X.move (by conv => lhs; whnf)) ?_
      -- case t40
      refine L.caseDec (k := 40) rfl (fun g1 => ?_) (fun g1 => ?_)
      · refine L.no rfl ?_
        refine L.no rfl ?_
        refine L.no rfl ?_
        refine L.va rfl (X.pickT rfl (by conv => lhs; whnf)) ?_
        refine L.va rfl (X.move (by conv => lhs; whnf)) ?_
        refine L.no rfl ?_
        refine L.no rfl ?_
        refine L.no rfl ?_
        refine L.va rfl (X.pickT rfl (by conv => lhs; whnf)) ?_
        refine L.va rfl (X.move (by conv => lhs; whnf)) ?_
        refine L.no rfl ?_
        refine L.no rfl ?_
        refine L.no rfl ?_
        refine L.va rfl (X.pickT rfl (by conv => lhs; whnf)) ?_
        refine L.va rfl (X.move (by conv => lhs; whnf)) ?_
        refine L.no rfl ?_
        refine L.no rfl ?_
        refine L.no rfl ?_
        refine L.no rfl ?_
        refine L.no rfl ?_
        refine L.no rfl ?_
        refine L.no rfl ?_
        refine L.va rfl (X.pickT rfl (by conv => lhs; whnf)) ?_
        refine L.nil ?_
        -- cond
        refine J.iteT rfl ?_
        rw [may_no2 hxm (by first | exact okR_no5 g1 | exact okR_no (by have := g1; omega))]
        refine J.seq ?_
        refine J.region ?_
        refine L.va rfl (X.assign (by conv => lhs; whnf)) ?_
        refine L.nil ?_
        -- ret
        refine J.ret ?_
        refine inB_ret <|  thn_ret <|  thn_ret <|  inB_ret <|  thn_ret <| ?_
        refine fin1 ?_
        exact ⟨rfl, he1.trans he4⟩
      refine L.va rfl (X.fieldAddr rfl Tryd.underlying59 rfl sz_3 (by decide)) ?_
      refine L.va rfl (X.load rfl sc_3 (by first | exact Ld.blk hk4 rfl | exact hA)) ?_
      refine L.va rfl (X.gtr rfl rfl) ?_
      refine L.va rfl (X.pickF rfl (by conv => lhs; whnf)) ?_
      refine L.va rfl (X.move (by conv => lhs; whnf)) ?_
      -- case t45
      refine L.caseDec (k := 45) rfl (fun g2 => ?_) (fun g2 => ?_)
      · refine L.no rfl ?_
        refine L.no rfl ?_
        refine L.no rfl ?_
        refine L.va rfl (X.pickT rfl (by conv => lhs; whnf)) ?_
        refine L.va rfl (X.move (by conv => lhs; whnf)) ?_
        refine L.no rfl ?_
        refine L.no rfl ?_
        refine L.no rfl ?_
        refine L.va rfl (X.pickT rfl (by conv => lhs; whnf)) ?_
        refine L.va rfl (X.move (by conv => lhs; whnf)) ?_
        refine L.no rfl ?_
        refine L.no rfl ?_
        refine L.no rfl ?_
        refine L.no rfl ?_
        refine L.no rfl ?_
        refine L.no rfl ?_
        refine L.no rfl ?_
        refine L.va rfl (X.pickT rfl (by conv => lhs; whnf)) ?_
        refine L.nil ?_
        -- cond
        refine J.iteT rfl ?_
        rw [may_no2 hxm (by first | exact okR_no5 g2 | exact okR_no (by have := g2; omega))]
        refine J.seq ?_
        refine J.region ?_
        refine L.va rfl (X.assign (by conv => lhs; whnf)) ?_
        refine L.nil ?_
        -- ret
        refine J.ret ?_
        refine inB_ret <|  thn_ret <|  thn_ret <|  inB_ret <|  thn_ret <| ?_
        refine fin1 ?_
        exact ⟨rfl, he1.trans he4⟩
      refine L.va rfl (X.fieldAddr rfl Tryd.underlying59 rfl sz_3 (by decide)) ?_
      refine L.va rfl (X.load rfl sc_3 (by first | exact Ld.blk hk4 rfl | exact hA)) ?_
      refine L.va rfl (X.lss rfl rfl) ?_
      refine L.va rfl (X.pickF rfl (by conv => lhs; whnf)) ?_
      refine L.va rfl (X.move (by conv => lhs; whnf)) ?_
      -- case t50
      refine L.caseDec (k := 50) rfl (fun g3 => ?_) (fun g3 => ?_)
      · refine L.no rfl ?_
        refine L.no rfl ?_
        refine L.no rfl ?_
        refine L.va rfl (X.pickT rfl (by conv => lhs; whnf)) ?_
        refine L.va rfl (X.move (by conv => lhs; whnf)) ?_
        refine L.no rfl ?_
        refine L.no rfl ?_
        refine L.no rfl ?_
        refine L.no rfl ?_
        refine L.no rfl ?_
        refine L.no rfl ?_
        refine L.no rfl ?_
        refine L.va rfl (X.pickT rfl (by conv => lhs; whnf)) ?_
        refine L.nil ?_
        -- cond
        refine J.iteT rfl ?_
        rw [may_no2 hxm (by first | exact okR_no5 g3 | exact okR_no (by have := g3; omega))]
        refine J.seq ?_
        refine J.region ?_
        refine L.va rfl (X.assign (by conv => lhs; whnf)) ?_
        refine L.nil ?_
        -- ret
        refine J.ret ?_
        refine inB_ret <|  thn_ret <|  thn_ret <|  inB_ret <|  thn_ret <| ?_
        refine fin1 ?_
        exact ⟨rfl, he1.trans he4⟩
      refine L.va rfl (X.fieldAddr rfl Tryd.underlying59 rfl sz_3 (by decide)) ?_
      refine L.va rfl (X.load rfl sc_3 (by first | exact Ld.blk hk4 rfl | exact hA)) ?_
      refine L.va rfl (X.gtr rfl rfl) ?_
      refine L.va rfl (X.pickF rfl (by conv => lhs; whnf)) ?_
      refine L.va rfl (X.move (by conv => lhs; whnf)) ?_
      -- case t55
      refine L.caseDec (k := 55) rfl (fun g4 => ?_) (fun g4 => ?_)
      · refine L.no rfl ?_
        refine L.no rfl ?_
        refine L.no rfl ?_
        refine L.no rfl ?_
        refine L.no rfl ?_
        refine L.no rfl ?_
        refine L.no rfl ?_
        refine L.va rfl (X.pickT rfl (by conv => lhs; whnf)) ?_
        refine L.nil ?_
        -- cond
        refine J.iteT rfl ?_
        rw [may_no2 hxm (by first | exact okR_no5 g4 | exact okR_no (by have := g4; omega))]
        refine J.seq ?_
        refine J.region ?_
        refine L.va rfl (X.assign (by conv => lhs; whnf)) ?_
        refine L.nil ?_
        -- ret
        refine J.ret ?_
        refine inB_ret <|  thn_ret <|  thn_ret <|  inB_ret <|  thn_ret <| ?_
        refine fin1 ?_
        exact ⟨rfl, he1.trans he4⟩
      refine L.va rfl (X.fieldAddr rfl Tryd.underlying59 rfl sz_3 (by decide)) ?_
      refine L.va rfl (X.load rfl sc_3 (by first | exact Ld.blk hk4 rfl | exact hA)) ?_
      refine L.va rfl (X.eql rfl rfl) ?_
      refine L.va rfl (X.fieldAddr rfl Tryd.underlying59 rfl sz_3 (by decide)) ?_
      refine L.va rfl (X.load rfl sc_3 (by first | exact Ld.blk hk4 rfl | exact hA)) ?_
      refine L.va rfl (X.eql rfl rfl) ?_
      refine L.va rfl (X.neqB rfl rfl Tryd.underlying4) ?_
      refine L.va rfl (X.pickF rfl (by conv => lhs; whnf)) ?_
      refine L.nil ?_
      -- cond
      refine J.ite rfl (fun g5 => ?_) (fun g5 => ?_)
      · rw [may_no2 hxm (by first | exact okR_no5 g5 | exact okR_no (by have := g5; omega))]
        refine J.seq ?_
        refine J.region ?_
        refine L.va rfl (X.assign (by conv => lhs; whnf)) ?_
        refine L.nil ?_
        -- ret
        refine J.ret ?_
        refine inB_ret <|  thn_ret <|  thn_ret <|  inB_ret <|  thn_ret <| ?_
        refine fin1 ?_
        exact ⟨rfl, he1.trans he4⟩
      refine J.skip ?_
      refine J.region ?_
      refine L.va rfl (X.add rfl rfl (by omega)) ?_
      refine L.va rfl (X.move (by conv => lhs; whnf)) ?_
      refine L.nil ?_
      -- loopend
      refine ⟨i + 1, At1 (by first | rfl | exact at_int rfl (by omega) | exact at_slice rfl (by omega) | exact at_int rfl (by simp)), (by (iterate 37 refine Agr.lk rfl ?_); exact Agr.lk rfl (Agr.hav rfl Agr.rfl')), ?_⟩
      refine ⟨⟨by omega, he4, fun j y hj hy => ?_⟩, by omega⟩
      rcases Nat.lt_or_ge j i with h | h
      · exact hall j y h hy
      · obtain rfl : j = i := by omega
        rw [hx] at hy
        injection hy with hy
        subst hy
        exact okR_yes g1 g2 g3 g4 g5
    · rw [may_yes (by omega) h2 h3 h4 h5 (fun j x hj => hall j x (by have := (List.getElem?_eq_some_iff.1 hj).1; omega) hj)]
      refine J.exit ?_
      refine J.seq ?_
      refine J.region ?_
      refine L.va rfl (X.assign (by conv => lhs; whnf)) ?_
      refine L.nil ?_
      -- ret
      refine J.ret ?_
      refine fin1 ?_
      exact ⟨rfl, he1.trans he⟩
theorem rmay_ {w : World} {N : Nat} (m : M) (A : Option Addr) (c : Nat) (hr : Reads w N 2 A m.r.length (m.r.flatMap rV)) (hN : N ≤ w.heap.size) (h0 : 0 ≤ m.v) (hm : m.r.length ≤ 1000000) :
    Calls Tryd.prog 13 #[val m A c] w fun e w' => e = .returned (.bool (decide (may m))) ∧ Ext w w' := by
  refine enter Tryd.func13 rfl (by kernel_rfl) ?_
  refine J.seq ?_
  refine J.region ?_
  -- box
  refine L.boxA (l := [_, _, _, _, _]) rfl rfl ?_
  intro b1 w1 hb1 hs1 hk1 he1
  have hr1 := hr.low (Below.mono he1 hN) (Nat.le_refl _)
  refine L.va rfl (X.assign (by conv => lhs; whnf)) ?_
  refine L.nil ?_
  refine J.seq ?_
  refine J.seq ?_
  refine J.region ?_
  refine L.va rfl (X.fieldAddr rfl Tryd.underlying30 rfl sz_22 (by decide)) ?_
  refine L.va rfl (X.load rfl sc_22 (by first | exact Ld.blk hk1 rfl)) ?_
  refine L.va rfl (X.eql rfl rfl) ?_
  refine L.va rfl (X.move (by conv => lhs; whnf)) ?_
  -- case t8
  refine L.caseDec (k := 8) rfl (fun h1 => ?_) (fun h1 => ?_)
  · refine L.no rfl ?_
    refine L.no rfl ?_
    refine L.no rfl ?_
    refine L.va rfl (X.pickT rfl (by conv => lhs; whnf)) ?_
    refine L.va rfl (X.move (by conv => lhs; whnf)) ?_
    refine L.no rfl ?_
    refine L.no rfl ?_
    refine L.no rfl ?_
    refine L.va rfl (X.pickT rfl (by conv => lhs; whnf)) ?_
    refine L.va rfl (X.move (by conv => lhs; whnf)) ?_
    refine L.no rfl ?_
    refine L.no rfl ?_
    refine L.no rfl ?_
    refine L.no rfl ?_
    refine L.va rfl (X.pickT rfl (by conv => lhs; whnf)) ?_
    refine L.va rfl (X.move (by conv => lhs; whnf)) ?_
    refine L.no rfl ?_
    refine L.no rfl ?_
    refine L.no rfl ?_
    refine L.no rfl ?_
    refine L.va rfl (X.pickT rfl (by conv => lhs; whnf)) ?_
    refine L.nil ?_
    -- cond
    refine J.iteT rfl ?_
    rw [may_no1 (by have := h1; omega)]
    refine J.seq ?_
    refine J.region ?_
    refine L.va rfl (X.assign (by conv => lhs; whnf)) ?_
    refine L.nil ?_
    -- ret
    refine J.ret ?_
    refine thn_ret <| ?_
    refine fin1 ?_
    exact ⟨rfl, he1⟩
  refine L.va rfl (X.fieldAddr rfl Tryd.underlying30 rfl sz_3 (by decide)) ?_
  refine L.va rfl (X.load rfl sc_3 (by first | exact Ld.blk hk1 rfl)) ?_
  refine L.va rfl (X.lss rfl rfl) ?_
  refine L.va rfl (X.pickF rfl (by conv => lhs; whnf)) ?_
  refine L.va rfl (X.move (by conv => lhs; whnf)) ?_
  -- case t13
  refine L.caseDec (k := 13) rfl (fun h2 => ?_) (fun h2 => ?_)
  · refine L.no rfl ?_
    refine L.no rfl ?_
    refine L.no rfl ?_
    refine L.va rfl (X.pickT rfl (by conv => lhs; whnf)) ?_
    refine L.va rfl (X.move (by conv => lhs; whnf)) ?_
    refine L.no rfl ?_
    refine L.no rfl ?_
    refine L.no rfl ?_
    refine L.no rfl ?_
    refine L.va rfl (X.pickT rfl (by conv => lhs; whnf)) ?_
    refine L.va rfl (X.move (by conv => lhs; whnf)) ?_
    refine L.no rfl ?_
    refine L.no rfl ?_
    refine L.no rfl ?_
    refine L.no rfl ?_
    refine L.va rfl (X.pickT rfl (by conv => lhs; whnf)) ?_
    refine L.nil ?_
    -- cond
    refine J.iteT rfl ?_
    rw [may_no1 (by have := h2; omega)]
    refine J.seq ?_
    refine J.region ?_
    refine L.va rfl (X.assign (by conv => lhs; whnf)) ?_
    refine L.nil ?_
    -- ret
    refine J.ret ?_
    refine thn_ret <| ?_
    refine fin1 ?_
    exact ⟨rfl, he1⟩
  refine L.va rfl (X.fieldAddr rfl Tryd.underlying30 rfl sz_3 (by decide)) ?_
  refine L.va rfl (X.load rfl sc_3 (by first | exact Ld.blk hk1 rfl)) ?_
  refine L.va rfl (X.gtr rfl rfl) ?_
  refine L.va rfl (X.pickF rfl (by conv => lhs; whnf)) ?_
  refine L.va rfl (X.move (by conv => lhs; whnf)) ?_
  -- case t18
  refine L.caseDec (k := 18) rfl (fun h3 => ?_) (fun h3 => ?_)
  · refine L.no rfl ?_
    refine L.no rfl ?_
    refine L.no rfl ?_
    refine L.no rfl ?_
    refine L.va rfl (X.pickT rfl (by conv => lhs; whnf)) ?_
    refine L.va rfl (X.move (by conv => lhs; whnf)) ?_
    refine L.no rfl ?_
    refine L.no rfl ?_
    refine L.no rfl ?_
    refine L.no rfl ?_
    refine L.va rfl (X.pickT rfl (by conv => lhs; whnf)) ?_
    refine L.nil ?_
    -- cond
    refine J.iteT rfl ?_
    rw [may_no1 (by have := h3; omega)]
    refine J.seq ?_
    refine J.region ?_
    refine L.va rfl (X.assign (by conv => lhs; whnf)) ?_
    refine L.nil ?_
    -- ret
    refine J.ret ?_
    refine thn_ret <| ?_
    refine fin1 ?_
    exact ⟨rfl, he1⟩
  refine L.va rfl (X.fieldAddr rfl Tryd.underlying30 rfl sz_28 (by decide)) ?_
  refine L.va rfl (X.load rfl sc_28 (by first | exact Ld.blk hk1 rfl)) ?_
  refine L.va rfl (X.len rfl Tryd.underlying28) ?_
  refine L.va rfl (X.lss rfl rfl) ?_
  refine L.va rfl (X.pickF rfl (by conv => lhs; whnf)) ?_
  refine L.va rfl (X.move (by conv => lhs; whnf)) ?_
  -- case t24
  refine L.caseDec (k := 24) rfl (fun h4 => ?_) (fun h4 => ?_)
  · refine L.no rfl ?_
    refine L.no rfl ?_
    refine L.no rfl ?_
    refine L.no rfl ?_
    refine L.va rfl (X.pickT rfl (by conv => lhs; whnf)) ?_
    refine L.nil ?_
    -- cond
    refine J.iteT rfl ?_
    rw [may_no1 (by have := h4; omega)]
    refine J.seq ?_
    refine J.region ?_
    refine L.va rfl (X.assign (by conv => lhs; whnf)) ?_
    refine L.nil ?_
    -- ret
    refine J.ret ?_
    refine thn_ret <| ?_
    refine fin1 ?_
    exact ⟨rfl, he1⟩
  refine L.va rfl (X.fieldAddr rfl Tryd.underlying30 rfl sz_28 (by decide)) ?_
  refine L.va rfl (X.load rfl sc_28 (by first | exact Ld.blk hk1 rfl)) ?_
  refine L.va rfl (X.len rfl Tryd.underlying28) ?_
  refine L.va rfl (X.gtr rfl rfl) ?_
  refine L.va rfl (X.pickF rfl (by conv => lhs; whnf)) ?_
  refine L.nil ?_
  -- cond
  refine J.dec rfl (fun h5 => ?_) (fun h5 => ?_)
  · rw [may_no1 (by have := h5; omega)]
    refine J.seq ?_
    refine J.region ?_
    refine L.va rfl (X.assign (by conv => lhs; whnf)) ?_
    refine L.nil ?_
    -- ret
    refine J.ret ?_
    refine thn_ret <| ?_
    refine fin1 ?_
    exact ⟨rfl, he1⟩
  refine J.skip ?_
  refine J.seq ?_
  refine J.seq ?_
  refine J.region ?_
  refine L.va rfl (X.assign (by conv => lhs; whnf)) ?_
  refine L.nil ?_
  refine J.block ?_
  -- loop
  refine J.loop (X := Nat) [2, 3, 4, 30, 31, 32, 33, 34, 35, 36, 37, 38, 39, 40, 41, 42, 43, 44, 45, 46, 47, 48, 49, 50, 51, 52, 53, 54, 55, 56, 57, 58, 59, 60, 61, 62, 63, 64, 65, 66, 67, 68] (fun i => [(3, .int .i64 (i : Int))]) (fun i w' => i ≤ m.r.length ∧ Ext w1 w' ∧ ∀ j x, j < i → m.r[j]? = some x → okR x) (fun i => m.r.length - i) (0) (At1 (by first | rfl | exact at_int rfl (by omega) | exact at_slice rfl (by omega) | exact at_int rfl (by simp))) ?_ ?_
  · exact ⟨Nat.zero_le _, Ext.refl _, fun j x hj => by omega⟩
  · rintro i g w2 ⟨hi, he, hall⟩
    have hr2 := hr1.low (Below.mono he (by have := he1.le; omega)) (Nat.le_refl _)
    have z := he.le
    have hk2 := hk1.ext he
    have z1 := he1.le
    refine J.seq ?_
    refine J.seq ?_
    refine J.region ?_
    refine L.va rfl (X.move (by conv => lhs; whnf)) ?_
    refine L.va rfl (X.fieldAddr rfl Tryd.underlying30 rfl sz_28 (by decide)) ?_
    refine L.va rfl (X.load rfl sc_28 (by first | exact Ld.blk hk2 rfl)) ?_
    refine L.va rfl (X.len rfl Tryd.underlying28) ?_
    refine L.va rfl (X.lss rfl rfl) ?_
    refine L.nil ?_
    -- cond
    refine J.dec rfl (fun hlt => ?_) (fun hlt => ?_)
    · have hil : i < m.r.length := by omega
      have hA := hr2.some_ (by omega)
      obtain ⟨x, hx⟩ : ∃ x, m.r[i]? = some x := ⟨_, List.getElem?_eq_getElem hil⟩
      have hxm : x ∈ m.r := List.mem_of_getElem? hx
      -- t41
      refine J.skip ?_
      refine J.seq ?_
      refine J.block ?_
      refine J.seq ?_
      refine J.region ?_
      refine L.va rfl (X.fieldAddr rfl Tryd.underlying30 rfl sz_28 (by decide)) ?_
      refine L.va rfl (X.load rfl sc_28 (by first | exact Ld.blk hk2 rfl | exact hA)) ?_
      refine L.va rfl (X.move (by conv => lhs; whnf)) ?_
      refine L.va rfl ((by first | exact X.indexAddrn rfl rfl Tryd.underlying28 sz_59 (by first | exact Option.some_ne_none _ | exact hA) (by omega) | exact X.indexAddr rfl rfl Tryd.underlying28 sz_59 (by first | exact Option.some_ne_none _ | exact hA) (by omega))) ?_
      refine L.va rfl (X.loadRow (cs := rV x) rfl hr2 (fun r u hu => flat_row rV_len hx r u hu) (Nat.zero_lt_succ _) Tryd.underlying59 rfl (by kernel_rfl)) ?_
      -- alloc
      refine L.alloc rfl zr_59 ?_
      intro b3 w3 hb3 hs3 hk3 he3
      -- store
      refine L.storeAgg (vs := [_, _]) rfl rfl rfl rfl sz_59 (hk3) rfl ?_
      intro w4 hk4 hg4 hs4
      have he4 : Ext w1 w4 := (he.trans he3).grw hg4 (by intro g hg; injection hg with hg; omega)
      have hk4 : Blk w4 b3 59 #[.int .i64 x.1, .int .i64 x.2] := hk4
      refine L.nil ?_
      refine J.seq ?_
      refine J.region ?_
      refine L.va rfl (X.fieldAddr rfl Tryd.underlying59 rfl sz_3 (by decide)) ?_
      refine L.va rfl (X.load rfl sc_3 (by first | exact Ld.blk hk4 rfl | exact hA)) ?_
      refine L.va rfl (X.lss rfl rfl) ?_
      refine L.va rfl (X.move (by conv => lhs; whnf)) ?_
      -- case t45
      refine L.caseDec (k := 45) rfl (fun g1 => ?_) (fun g1 => ?_)
      · refine L.no rfl ?_
        refine L.no rfl ?_
        refine L.no rfl ?_
        refine L.va rfl (X.pickT rfl (by conv => lhs; whnf)) ?_
        refine L.va rfl (X.move (by conv => lhs; whnf)) ?_
        refine L.no rfl ?_
        refine L.no rfl ?_
        refine L.no rfl ?_
        refine L.va rfl (X.pickT rfl (by conv => lhs; whnf)) ?_
        refine L.va rfl (X.move (by conv => lhs; whnf)) ?_
        refine L.no rfl ?_
        refine L.no rfl ?_
        refine L.no rfl ?_
        refine L.va rfl (X.pickT rfl (by conv => lhs; whnf)) ?_
        refine L.va rfl (X.move (by conv => lhs; whnf)) ?_
        refine L.no rfl ?_
        refine L.no rfl ?_
        refine L.no rfl ?_
        refine L.no rfl ?_
        refine L.no rfl ?_
        refine L.no rfl ?_
        refine L.no rfl ?_
        refine L.va rfl (X.pickT rfl (by conv => lhs; whnf)) ?_
        refine L.nil ?_
        -- cond
        refine J.iteT rfl ?_
        rw [may_no2 hxm (by first | exact okR_no5 g1 | exact okR_no (by have := g1; omega))]
        refine J.seq ?_
        refine J.region ?_
        refine L.va rfl (X.assign (by conv => lhs; whnf)) ?_
        refine L.nil ?_
        -- ret
        refine J.ret ?_
        refine inB_ret <|  thn_ret <|  thn_ret <|  inB_ret <|  thn_ret <| ?_
        refine fin1 ?_
        exact ⟨rfl, he1.trans he4⟩
      refine L.va rfl (X.fieldAddr rfl Tryd.underlying59 rfl sz_3 (by decide)) ?_
      refine L.va rfl (X.load rfl sc_3 (by first | exact Ld.blk hk4 rfl | exact hA)) ?_
      refine L.va rfl (X.gtr rfl rfl) ?_
      refine L.va rfl (X.pickF rfl (by conv => lhs; whnf)) ?_
      refine L.va rfl (X.move (by conv => lhs; whnf)) ?_
      -- case t50
      refine L.caseDec (k := 50) rfl (fun g2 => ?_) (fun g2 => ?_)
      · refine L.no rfl ?_
        refine L.no rfl ?_
        refine L.no rfl ?_
        refine L.va rfl (X.pickT rfl (by conv => lhs; whnf)) ?_
        refine L.va rfl (X.move (by conv => lhs; whnf)) ?_
        refine L.no rfl ?_
        refine L.no rfl ?_
        refine L.no rfl ?_
        refine L.va rfl (X.pickT rfl (by conv => lhs; whnf)) ?_
        refine L.va rfl (X.move (by conv => lhs; whnf)) ?_
        refine L.no rfl ?_
        refine L.no rfl ?_
        refine L.no rfl ?_
        refine L.no rfl ?_
        refine L.no rfl ?_
        refine L.no rfl ?_
        refine L.no rfl ?_
        refine L.va rfl (X.pickT rfl (by conv => lhs; whnf)) ?_
        refine L.nil ?_
        -- cond
        refine J.iteT rfl ?_
        rw [may_no2 hxm (by first | exact okR_no5 g2 | exact okR_no (by have := g2; omega))]
        refine J.seq ?_
        refine J.region ?_
        refine L.va rfl (X.assign (by conv => lhs; whnf)) ?_
        refine L.nil ?_
        -- ret
        refine J.ret ?_
        refine inB_ret <|  thn_ret <|  thn_ret <|  inB_ret <|  thn_ret <| ?_
        refine fin1 ?_
        exact ⟨rfl, he1.trans he4⟩
      refine L.va rfl (X.fieldAddr rfl Tryd.underlying59 rfl sz_3 (by decide)) ?_
      refine L.va rfl (X.load rfl sc_3 (by first | exact Ld.blk hk4 rfl | exact hA)) ?_
      refine L.va rfl (X.lss rfl rfl) ?_
      refine L.va rfl (X.pickF rfl (by conv => lhs; whnf)) ?_
      refine L.va rfl (X.move (by conv => lhs; whnf)) ?_
      -- case t55
      refine L.caseDec (k := 55) rfl (fun g3 => ?_) (fun g3 => ?_)
      · refine L.no rfl ?_
        refine L.no rfl ?_
        refine L.no rfl ?_
        refine L.va rfl (X.pickT rfl (by conv => lhs; whnf)) ?_
        refine L.va rfl (X.move (by conv => lhs; whnf)) ?_
        refine L.no rfl ?_
        refine L.no rfl ?_
        refine L.no rfl ?_
        refine L.no rfl ?_
        refine L.no rfl ?_
        refine L.no rfl ?_
        refine L.no rfl ?_
        refine L.va rfl (X.pickT rfl (by conv => lhs; whnf)) ?_
        refine L.nil ?_
        -- cond
        refine J.iteT rfl ?_
        rw [may_no2 hxm (by first | exact okR_no5 g3 | exact okR_no (by have := g3; omega))]
        refine J.seq ?_
        refine J.region ?_
        refine L.va rfl (X.assign (by conv => lhs; whnf)) ?_
        refine L.nil ?_
        -- ret
        refine J.ret ?_
        refine inB_ret <|  thn_ret <|  thn_ret <|  inB_ret <|  thn_ret <| ?_
        refine fin1 ?_
        exact ⟨rfl, he1.trans he4⟩
      refine L.va rfl (X.fieldAddr rfl Tryd.underlying59 rfl sz_3 (by decide)) ?_
      refine L.va rfl (X.load rfl sc_3 (by first | exact Ld.blk hk4 rfl | exact hA)) ?_
      refine L.va rfl (X.geq rfl rfl) ?_
      refine L.va rfl (X.pickF rfl (by conv => lhs; whnf)) ?_
      refine L.va rfl (X.move (by conv => lhs; whnf)) ?_
      -- case t60
      refine L.caseDec (k := 60) rfl (fun g4 => ?_) (fun g4 => ?_)
      · refine L.no rfl ?_
        refine L.no rfl ?_
        refine L.no rfl ?_
        refine L.no rfl ?_
        refine L.no rfl ?_
        refine L.no rfl ?_
        refine L.no rfl ?_
        refine L.va rfl (X.pickT rfl (by conv => lhs; whnf)) ?_
        refine L.nil ?_
        -- cond
        refine J.iteT rfl ?_
        rw [may_no2 hxm (by first | exact okR_no5 g4 | exact okR_no (by have := g4; omega))]
        refine J.seq ?_
        refine J.region ?_
        refine L.va rfl (X.assign (by conv => lhs; whnf)) ?_
        refine L.nil ?_
        -- ret
        refine J.ret ?_
        refine inB_ret <|  thn_ret <|  thn_ret <|  inB_ret <|  thn_ret <| ?_
        refine fin1 ?_
        exact ⟨rfl, he1.trans he4⟩
      refine L.va rfl (X.fieldAddr rfl Tryd.underlying59 rfl sz_3 (by decide)) ?_
      refine L.va rfl (X.load rfl sc_3 (by first | exact Ld.blk hk4 rfl | exact hA)) ?_
      refine L.va rfl (X.eql rfl rfl) ?_
      refine L.va rfl (X.fieldAddr rfl Tryd.underlying59 rfl sz_3 (by decide)) ?_
      refine L.va rfl (X.load rfl sc_3 (by first | exact Ld.blk hk4 rfl | exact hA)) ?_
      refine L.va rfl (X.eql rfl rfl) ?_
      refine L.va rfl (X.neqB rfl rfl Tryd.underlying4) ?_
      refine L.va rfl (X.pickF rfl (by conv => lhs; whnf)) ?_
      refine L.nil ?_
      -- cond
      refine J.ite rfl (fun g5 => ?_) (fun g5 => ?_)
      · rw [may_no2 hxm (by first | exact okR_no5 g5 | exact okR_no (by have := g5; omega))]
        refine J.seq ?_
        refine J.region ?_
        refine L.va rfl (X.assign (by conv => lhs; whnf)) ?_
        refine L.nil ?_
        -- ret
        refine J.ret ?_
        refine inB_ret <|  thn_ret <|  thn_ret <|  inB_ret <|  thn_ret <| ?_
        refine fin1 ?_
        exact ⟨rfl, he1.trans he4⟩
      refine J.skip ?_
      refine J.region ?_
      refine L.va rfl (X.move (by conv => lhs; whnf)) ?_
      refine L.va rfl (X.add rfl rfl (by omega)) ?_
      refine L.va rfl (X.assign (by conv => lhs; whnf)) ?_
      refine L.nil ?_
      -- loopend
      refine ⟨i + 1, At1 (by first | rfl | exact at_int rfl (by omega) | exact at_slice rfl (by omega) | exact at_int rfl (by simp)), (by (iterate 45 refine Agr.lk rfl ?_); exact Agr.lk rfl (Agr.hav rfl Agr.rfl')), ?_⟩
      refine ⟨⟨by omega, he4, fun j y hj hy => ?_⟩, by omega⟩
      rcases Nat.lt_or_ge j i with h | h
      · exact hall j y h hy
      · obtain rfl : j = i := by omega
        rw [hx] at hy
        injection hy with hy
        subst hy
        exact okR_yes g1 g2 g3 g4 g5
    · rw [may_yes (by omega) h2 h3 h4 h5 (fun j x hj => hall j x (by have := (List.getElem?_eq_some_iff.1 hj).1; omega) hj)]
      refine J.exit ?_
      refine J.seq ?_
      refine J.region ?_
      refine L.va rfl (X.assign (by conv => lhs; whnf)) ?_
      refine L.nil ?_
      -- ret
      refine J.ret ?_
      refine fin1 ?_
      exact ⟨rfl, he1.trans he⟩
end Man
end Go.Proofs.YtlohbkcedpkjaaaDoor
