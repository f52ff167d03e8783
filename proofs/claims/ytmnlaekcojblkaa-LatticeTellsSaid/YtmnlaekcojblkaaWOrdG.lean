/-
  Tourneys: who of two keys is ahead.
-/
import Derived.Test.YtmnlaekcojblkaaWOrdF
namespace Go.Proofs.Ytmnlaekcojblkaa
set_option maxRecDepth 100000
open Go.RowKit H
open Byts Cod Flo Odr
set_option linter.unusedVariables false
/-- bytes that lie in memory -/
structure By where
  (A : Option Addr) (n c : Nat) (l : List Int)
namespace By
abbrev vs (k : By) : List Value := [.slice k.A k.n k.c]
structure At (k : By) (N : Nat) (w : World) : Prop where
  r : Reads w N 1 k.A k.n (nums .u8 k.l)
  m : k.n ≤ maxLen
theorem At.ext {k : By} {N : Nat} {w w' : World} (h : k.At N w) (he : Ext w w') : k.At N w' := ⟨h.r.ext he, h.m⟩
theorem At.below {k : By} {N : Nat} {w w' : World} (h : k.At N w) (he : Below N w w') : k.At N w' := ⟨h.r.below he, h.m⟩
theorem At.more {k : By} {N N' : Nat} {w : World} (h : k.At N w) (hN : N ≤ N') : k.At N' w := ⟨h.r.more hN, h.m⟩
end By
def by0 : By := ⟨none, 0, 0, []⟩
theorem by_len (k : By) : k.vs.length = 1 := rfl
theorem gtBy {l : List By} {i : Nat} (h : i < l.length) : l[i]? = some (l.getD i by0) := by rw [List.getD, List.getElem?_eq_getElem h]; rfl
theorem memBy {l : List By} {i : Nat} (h : i < l.length) : l.getD i by0 ∈ l := by rw [List.getD, List.getElem?_eq_getElem h]; exact List.getElem_mem _
/-- keys that lie in memory -/
structure Bys where
  (A : Option Addr) (n c : Nat) (l : List By)
namespace Bys
abbrev val (s : Bys) : Value := .slice s.A s.n s.c
structure At (s : Bys) (N : Nat) (w : World) : Prop where
  r : Reads w N 1 s.A s.n (s.l.flatMap By.vs)
  h : ∀ x ∈ s.l, x.At N w
  l : s.l.length = s.n
  m : s.n ≤ maxLen
theorem At.ext {s : Bys} {N : Nat} {w w' : World} (h : s.At N w) (he : Ext w w') : s.At N w' := ⟨h.r.ext he, fun x hx => (h.h x hx).ext he, h.l, h.m⟩
theorem At.below {s : Bys} {N : Nat} {w w' : World} (h : s.At N w) (he : Below N w w') : s.At N w' := ⟨h.r.below he, fun x hx => (h.h x hx).below he, h.l, h.m⟩
theorem At.more {s : Bys} {N N' : Nat} {w : World} (h : s.At N w) (hN : N ≤ N') : s.At N' w := ⟨h.r.more hN, fun x hx => (h.h x hx).more hN, h.l, h.m⟩
/-- who of two is ahead -/
def ahead (s : Bys) (a b : Nat) : Bool := lessB (s.l.getD a by0).l (s.l.getD b by0).l || (!lessB (s.l.getD b by0).l (s.l.getD a by0).l && decide (a < b))
end Bys
theorem tahead (s : Bys) (a b : Nat) (w : World) (h : s.At w.heap.size w) (ha : a < s.n) (hb : b < s.n) : Calls Try.prog 88 #[s.val, .int .i64 (a : Int), .int .i64 (b : Int)] w fun e w' => e = .returned (.bool (s.ahead a b)) ∧ Ext w w' := by
  have hl := h.l
  have hA := h.r.some_ (by omega)
  obtain ⟨x, hx⟩ : ∃ x, x = s.l.getD a by0 := ⟨_, rfl⟩
  obtain ⟨y, hy⟩ : ∃ y, y = s.l.getD b by0 := ⟨_, rfl⟩
  have gx := gtBy (l := s.l) (i := a) (by omega)
  have gy := gtBy (l := s.l) (i := b) (by omega)
  have mx := h.h _ (memBy (l := s.l) (i := a) (by omega))
  have my := h.h _ (memBy (l := s.l) (i := b) (by omega))
  rw [← hx] at gx mx
  rw [← hy] at gy my
  have lx : ∀ (w' : World), Ext w w' → Ld w' (pA s.A a) (.slice x.A x.n x.c) := fun w' hw => by have h := Ld.flat2 by_len (h.r.ext hw) gx (r := 0) rfl; rwa [Nat.mul_one] at h
  have ly : ∀ (w' : World), Ext w w' → Ld w' (pA s.A b) (.slice y.A y.n y.c) := fun w' hw => by have h := Ld.flat2 by_len (h.r.ext hw) gy (r := 0) rfl; rwa [Nat.mul_one] at h
  have e : s.ahead a b = (lessB x.l y.l || (!lessB y.l x.l && decide (a < b))) := by unfold Bys.ahead; rw [← hx, ← hy]
  rw [e]
  have c1 := fun (w' : World) (hw : Ext w w') => code_Less x.A x.n x.c y.A y.n y.c x.l y.l w' ((mx.ext hw).more hw.le).r ((my.ext hw).more hw.le).r mx.m my.m
  have c2 := fun (w' : World) (hw : Ext w w') => code_Less y.A y.n y.c x.A x.n x.c y.l x.l w' ((my.ext hw).more hw.le).r ((mx.ext hw).more hw.le).r my.m mx.m
  refine enter Try.func88 rfl (by kernel_rfl) ?_
  refine J.seq ?_
  refine J.region ?_
  refine L.va rfl (X.assign (by conv => lhs; whnf)) ?_
  refine L.nil ?_
  refine J.seq ?_
  -- draw
  refine J.quiet mixed (by kernel_rfl) ?_
  refine Qt.va rfl (fun w' hw => X.move (by conv => lhs; whnf)) ?_
  refine Qt.va rfl (fun w' hw => X.move (by conv => lhs; whnf)) ?_
  refine Qt.va rfl (fun w' hw => (by first | exact X.index1n rfl rfl Try.underlying38 sz_33 (by first | exact Option.some_ne_none _ | exact hA | exact lx w' hw | exact ly w' hw) (by omega) | exact X.index1 rfl rfl Try.underlying38 sz_33 (by first | exact Option.some_ne_none _ | exact hA | exact lx w' hw | exact ly w' hw) (by omega))) ?_
  refine Qt.va rfl (fun w' hw => X.load rfl sc_33 (by first | exact hA | exact lx w' hw | exact ly w' hw)) ?_
  refine Qt.va rfl (fun w' hw => X.move (by conv => lhs; whnf)) ?_
  refine Qt.va rfl (fun w' hw => X.move (by conv => lhs; whnf)) ?_
  refine Qt.va rfl (fun w' hw => (by first | exact X.index1n rfl rfl Try.underlying38 sz_33 (by first | exact Option.some_ne_none _ | exact hA | exact lx w' hw | exact ly w' hw) (by omega) | exact X.index1 rfl rfl Try.underlying38 sz_33 (by first | exact Option.some_ne_none _ | exact hA | exact lx w' hw | exact ly w' hw) (by omega))) ?_
  refine Qt.va rfl (fun w' hw => X.load rfl sc_33 (by first | exact hA | exact lx w' hw | exact ly w' hw)) ?_
  -- callfn bushel/code.Less
  refine Qt.call rfl en_81 rfl (fun w' hw => calls_ext hw (c1 w' hw)) ?_
  refine Qt.va rfl (fun w' hw => X.move (by conv => lhs; whnf)) ?_
  -- case t16
  cases k1 : lessB x.l y.l
  · refine Qt.caseBF (k := 16) rfl (by rfl) ?_
    refine Qt.va rfl (fun w' hw => X.move (by conv => lhs; whnf)) ?_
    refine Qt.va rfl (fun w' hw => X.move (by conv => lhs; whnf)) ?_
    refine Qt.va rfl (fun w' hw => (by first | exact X.index1n rfl rfl Try.underlying38 sz_33 (by first | exact Option.some_ne_none _ | exact hA | exact lx w' hw | exact ly w' hw) (by omega) | exact X.index1 rfl rfl Try.underlying38 sz_33 (by first | exact Option.some_ne_none _ | exact hA | exact lx w' hw | exact ly w' hw) (by omega))) ?_
    refine Qt.va rfl (fun w' hw => X.load rfl sc_33 (by first | exact hA | exact lx w' hw | exact ly w' hw)) ?_
    refine Qt.va rfl (fun w' hw => X.move (by conv => lhs; whnf)) ?_
    refine Qt.va rfl (fun w' hw => X.move (by conv => lhs; whnf)) ?_
    refine Qt.va rfl (fun w' hw => (by first | exact X.index1n rfl rfl Try.underlying38 sz_33 (by first | exact Option.some_ne_none _ | exact hA | exact lx w' hw | exact ly w' hw) (by omega) | exact X.index1 rfl rfl Try.underlying38 sz_33 (by first | exact Option.some_ne_none _ | exact hA | exact lx w' hw | exact ly w' hw) (by omega))) ?_
    refine Qt.va rfl (fun w' hw => X.load rfl sc_33 (by first | exact hA | exact lx w' hw | exact ly w' hw)) ?_
    -- callfn bushel/code.Less
    refine Qt.call rfl en_81 rfl (fun w' hw => calls_ext hw (c2 w' hw)) ?_
    refine Qt.va rfl (fun w' hw => X.not rfl) ?_
    refine Qt.va rfl (fun w' hw => X.move (by conv => lhs; whnf)) ?_
    -- case t27
    cases k2 : lessB y.l x.l
    · refine Qt.caseBT (k := 27) rfl (by rfl) ?_
      refine Qt.va rfl (fun w' hw => X.move (by conv => lhs; whnf)) ?_
      refine Qt.va rfl (fun w' hw => X.move (by conv => lhs; whnf)) ?_
      refine Qt.va rfl (fun w' hw => X.lss rfl rfl) ?_
      refine Qt.va rfl (fun w' hw => X.pickT rfl (by conv => lhs; whnf)) ?_
      refine Qt.va rfl (fun w' hw => X.pickF rfl (by conv => lhs; whnf)) ?_
      refine Qt.va rfl (fun w' hw => X.assign (by conv => lhs; whnf)) ?_
      refine Qt.nil (fun w1 hq => ?_)
      -- ret
      refine J.ret ?_
      refine fin1 ?_
      exact ⟨congrArg (fun b => Ending.returned (.bool b)) (decide_eq_decide.2 Int.ofNat_lt), hq⟩
    · refine Qt.caseBF (k := 27) rfl (by rfl) ?_
      refine Qt.no rfl ?_
      refine Qt.no rfl ?_
      refine Qt.no rfl ?_
      refine Qt.va rfl (fun w' hw => X.pickF rfl (by conv => lhs; whnf)) ?_
      refine Qt.va rfl (fun w' hw => X.pickF rfl (by conv => lhs; whnf)) ?_
      refine Qt.va rfl (fun w' hw => X.assign (by conv => lhs; whnf)) ?_
      refine Qt.nil (fun w1 hq => ?_)
      -- ret
      refine J.ret ?_
      refine fin1 ?_
      exact ⟨rfl, hq⟩
  · refine Qt.caseBT (k := 16) rfl (by rfl) ?_
    refine Qt.no rfl ?_
    refine Qt.no rfl ?_
    refine Qt.no rfl ?_
    refine Qt.no rfl ?_
    refine Qt.no rfl ?_
    refine Qt.no rfl ?_
    refine Qt.no rfl ?_
    refine Qt.no rfl ?_
    refine Qt.no rfl ?_
    refine Qt.no rfl ?_
    refine Qt.no rfl ?_
    refine Qt.no rfl ?_
    refine Qt.no rfl ?_
    refine Qt.no rfl ?_
    refine Qt.no rfl ?_
    refine Qt.va rfl (fun w' hw => X.pickT rfl (by conv => lhs; whnf)) ?_
    refine Qt.va rfl (fun w' hw => X.assign (by conv => lhs; whnf)) ?_
    refine Qt.nil (fun w1 hq => ?_)
    -- ret
    refine J.ret ?_
    refine fin1 ?_
    exact ⟨rfl, hq⟩
end Go.Proofs.Ytmnlaekcojblkaa
