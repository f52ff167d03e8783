/-
  Filters: in memory; why they may not be, in the program and in the reference.
-/
import Derived.Test.YtlipeplfjkgamaaWSchG
namespace Go.Proofs.Ytlipeplfjkgamaa
set_option maxRecDepth 100000
open Go.RowKit H
set_option linter.unusedVariables false
/-- the first error -/
def fst' {α : Type} (g : α → Int) : List α → Int
  | [] => 0
  | x :: t => if g x ≠ 0 then g x else fst' g t
theorem fst_at {α : Type} {g : α → Int} {d : α} : ∀ {l : List α} {i : Nat}, i < l.length → (∀ j, j < i → g (l.getD j d) = 0) → g (l.getD i d) ≠ 0 → fst' g l = g (l.getD i d)
  | [], i, h, _, _ => absurd h (by simp)
  | x :: t, 0, _, _, h => by
    have h : g x ≠ 0 := h
    show (if g x ≠ 0 then g x else fst' g t) = g x
    rw [if_pos h]
  | x :: t, i + 1, h, hP, he => by
    have h0 : g x = 0 := hP 0 (by omega)
    show (if g x ≠ 0 then g x else fst' g t) = g ((x :: t).getD (i + 1) d)
    rw [if_neg (fun k => k h0)]
    exact fst_at (l := t) (i := i) (by simpa using h) (fun j hj => hP (j + 1) (by omega)) he
theorem fst_0 {α : Type} {g : α → Int} {d : α} : ∀ {l : List α}, (∀ j, j < l.length → g (l.getD j d) = 0) → fst' g l = 0
  | [], _ => rfl
  | x :: t, hP => by
    have h0 : g x = 0 := hP 0 (by simp)
    show (if g x ≠ 0 then g x else fst' g t) = 0
    rw [if_neg (fun k => k h0)]
    exact fst_0 (l := t) fun j hj => hP (j + 1) (by simpa using hj)
theorem fst_ok {α : Type} {g : α → Int} {d : α} : ∀ {l : List α}, fst' g l = 0 → ∀ j, j < l.length → g (l.getD j d) = 0
  | [], _, j, hj => absurd hj (by simp)
  | x :: t, h, j, hj => by
    have h : (if g x ≠ 0 then g x else fst' g t) = 0 := h
    by_cases h0 : g x = 0
    · rw [if_neg (fun k => k h0)] at h
      cases j with
      | zero => exact h0
      | succ j => exact fst_ok (l := t) h j (by simpa using hj)
    · rw [if_pos h0] at h; exact absurd h h0
/-- a filter -/
structure Fi where
  (d : Int) (A : Option Addr) (n c : Nat) (l : List Int)
namespace Fi
abbrev vs (f : Fi) : List Value := [.int .i64 f.d, .slice f.A f.n f.c]
abbrev val (f : Fi) : Value := .agg f.vs.toArray
structure At (f : Fi) (N : Nat) (w : World) : Prop where
  r : Reads w N 1 f.A f.n (nums .i64 f.l)
  m : f.n ≤ maxLen
theorem At.ext {f : Fi} {N : Nat} {w w' : World} (h : f.At N w) (he : Ext w w') : f.At N w' := ⟨h.r.ext he, h.m⟩
theorem At.low {f : Fi} {N B : Nat} {w w' : World} (h : f.At N w) (he : Below B w w') (hB : N ≤ B) : f.At N w' := ⟨h.r.low he hB, h.m⟩
theorem At.more {f : Fi} {N N' : Nat} {w : World} (h : f.At N w) (hN : N ≤ N') : f.At N' w := ⟨h.r.more hN, h.m⟩
theorem At.len {f : Fi} {N : Nat} {w : World} (h : f.At N w) : f.l.length = f.n := by have := h.r.1; simpa [nums] using this
end Fi
def fi0 : Fi := ⟨0, none, 0, 0, []⟩
theorem fi_len (f : Fi) : f.vs.length = 2 := rfl
theorem gtF {l : List Fi} {i : Nat} (h : i < l.length) : l[i]? = some (l.getD i fi0) := by rw [List.getD, List.getElem?_eq_getElem h]; rfl
theorem memF {l : List Fi} {i : Nat} (h : i < l.length) : l.getD i fi0 ∈ l := by rw [List.getD, List.getElem?_eq_getElem h]; exact List.getElem_mem _
/-- a list of filters -/
structure Fis where
  (A : Option Addr) (n c : Nat) (l : List Fi)
namespace Fis
abbrev val (s : Fis) : Value := .slice s.A s.n s.c
structure At (s : Fis) (N : Nat) (w : World) : Prop where
  r : Reads w N 2 s.A s.n (s.l.flatMap Fi.vs)
  h : ∀ x ∈ s.l, x.At N w
  l : s.l.length = s.n
  m : s.n ≤ maxLen
theorem At.ext {s : Fis} {N : Nat} {w w' : World} (h : s.At N w) (he : Ext w w') : s.At N w' := ⟨h.r.ext he, fun x hx => (h.h x hx).ext he, h.l, h.m⟩
theorem At.low {s : Fis} {N B : Nat} {w w' : World} (h : s.At N w) (he : Below B w w') (hB : N ≤ B) : s.At N w' := ⟨h.r.low he hB, fun x hx => (h.h x hx).low he hB, h.l, h.m⟩
theorem At.more {s : Fis} {N N' : Nat} {w : World} (h : s.At N w) (hN : N ≤ N') : s.At N' w := ⟨h.r.more hN, fun x hx => (h.h x hx).more hN, h.l, h.m⟩
theorem At.one {s : Fis} {N : Nat} {w : World} (h : s.At N w) {i : Nat} (hi : i < s.n) : (s.l.getD i fi0).At N w := h.h _ (memF (by rw [h.l]; exact hi))
end Fis
/-- a code of a dimension -/
abbrev cOk (s : Sch) (d : Int) (c : Int) : Prop := 0 ≤ c ∧ c < (s.ds.getD d.toNat d0).2
def fE (s : Sch) (f : Fi) : Int := if f.d < 0 ∨ (s.nd : Int) ≤ f.d then 11 else if 4096 < f.n then 3 else if ∃ i, i < f.n ∧ ¬ cOk s f.d (f.l.getD i 0) then 2 else 0
def fcode (s : Sch) (f : Fis) : Int := if s.code ≠ 0 then 1 else if 20 < f.n then 3 else fst' (fE s) f.l
theorem fE_11 {s : Sch} {f : Fi} (h : f.d < 0 ∨ (s.nd : Int) ≤ f.d) : fE s f = 11 := by unfold fE; rw [if_pos h]
theorem fE_3 {s : Sch} {f : Fi} (h : ¬ (f.d < 0 ∨ (s.nd : Int) ≤ f.d)) (h2 : 4096 < f.n) : fE s f = 3 := by unfold fE; rw [if_neg h, if_pos h2]
theorem fE_2 {s : Sch} {f : Fi} (h : ¬ (f.d < 0 ∨ (s.nd : Int) ≤ f.d)) (h2 : ¬ 4096 < f.n) {i : Nat} (hi : i < f.n) (h3 : ¬ cOk s f.d (f.l.getD i 0)) : fE s f = 2 := by unfold fE; rw [if_neg h, if_neg h2, if_pos ⟨i, hi, h3⟩]
theorem fE_0 {s : Sch} {f : Fi} (h : ¬ (f.d < 0 ∨ (s.nd : Int) ≤ f.d)) (h2 : ¬ 4096 < f.n) (h3 : ∀ i, i < f.n → cOk s f.d (f.l.getD i 0)) : fE s f = 0 := by
  unfold fE; rw [if_neg h, if_neg h2, if_neg]; rintro ⟨i, hi, k⟩; exact k (h3 i hi)
theorem fcheck {s : Sch} {f : Fis} {w : World} (H : s.Here w) (hf : f.At w.heap.size w) : Calls Try.prog 91 #[s.val, f.val] w fun e w' => e = .returned (.int .i64 (fcode s f)) ∧ Ext w w' := by
  have hl := hf.l
  have hm := hf.m
  have hle := H.hle
  unfold maxLen at hm
  refine enter Try.func91 rfl (by kernel_rfl) ?_
  refine J.seq ?_
  refine J.region ?_
  -- box
  refine L.boxA (l := [_, _, _, _]) rfl rfl ?_
  intro b1 w1 hb1 hs1 hk1 he1
  have H1 := H.ext he1
  refine L.va rfl (X.assign (by conv => lhs; whnf)) ?_
  refine L.nil ?_
  refine J.seq ?_
  refine J.seq ?_
  refine J.region ?_
  refine L.va rfl ((by first | exact X.loadAgg rfl (range_l hk1) Try.underlying49 rfl (by kernel_rfl) | exact X.loadAgg rfl (range_blk hk1) Try.underlying49 rfl (by kernel_rfl))) ?_
  -- callfn bushel/schema.Check
  refine L.call rfl en_107 rfl (H1.check) ?_
  rintro e w2 ⟨rfl, he2⟩
  refine ⟨_, rfl, ?_⟩
  have he02 := he1.trans he2
  replace hk1 := hk1.ext he2
  refine L.va rfl (X.neq rfl rfl) ?_
  refine L.nil ?_
  -- cond
  refine J.ndec rfl (fun h1 => ?_) (fun h1 => ?_)
  · have e : fcode s f = 1 := by unfold fcode; rw [if_pos h1]
    rw [e]
    refine J.seq ?_
    refine J.region ?_
    refine L.va rfl (X.assign (by conv => lhs; whnf)) ?_
    refine L.nil ?_
    -- ret
    refine J.ret ?_
    refine thn_ret <| ?_
    refine fin1 ?_
    exact ⟨rfl, he02⟩
  refine J.skip ?_
  refine J.seq ?_
  refine J.seq ?_
  refine J.region ?_
  refine L.va rfl (X.move (by conv => lhs; whnf)) ?_
  refine L.va rfl (X.len rfl Try.underlying51) ?_
  refine L.va rfl (X.gtr rfl rfl) ?_
  refine L.nil ?_
  -- cond
  refine J.dec rfl (fun h2 => ?_) (fun h2 => ?_)
  · have e : fcode s f = 3 := by unfold fcode; rw [if_neg (fun h => h h1), if_pos (by omega)]
    rw [e]
    refine J.seq ?_
    refine J.region ?_
    refine L.va rfl (X.assign (by conv => lhs; whnf)) ?_
    refine L.nil ?_
    -- ret
    refine J.ret ?_
    refine thn_ret <| ?_
    refine fin1 ?_
    exact ⟨rfl, he02⟩
  have e : fcode s f = fst' (fE s) f.l := by unfold fcode; rw [if_neg (fun h => h h1), if_neg (by omega)]
  rw [e]
  have z2 := he02.le
  have H2 := H.ext he02
  refine J.skip ?_
  refine J.seq ?_
  refine J.seq ?_
  refine J.region ?_
  refine L.va rfl (X.move (by conv => lhs; whnf)) ?_
  refine L.va rfl (X.len rfl Try.underlying51) ?_
  refine L.va rfl (X.move (by conv => lhs; whnf)) ?_
  refine L.nil ?_
  refine J.block ?_
  -- loop
  refine J.loop (X := Nat) [4, 6, 8, 17, 18, 19, 20, 21, 22, 23, 24, 25, 26, 27, 28, 29, 30, 31, 32, 33, 34, 35, 36, 37, 38, 39, 40, 41, 42, 43, 44, 45, 46, 47, 48, 49, 50, 51, 52, 53, 54, 55, 56, 57] (fun i => [(17, .int .i64 (i : Int))]) (fun i w' => i ≤ f.n ∧ (∀ j, j < i → fE s (f.l.getD j fi0) = 0) ∧ Ext w2 w') (fun i => f.n - i) (0) (At1 (by first | rfl | exact at_int rfl (by omega) | exact at_slice rfl (by omega) | exact at_int rfl (by simp))) ?_ ?_
  · exact ⟨Nat.zero_le _, fun j hj => absurd hj (by omega), Ext.refl _⟩
  · rintro i g w3 ⟨hi, hP, he3⟩
    have z3 := he3.le
    have he03 := he02.trans he3
    have hf3 := hf.ext he03
    have hk3 := hk1.ext he3
    have H3 := H2.ext he3
    refine J.seq ?_
    refine J.region ?_
    refine L.va rfl (X.lss rfl rfl) ?_
    refine L.nil ?_
    refine J.seq ?_
    -- cond
    refine J.dec rfl (fun hlt => ?_) (fun hlt => ?_)
    · have hin : i < f.n := by omega
      have hA := hf3.r.some_ (by omega)
      obtain ⟨x, hx⟩ : ∃ x, x = f.l.getD i fi0 := ⟨_, rfl⟩
      have hX := hf3.one hin
      have hgt := gtF (l := f.l) (i := i) (by omega)
      rw [← hx] at hX hgt
      -- t20
      refine J.skip ?_
      refine J.seq ?_
      refine J.block ?_
      refine J.seq ?_
      refine J.region ?_
      refine L.va rfl ((by first | exact X.indexAddrn rfl rfl Try.underlying51 sz_150 (by first | exact Option.some_ne_none _ | exact hA) (by omega) | exact X.indexAddr rfl rfl Try.underlying51 sz_150 (by first | exact Option.some_ne_none _ | exact hA) (by omega))) ?_
      refine L.va rfl (X.loadRow (cs := x.vs) rfl hf3.r (fun r u hu => flat_row fi_len hgt r u hu) (Nat.zero_lt_succ _) Try.underlying150 rfl (by kernel_rfl)) ?_
      -- alloc
      refine L.alloc rfl zr_150 ?_
      intro b4 w4 hb4 hs4 hk4 he4
      -- store
      refine L.storeAgg (vs := [_, _]) rfl rfl rfl rfl sz_150 (hk4) rfl ?_
      intro w5 hk5 hg5 hs5
      have he35 : Ext w3 w5 := he4.grw hg5 (by intro g hg; injection hg with hg; omega)
      have hk5 : Blk w5 b4 150 x.vs.toArray := hk5
      have he05 := he03.trans he35
      have he25 := he3.trans he35
      have hk15 := hk3.ext he35
      have hX5 := hX.ext he35
      have H5 := H3.ext he35
      have hxl := hX5.len
      have hxm := hX5.m
      unfold maxLen at hxm
      have z5 := he25.le
      refine L.nil ?_
      refine J.seq ?_
      refine J.seq ?_
      refine J.region ?_
      refine L.va rfl (X.fieldAddr rfl Try.underlying150 rfl sz_3 (by decide)) ?_
      refine L.va rfl (X.load rfl sc_3 (by first | exact Ld.blk hk5 rfl | exact Ld.blk hk15 rfl | exact hA)) ?_
      refine L.va rfl (X.lss rfl rfl) ?_
      refine L.va rfl (X.move (by conv => lhs; whnf)) ?_
      -- case t24
      refine L.caseDec (k := 24) rfl (fun h3 => ?_) (fun h3 => ?_)
      · refine L.no rfl ?_
        refine L.no rfl ?_
        refine L.no rfl ?_
        refine L.no rfl ?_
        refine L.no rfl ?_
        refine L.no rfl ?_
        refine L.va rfl (X.pickT rfl (by conv => lhs; whnf)) ?_
        refine L.nil ?_
        -- cond
        refine J.iteT rfl ?_
        rw [fst_at (d := fi0) (i := i) (by omega) hP (by rw [← hx, fE_11 (by omega)]; decide), ← hx, fE_11 (by omega)]
        refine J.seq ?_
        refine J.region ?_
        refine L.va rfl (X.assign (by conv => lhs; whnf)) ?_
        refine L.nil ?_
        -- ret
        refine J.ret ?_
        refine thn_ret <|  inB_ret <|  thn_ret <|  thn_ret <|  inB_ret <|  thn_ret <| ?_
        refine fin1 ?_
        exact ⟨rfl, he05⟩
      refine L.va rfl (X.fieldAddr rfl Try.underlying150 rfl sz_3 (by decide)) ?_
      refine L.va rfl (X.load rfl sc_3 (by first | exact Ld.blk hk5 rfl | exact Ld.blk hk15 rfl | exact hA)) ?_
      refine L.va rfl (X.fieldAddr rfl Try.underlying49 rfl sz_45 (by decide)) ?_
      refine L.va rfl (X.load rfl sc_45 (by first | exact Ld.blk hk5 rfl | exact Ld.blk hk15 rfl | exact hA)) ?_
      refine L.va rfl (X.len rfl Try.underlying45) ?_
      refine L.va rfl (X.geq rfl rfl) ?_
      refine L.va rfl (X.pickF rfl (by conv => lhs; whnf)) ?_
      refine L.nil ?_
      -- cond
      refine J.dec rfl (fun h4 => ?_) (fun h4 => ?_)
      · rw [fst_at (d := fi0) (i := i) (by omega) hP (by rw [← hx, fE_11 (by omega)]; decide), ← hx, fE_11 (by omega)]
        refine J.seq ?_
        refine J.region ?_
        refine L.va rfl (X.assign (by conv => lhs; whnf)) ?_
        refine L.nil ?_
        -- ret
        refine J.ret ?_
        refine thn_ret <|  inB_ret <|  thn_ret <|  thn_ret <|  inB_ret <|  thn_ret <| ?_
        refine fin1 ?_
        exact ⟨rfl, he05⟩
      refine J.skip ?_
      refine J.seq ?_
      refine J.seq ?_
      refine J.region ?_
      refine L.va rfl (X.fieldAddr rfl Try.underlying150 rfl sz_23 (by decide)) ?_
      refine L.va rfl (X.load rfl sc_23 (by first | exact Ld.blk hk5 rfl | exact Ld.blk hk15 rfl | exact hA)) ?_
      refine L.va rfl (X.len rfl Try.underlying23) ?_
      refine L.va rfl (X.gtr rfl rfl) ?_
      refine L.nil ?_
      -- cond
      refine J.dec rfl (fun h5 => ?_) (fun h5 => ?_)
      · rw [fst_at (d := fi0) (i := i) (by omega) hP (by rw [← hx, fE_3 (by omega) (by omega)]; decide), ← hx, fE_3 (by omega) (by omega)]
        refine J.seq ?_
        refine J.region ?_
        refine L.va rfl (X.assign (by conv => lhs; whnf)) ?_
        refine L.nil ?_
        -- ret
        refine J.ret ?_
        refine thn_ret <|  inB_ret <|  thn_ret <|  thn_ret <|  inB_ret <|  thn_ret <| ?_
        refine fin1 ?_
        exact ⟨rfl, he05⟩
      obtain ⟨dn, hdn⟩ : ∃ dn : Nat, x.d = (dn : Int) := ⟨x.d.toNat, by omega⟩
      have hdlt : dn < s.nd := by omega
      refine J.skip ?_
      refine J.seq ?_
      refine J.region ?_
      refine L.va rfl (X.fieldAddr rfl Try.underlying150 rfl sz_23 (by decide)) ?_
      refine L.va rfl (X.load rfl sc_23 (by first | exact Ld.blk hk5 rfl | exact Ld.blk hk15 rfl | exact hA)) ?_
      refine L.va rfl (X.len rfl Try.underlying23) ?_
      refine L.va rfl (X.move (by conv => lhs; whnf)) ?_
      refine L.nil ?_
      refine J.block ?_
      -- loop
      refine J.loop (X := Nat) [4, 8, 39, 40, 41, 42, 43, 44, 45, 46, 47, 48, 49, 50, 51, 52, 53, 54, 55, 56] (fun k => [(39, .int .i64 (k : Int))]) (fun k w' => k ≤ x.n ∧ (∀ j, j < k → cOk s x.d (x.l.getD j 0)) ∧ Ext w5 w') (fun k => x.n - k) (0) (At1 (by first | rfl | exact at_int rfl (by omega) | exact at_slice rfl (by omega) | exact at_int rfl (by simp))) ?_ ?_
      · exact ⟨Nat.zero_le _, fun j hj => absurd hj (by omega), Ext.refl _⟩
      · rintro k g w6 ⟨hk, hQ, he6⟩
        have hk6 := hk5.ext he6
        have hk16 := hk15.ext he6
        have r6 := hX5.r.ext he6
        have hd6 := (H5.ext he6).hd
        refine J.seq ?_
        refine J.region ?_
        refine L.va rfl (X.lss rfl rfl) ?_
        refine L.nil ?_
        refine J.seq ?_
        -- cond
        refine J.dec rfl (fun hlt2 => ?_) (fun hlt2 => ?_)
        · have hkn : k < x.n := by omega
          have hA1 := r6.some_ (by omega)
          have hA2 := hd6.some_ (by omega)
          refine J.skip ?_
          refine J.seq ?_
          refine J.block ?_
          refine J.seq ?_
          refine J.region ?_
          refine L.va rfl ((by first | exact X.index1n rfl rfl Try.underlying23 sz_3 (by first | exact Option.some_ne_none _ | exact r6.some_ (by omega) | exact hd6.some_ (by omega) | exact hA1 | exact hA2) (by omega) | exact X.index1 rfl rfl Try.underlying23 sz_3 (by first | exact Option.some_ne_none _ | exact r6.some_ (by omega) | exact hd6.some_ (by omega) | exact hA1 | exact hA2) (by omega))) ?_
          refine L.va rfl (X.load rfl sc_3 (by first | exact Ld.blk hk6 rfl | exact Ld.blk hk16 rfl | exact Ld.num r6 (by omega) | exact Ld.dimS hd6 (by omega) | exact Ld.dimN hd6 (by omega) | exact hA1 | exact hA2)) ?_
          refine L.va rfl (X.assign (by conv => lhs; whnf)) ?_
          refine L.nil ?_
          refine J.seq ?_
          refine J.region ?_
          refine L.va rfl (X.move (by conv => lhs; whnf)) ?_
          refine L.va rfl (X.lss rfl rfl) ?_
          refine L.va rfl (X.move (by conv => lhs; whnf)) ?_
          -- case t45
          refine L.caseDec (k := 45) rfl (fun h6 => ?_) (fun h6 => ?_)
          · refine L.no rfl ?_
            refine L.no rfl ?_
            refine L.no rfl ?_
            refine L.no rfl ?_
            refine L.no rfl ?_
            refine L.no rfl ?_
            refine L.no rfl ?_
            refine L.no rfl ?_
            refine L.no rfl ?_
            refine L.va rfl (X.pickT rfl (by conv => lhs; whnf)) ?_
            refine L.nil ?_
            -- cond
            refine J.iteT rfl ?_
            rw [fst_at (d := fi0) (i := i) (by omega) hP (by rw [← hx, fE_2 (by omega) (by omega) hkn (by unfold cOk; omega)]; decide), ← hx, fE_2 (by omega) (by omega) hkn (by unfold cOk; omega)]
            refine J.seq ?_
            refine J.region ?_
            refine L.va rfl (X.assign (by conv => lhs; whnf)) ?_
            refine L.nil ?_
            -- ret
            refine J.ret ?_
            refine inB_ret <|  thn_ret <|  thn_ret <|  inB_ret <|  inB_ret <|  thn_ret <|  thn_ret <|  inB_ret <|  thn_ret <| ?_
            refine fin1 ?_
            exact ⟨rfl, he05.trans he6⟩
          refine L.va rfl (X.move (by conv => lhs; whnf)) ?_
          refine L.va rfl (X.fieldAddr rfl Try.underlying49 rfl sz_45 (by decide)) ?_
          refine L.va rfl (X.load rfl sc_45 (by first | exact Ld.blk hk6 rfl | exact Ld.blk hk16 rfl | exact Ld.num r6 (by omega) | exact Ld.dimS hd6 (by omega) | exact Ld.dimN hd6 (by omega) | exact hA1 | exact hA2)) ?_
          refine L.va rfl (X.fieldAddr rfl Try.underlying150 rfl sz_3 (by decide)) ?_
          refine L.va rfl (X.load rfl sc_3 (by first | exact Ld.blk hk6 rfl | exact Ld.blk hk16 rfl | exact Ld.num r6 (by omega) | exact Ld.dimS hd6 (by omega) | exact Ld.dimN hd6 (by omega) | exact hA1 | exact hA2)) ?_
          refine L.va rfl ((by first | exact X.indexAddrn rfl rfl Try.underlying45 sz_128 (by first | exact Option.some_ne_none _ | exact r6.some_ (by omega) | exact hd6.some_ (by omega) | exact hA1 | exact hA2) (by omega) | exact X.indexAddr rfl rfl Try.underlying45 sz_128 (by first | exact Option.some_ne_none _ | exact r6.some_ (by omega) | exact hd6.some_ (by omega) | exact hA1 | exact hA2) (by omega))) ?_
          refine L.va rfl (X.fieldP rfl Try.underlying128 rfl sz_3 (by decide) (by first | exact Option.some_ne_none _ | exact r6.some_ (by omega) | exact hd6.some_ (by omega) | exact hA1 | exact hA2)) ?_
          refine L.va rfl (X.load rfl sc_3 (by first | exact Ld.blk hk6 rfl | exact Ld.blk hk16 rfl | exact Ld.num r6 (by omega) | exact Ld.dimS hd6 (by omega) | exact Ld.dimN hd6 (by omega) | exact hA1 | exact hA2)) ?_
          refine L.va rfl (X.geq rfl rfl) ?_
          refine L.va rfl (X.pickF rfl (by conv => lhs; whnf)) ?_
          refine L.nil ?_
          -- cond
          refine J.dec rfl (fun h7 => ?_) (fun h7 => ?_)
          · rw [fst_at (d := fi0) (i := i) (by omega) hP (by rw [← hx, fE_2 (by omega) (by omega) hkn (by unfold cOk; omega)]; decide), ← hx, fE_2 (by omega) (by omega) hkn (by unfold cOk; omega)]
            refine J.seq ?_
            refine J.region ?_
            refine L.va rfl (X.assign (by conv => lhs; whnf)) ?_
            refine L.nil ?_
            -- ret
            refine J.ret ?_
            refine inB_ret <|  thn_ret <|  thn_ret <|  inB_ret <|  inB_ret <|  thn_ret <|  thn_ret <|  inB_ret <|  thn_ret <| ?_
            refine fin1 ?_
            exact ⟨rfl, he05.trans he6⟩
          refine J.skip ?_
          refine J.region ?_
          refine L.va rfl (X.add rfl rfl (by omega)) ?_
          refine L.va rfl (X.move (by conv => lhs; whnf)) ?_
          refine L.nil ?_
          -- loopend
          refine ⟨k + 1, At1 (by first | rfl | exact at_int rfl (by omega) | exact at_slice rfl (by omega) | exact at_int rfl (by simp)), (by (iterate 20 refine Agr.lk rfl ?_); exact Agr.lk rfl (Agr.hav rfl Agr.rfl')), ?_⟩
          refine ⟨⟨by omega, fun j hj => ?_, he6⟩, by omega⟩
          rcases Nat.lt_or_ge j k with h | h
          · exact hQ j h
          · obtain rfl : j = k := by omega
            exact ⟨by omega, by omega⟩
        · have e0 : fE s x = 0 := fE_0 (by omega) (by omega) (fun j hj => hQ j (by omega))
          refine J.exit ?_
          refine J.region ?_
          refine L.va rfl (X.add rfl rfl (by omega)) ?_
          refine L.va rfl (X.move (by conv => lhs; whnf)) ?_
          refine L.nil ?_
          -- loopend
          refine ⟨i + 1, At1 (by first | rfl | exact at_int rfl (by omega) | exact at_slice rfl (by omega) | exact at_int rfl (by simp)), (by (iterate 3 refine Agr.lk rfl ?_); refine Agr.lk rfl ?_; refine Agr.hav rfl ?_; (iterate 24 refine Agr.lk rfl ?_); exact Agr.lk rfl (Agr.hav rfl Agr.rfl')), ?_⟩
          refine ⟨⟨by omega, fun j hj => ?_, he25.trans he6⟩, by omega⟩
          rcases Nat.lt_or_ge j i with h | h
          · exact hP j h
          · obtain rfl : j = i := by omega
            rw [← hx]; exact e0
    · rw [fst_0 (d := fi0) (fun j hj => hP j (by omega))]
      refine J.exit ?_
      refine J.seq ?_
      refine J.region ?_
      refine L.va rfl (X.assign (by conv => lhs; whnf)) ?_
      refine L.nil ?_
      -- ret
      refine J.ret ?_
      refine fin1 ?_
      exact ⟨rfl, he02.trans he3⟩
theorem rfcheck {s : Sch} {f : Fis} {w : World} (H : s.Here w) (hf : f.At w.heap.size w) : Calls Try.prog 99 #[s.val, f.val] w fun e w' => e = .returned (.int .i64 (fcode s f)) ∧ Ext w w' := by
  have hl := hf.l
  have hm := hf.m
  have hle := H.hle
  unfold maxLen at hm
  refine enter Try.func99 rfl (by kernel_rfl) ?_
  refine J.seq ?_
  refine J.region ?_
  -- box
  refine L.boxA (l := [_, _, _, _]) rfl rfl ?_
  intro b1 w1 hb1 hs1 hk1 he1
  have H1 := H.ext he1
  refine L.va rfl (X.assign (by conv => lhs; whnf)) ?_
  refine L.nil ?_
  refine J.seq ?_
  refine J.seq ?_
  refine J.region ?_
  refine L.va rfl ((by first | exact X.loadAgg rfl (range_l hk1) Try.underlying49 rfl (by kernel_rfl) | exact X.loadAgg rfl (range_blk hk1) Try.underlying49 rfl (by kernel_rfl))) ?_
  -- callfn bushel/bushelref11.Check
  refine L.call rfl en_97 rfl (H1.rcheck) ?_
  rintro e w2 ⟨rfl, he2⟩
  refine ⟨_, rfl, ?_⟩
  have he02 := he1.trans he2
  replace hk1 := hk1.ext he2
  refine L.va rfl (X.neq rfl rfl) ?_
  refine L.nil ?_
  -- cond
  refine J.ndec rfl (fun h1 => ?_) (fun h1 => ?_)
  · have e : fcode s f = 1 := by unfold fcode; rw [if_pos h1]
    rw [e]
    refine J.seq ?_
    refine J.region ?_
    refine L.va rfl (X.assign (by conv => lhs; whnf)) ?_
    refine L.nil ?_
    -- ret
    refine J.ret ?_
    refine thn_ret <| ?_
    refine fin1 ?_
    exact ⟨rfl, he02⟩
  refine J.skip ?_
  refine J.seq ?_
  refine J.seq ?_
  refine J.region ?_
  refine L.va rfl (X.move (by conv => lhs; whnf)) ?_
  refine L.va rfl (X.len rfl Try.underlying51) ?_
  refine L.va rfl (X.gtr rfl rfl) ?_
  refine L.nil ?_
  -- cond
  refine J.dec rfl (fun h2 => ?_) (fun h2 => ?_)
  · have e : fcode s f = 3 := by unfold fcode; rw [if_neg (fun h => h h1), if_pos (by omega)]
    rw [e]
    refine J.seq ?_
    refine J.region ?_
    refine L.va rfl (X.assign (by conv => lhs; whnf)) ?_
    refine L.nil ?_
    -- ret
    refine J.ret ?_
    refine thn_ret <| ?_
    refine fin1 ?_
    exact ⟨rfl, he02⟩
  have e : fcode s f = fst' (fE s) f.l := by unfold fcode; rw [if_neg (fun h => h h1), if_neg (by omega)]
  rw [e]
  have z2 := he02.le
  have H2 := H.ext he02
  refine J.skip ?_
  refine J.seq ?_
  refine J.seq ?_
  refine J.region ?_
  refine L.va rfl (X.assign (by conv => lhs; whnf)) ?_
  refine L.nil ?_
  refine J.block ?_
  -- loop
  refine J.loop (X := Nat) [4, 5, 6, 7, 14, 15, 16, 17, 18, 19, 20, 21, 22, 23, 24, 25, 26, 27, 28, 29, 30, 31, 32, 33, 34, 35, 36, 37, 38, 39, 40, 41, 42, 43, 44, 45, 46, 47, 48, 49, 50, 51, 52, 53, 54, 55, 56, 57, 58, 59, 60, 61, 62, 63, 64, 65, 66] (fun i => [(5, .int .i64 (i : Int))]) (fun i w' => i ≤ f.n ∧ (∀ j, j < i → fE s (f.l.getD j fi0) = 0) ∧ Ext w2 w') (fun i => f.n - i) (0) (At1 (by first | rfl | exact at_int rfl (by omega) | exact at_slice rfl (by omega) | exact at_int rfl (by simp))) ?_ ?_
  · exact ⟨Nat.zero_le _, fun j hj => absurd hj (by omega), Ext.refl _⟩
  · rintro i g w3 ⟨hi, hP, he3⟩
    have z3 := he3.le
    have he03 := he02.trans he3
    have hf3 := hf.ext he03
    have hk3 := hk1.ext he3
    have H3 := H2.ext he3
    refine J.seq ?_
    refine J.seq ?_
    refine J.region ?_
    refine L.va rfl (X.move (by conv => lhs; whnf)) ?_
    refine L.va rfl (X.move (by conv => lhs; whnf)) ?_
    refine L.va rfl (X.len rfl Try.underlying51) ?_
    refine L.va rfl (X.lss rfl rfl) ?_
    refine L.nil ?_
    -- cond
    refine J.dec rfl (fun hlt => ?_) (fun hlt => ?_)
    · have hin : i < f.n := by omega
      have hA := hf3.r.some_ (by omega)
      obtain ⟨x, hx⟩ : ∃ x, x = f.l.getD i fi0 := ⟨_, rfl⟩
      have hX := hf3.one hin
      have hgt := gtF (l := f.l) (i := i) (by omega)
      rw [← hx] at hX hgt
      -- t23
      refine J.skip ?_
      refine J.seq ?_
      refine J.block ?_
      refine J.seq ?_
      refine J.region ?_
      refine L.va rfl (X.move (by conv => lhs; whnf)) ?_
      refine L.va rfl (X.move (by conv => lhs; whnf)) ?_
      refine L.va rfl ((by first | exact X.indexAddrn rfl rfl Try.underlying51 sz_150 (by first | exact Option.some_ne_none _ | exact hA) (by omega) | exact X.indexAddr rfl rfl Try.underlying51 sz_150 (by first | exact Option.some_ne_none _ | exact hA) (by omega))) ?_
      refine L.va rfl (X.loadRow (cs := x.vs) rfl hf3.r (fun r u hu => flat_row fi_len hgt r u hu) (Nat.zero_lt_succ _) Try.underlying150 rfl (by kernel_rfl)) ?_
      -- alloc
      refine L.alloc rfl zr_150 ?_
      intro b4 w4 hb4 hs4 hk4 he4
      -- store
      refine L.storeAgg (vs := [_, _]) rfl rfl rfl rfl sz_150 (hk4) rfl ?_
      intro w5 hk5 hg5 hs5
      have he35 : Ext w3 w5 := he4.grw hg5 (by intro g hg; injection hg with hg; omega)
      have hk5 : Blk w5 b4 150 x.vs.toArray := hk5
      have he05 := he03.trans he35
      have he25 := he3.trans he35
      have hk15 := hk3.ext he35
      have hX5 := hX.ext he35
      have H5 := H3.ext he35
      have hxl := hX5.len
      have hxm := hX5.m
      unfold maxLen at hxm
      have z5 := he25.le
      refine L.nil ?_
      refine J.seq ?_
      refine J.seq ?_
      refine J.region ?_
      refine L.va rfl (X.fieldAddr rfl Try.underlying150 rfl sz_3 (by decide)) ?_
      refine L.va rfl (X.load rfl sc_3 (by first | exact Ld.blk hk5 rfl | exact Ld.blk hk15 rfl | exact hA)) ?_
      refine L.va rfl (X.lss rfl rfl) ?_
      refine L.va rfl (X.move (by conv => lhs; whnf)) ?_
      -- case t27
      refine L.caseDec (k := 27) rfl (fun h3 => ?_) (fun h3 => ?_)
      · refine L.no rfl ?_
        refine L.no rfl ?_
        refine L.no rfl ?_
        refine L.no rfl ?_
        refine L.no rfl ?_
        refine L.no rfl ?_
        refine L.va rfl (X.pickT rfl (by conv => lhs; whnf)) ?_
        refine L.nil ?_
        -- cond
        refine J.iteT rfl ?_
        rw [fst_at (d := fi0) (i := i) (by omega) hP (by rw [← hx, fE_11 (by omega)]; decide), ← hx, fE_11 (by omega)]
        refine J.seq ?_
        refine J.region ?_
        refine L.va rfl (X.assign (by conv => lhs; whnf)) ?_
        refine L.nil ?_
        -- ret
        refine J.ret ?_
        refine thn_ret <|  inB_ret <|  thn_ret <|  thn_ret <|  inB_ret <|  thn_ret <| ?_
        refine fin1 ?_
        exact ⟨rfl, he05⟩
      refine L.va rfl (X.fieldAddr rfl Try.underlying150 rfl sz_3 (by decide)) ?_
      refine L.va rfl (X.load rfl sc_3 (by first | exact Ld.blk hk5 rfl | exact Ld.blk hk15 rfl | exact hA)) ?_
      refine L.va rfl (X.fieldAddr rfl Try.underlying49 rfl sz_45 (by decide)) ?_
      refine L.va rfl (X.load rfl sc_45 (by first | exact Ld.blk hk5 rfl | exact Ld.blk hk15 rfl | exact hA)) ?_
      refine L.va rfl (X.len rfl Try.underlying45) ?_
      refine L.va rfl (X.geq rfl rfl) ?_
      refine L.va rfl (X.pickF rfl (by conv => lhs; whnf)) ?_
      refine L.nil ?_
      -- cond
      refine J.dec rfl (fun h4 => ?_) (fun h4 => ?_)
      · rw [fst_at (d := fi0) (i := i) (by omega) hP (by rw [← hx, fE_11 (by omega)]; decide), ← hx, fE_11 (by omega)]
        refine J.seq ?_
        refine J.region ?_
        refine L.va rfl (X.assign (by conv => lhs; whnf)) ?_
        refine L.nil ?_
        -- ret
        refine J.ret ?_
        refine thn_ret <|  inB_ret <|  thn_ret <|  thn_ret <|  inB_ret <|  thn_ret <| ?_
        refine fin1 ?_
        exact ⟨rfl, he05⟩
      refine J.skip ?_
      refine J.seq ?_
      refine J.seq ?_
      refine J.region ?_
      refine L.va rfl (X.fieldAddr rfl Try.underlying150 rfl sz_23 (by decide)) ?_
      refine L.va rfl (X.load rfl sc_23 (by first | exact Ld.blk hk5 rfl | exact Ld.blk hk15 rfl | exact hA)) ?_
      refine L.va rfl (X.len rfl Try.underlying23) ?_
      refine L.va rfl (X.gtr rfl rfl) ?_
      refine L.nil ?_
      -- cond
      refine J.dec rfl (fun h5 => ?_) (fun h5 => ?_)
      · rw [fst_at (d := fi0) (i := i) (by omega) hP (by rw [← hx, fE_3 (by omega) (by omega)]; decide), ← hx, fE_3 (by omega) (by omega)]
        refine J.seq ?_
        refine J.region ?_
        refine L.va rfl (X.assign (by conv => lhs; whnf)) ?_
        refine L.nil ?_
        -- ret
        refine J.ret ?_
        refine thn_ret <|  inB_ret <|  thn_ret <|  thn_ret <|  inB_ret <|  thn_ret <| ?_
        refine fin1 ?_
        exact ⟨rfl, he05⟩
      have hdlt : x.d.toNat < s.nd := by omega
      refine J.skip ?_
      refine J.seq ?_
      refine J.region ?_
      refine L.va rfl (X.assign (by conv => lhs; whnf)) ?_
      refine L.nil ?_
      refine J.block ?_
      -- loop
      refine J.loop (X := Nat) [4, 7, 39, 40, 41, 42, 43, 44, 45, 46, 47, 48, 49, 50, 51, 52, 53, 54, 55, 56, 57, 58, 59, 60, 61, 62, 63, 64, 65, 66] (fun k => [(7, .int .i64 (k : Int))]) (fun k w' => k ≤ x.n ∧ (∀ j, j < k → cOk s x.d (x.l.getD j 0)) ∧ Ext w5 w') (fun k => x.n - k) (0) (At1 (by first | rfl | exact at_int rfl (by omega) | exact at_slice rfl (by omega) | exact at_int rfl (by simp))) ?_ ?_
      · exact ⟨Nat.zero_le _, fun j hj => absurd hj (by omega), Ext.refl _⟩
      · rintro k g w6 ⟨hk, hQ, he6⟩
        have hk6 := hk5.ext he6
        have hk16 := hk15.ext he6
        have r6 := hX5.r.ext he6
        have hd6 := (H5.ext he6).hd
        refine J.seq ?_
        refine J.seq ?_
        refine J.region ?_
        refine L.va rfl (X.move (by conv => lhs; whnf)) ?_
        refine L.va rfl (X.fieldAddr rfl Try.underlying150 rfl sz_23 (by decide)) ?_
        refine L.va rfl (X.load rfl sc_23 (by first | exact Ld.blk hk6 rfl | exact Ld.blk hk16 rfl | exact Ld.num r6 (by omega) | exact Ld.dimS hd6 (by omega) | exact Ld.dimN hd6 (by omega) | exact hA)) ?_
        refine L.va rfl (X.len rfl Try.underlying23) ?_
        refine L.va rfl (X.lss rfl rfl) ?_
        refine L.nil ?_
        -- cond
        refine J.dec rfl (fun hlt2 => ?_) (fun hlt2 => ?_)
        · have hkn : k < x.n := by omega
          have hA1 := r6.some_ (by omega)
          have hA2 := hd6.some_ (by omega)
          refine J.skip ?_
          refine J.seq ?_
          refine J.block ?_
          refine J.seq ?_
          -- draw
          refine J.quiet mixed (by kernel_rfl) ?_
          refine Qt.va rfl (fun w' hw => X.fieldAddr rfl Try.underlying150 rfl sz_23 (by decide)) ?_
          refine Qt.va rfl (fun w' hw => X.load rfl sc_23 (by first | exact Ld.blk (hk6.ext hw) rfl | exact Ld.blk (hk16.ext hw) rfl | exact Ld.num (r6.ext hw) (by omega) | exact Ld.dimS (hd6.ext hw) (by omega) | exact Ld.dimN (hd6.ext hw) (by omega) | exact hA1 | exact hA2)) ?_
          refine Qt.va rfl (fun w' hw => X.move (by conv => lhs; whnf)) ?_
          refine Qt.va rfl (fun w' hw => (by first | exact X.index1n rfl rfl Try.underlying23 sz_3 (by first | exact Option.some_ne_none _ | exact r6.some_ (by omega) | exact hd6.some_ (by omega) | exact hA1 | exact hA2) (by omega) | exact X.index1 rfl rfl Try.underlying23 sz_3 (by first | exact Option.some_ne_none _ | exact r6.some_ (by omega) | exact hd6.some_ (by omega) | exact hA1 | exact hA2) (by omega))) ?_
          refine Qt.va rfl (fun w' hw => X.load rfl sc_3 (by first | exact Ld.blk (hk6.ext hw) rfl | exact Ld.blk (hk16.ext hw) rfl | exact Ld.num (r6.ext hw) (by omega) | exact Ld.dimS (hd6.ext hw) (by omega) | exact Ld.dimN (hd6.ext hw) (by omega) | exact hA1 | exact hA2)) ?_
          refine Qt.va rfl (fun w' hw => X.lss rfl rfl) ?_
          refine Qt.va rfl (fun w' hw => X.move (by conv => lhs; whnf)) ?_
          -- case t52
          refine Qt.caseDec (k := 52) rfl (fun h6 => ?_) (fun h6 => ?_)
          · refine Qt.no rfl ?_
            refine Qt.no rfl ?_
            refine Qt.no rfl ?_
            refine Qt.no rfl ?_
            refine Qt.no rfl ?_
            refine Qt.no rfl ?_
            refine Qt.no rfl ?_
            refine Qt.no rfl ?_
            refine Qt.no rfl ?_
            refine Qt.no rfl ?_
            refine Qt.no rfl ?_
            refine Qt.no rfl ?_
            refine Qt.no rfl ?_
            refine Qt.va rfl (fun w' hw => X.pickT rfl (by conv => lhs; whnf)) ?_
            refine Qt.nil (fun w7 hq => ?_)
            replace hk6 := hk6.ext hq
            replace hk16 := hk16.ext hq
            replace r6 := r6.ext hq
            replace hd6 := hd6.ext hq
            -- cond
            refine J.iteT rfl ?_
            rw [fst_at (d := fi0) (i := i) (by omega) hP (by rw [← hx, fE_2 (by omega) (by omega) hkn (by unfold cOk; omega)]; decide), ← hx, fE_2 (by omega) (by omega) hkn (by unfold cOk; omega)]
            refine J.seq ?_
            refine J.region ?_
            refine L.va rfl (X.assign (by conv => lhs; whnf)) ?_
            refine L.nil ?_
            -- ret
            refine J.ret ?_
            refine inB_ret <|  thn_ret <|  thn_ret <|  inB_ret <|  inB_ret <|  thn_ret <|  thn_ret <|  inB_ret <|  thn_ret <| ?_
            refine fin1 ?_
            exact ⟨rfl, he05.trans (he6.trans hq)⟩
          refine Qt.va rfl (fun w' hw => X.fieldAddr rfl Try.underlying150 rfl sz_23 (by decide)) ?_
          refine Qt.va rfl (fun w' hw => X.load rfl sc_23 (by first | exact Ld.blk (hk6.ext hw) rfl | exact Ld.blk (hk16.ext hw) rfl | exact Ld.num (r6.ext hw) (by omega) | exact Ld.dimS (hd6.ext hw) (by omega) | exact Ld.dimN (hd6.ext hw) (by omega) | exact hA1 | exact hA2)) ?_
          refine Qt.va rfl (fun w' hw => X.move (by conv => lhs; whnf)) ?_
          refine Qt.va rfl (fun w' hw => (by first | exact X.index1n rfl rfl Try.underlying23 sz_3 (by first | exact Option.some_ne_none _ | exact r6.some_ (by omega) | exact hd6.some_ (by omega) | exact hA1 | exact hA2) (by omega) | exact X.index1 rfl rfl Try.underlying23 sz_3 (by first | exact Option.some_ne_none _ | exact r6.some_ (by omega) | exact hd6.some_ (by omega) | exact hA1 | exact hA2) (by omega))) ?_
          refine Qt.va rfl (fun w' hw => X.load rfl sc_3 (by first | exact Ld.blk (hk6.ext hw) rfl | exact Ld.blk (hk16.ext hw) rfl | exact Ld.num (r6.ext hw) (by omega) | exact Ld.dimS (hd6.ext hw) (by omega) | exact Ld.dimN (hd6.ext hw) (by omega) | exact hA1 | exact hA2)) ?_
          refine Qt.va rfl (fun w' hw => X.fieldAddr rfl Try.underlying49 rfl sz_45 (by decide)) ?_
          refine Qt.va rfl (fun w' hw => X.load rfl sc_45 (by first | exact Ld.blk (hk6.ext hw) rfl | exact Ld.blk (hk16.ext hw) rfl | exact Ld.num (r6.ext hw) (by omega) | exact Ld.dimS (hd6.ext hw) (by omega) | exact Ld.dimN (hd6.ext hw) (by omega) | exact hA1 | exact hA2)) ?_
          refine Qt.va rfl (fun w' hw => X.fieldAddr rfl Try.underlying150 rfl sz_3 (by decide)) ?_
          refine Qt.va rfl (fun w' hw => X.load rfl sc_3 (by first | exact Ld.blk (hk6.ext hw) rfl | exact Ld.blk (hk16.ext hw) rfl | exact Ld.num (r6.ext hw) (by omega) | exact Ld.dimS (hd6.ext hw) (by omega) | exact Ld.dimN (hd6.ext hw) (by omega) | exact hA1 | exact hA2)) ?_
          refine Qt.va rfl (fun w' hw => (by first | exact X.indexAddrn rfl rfl Try.underlying45 sz_128 (by first | exact Option.some_ne_none _ | exact r6.some_ (by omega) | exact hd6.some_ (by omega) | exact hA1 | exact hA2) (by omega) | exact X.indexAddr rfl rfl Try.underlying45 sz_128 (by first | exact Option.some_ne_none _ | exact r6.some_ (by omega) | exact hd6.some_ (by omega) | exact hA1 | exact hA2) (by omega))) ?_
          refine Qt.va rfl (fun w' hw => X.fieldP rfl Try.underlying128 rfl sz_3 (by decide) (by first | exact Option.some_ne_none _ | exact r6.some_ (by omega) | exact hd6.some_ (by omega) | exact hA1 | exact hA2)) ?_
          refine Qt.va rfl (fun w' hw => X.load rfl sc_3 (by first | exact Ld.blk (hk6.ext hw) rfl | exact Ld.blk (hk16.ext hw) rfl | exact Ld.num (r6.ext hw) (by omega) | exact Ld.dimS (hd6.ext hw) (by omega) | exact Ld.dimN (hd6.ext hw) (by omega) | exact hA1 | exact hA2)) ?_
          refine Qt.va rfl (fun w' hw => X.geq rfl rfl) ?_
          refine Qt.va rfl (fun w' hw => X.pickF rfl (by conv => lhs; whnf)) ?_
          refine Qt.nil (fun w7 hq => ?_)
          replace hk6 := hk6.ext hq
          replace hk16 := hk16.ext hq
          replace r6 := r6.ext hq
          replace hd6 := hd6.ext hq
          -- cond
          refine J.dec rfl (fun h7 => ?_) (fun h7 => ?_)
          · rw [fst_at (d := fi0) (i := i) (by omega) hP (by rw [← hx, fE_2 (by omega) (by omega) hkn (by unfold cOk; omega)]; decide), ← hx, fE_2 (by omega) (by omega) hkn (by unfold cOk; omega)]
            refine J.seq ?_
            refine J.region ?_
            refine L.va rfl (X.assign (by conv => lhs; whnf)) ?_
            refine L.nil ?_
            -- ret
            refine J.ret ?_
            refine inB_ret <|  thn_ret <|  thn_ret <|  inB_ret <|  inB_ret <|  thn_ret <|  thn_ret <|  inB_ret <|  thn_ret <| ?_
            refine fin1 ?_
            exact ⟨rfl, he05.trans (he6.trans hq)⟩
          refine J.skip ?_
          refine J.region ?_
          refine L.va rfl (X.move (by conv => lhs; whnf)) ?_
          refine L.va rfl (X.add rfl rfl (by omega)) ?_
          refine L.va rfl (X.assign (by conv => lhs; whnf)) ?_
          refine L.nil ?_
          -- loopend
          refine ⟨k + 1, At1 (by first | rfl | exact at_int rfl (by omega) | exact at_slice rfl (by omega) | exact at_int rfl (by simp)), (by (iterate 30 refine Agr.lk rfl ?_); exact Agr.lk rfl (Agr.hav rfl Agr.rfl')), ?_⟩
          refine ⟨⟨by omega, fun j hj => ?_, he6.trans hq⟩, by omega⟩
          rcases Nat.lt_or_ge j k with h | h
          · exact hQ j h
          · obtain rfl : j = k := by omega
            exact ⟨by omega, by omega⟩
        · have e0 : fE s x = 0 := fE_0 (by omega) (by omega) (fun j hj => hQ j (by omega))
          refine J.exit ?_
          refine J.region ?_
          refine L.va rfl (X.move (by conv => lhs; whnf)) ?_
          refine L.va rfl (X.add rfl rfl (by omega)) ?_
          refine L.va rfl (X.assign (by conv => lhs; whnf)) ?_
          refine L.nil ?_
          -- loopend
          refine ⟨i + 1, At1 (by first | rfl | exact at_int rfl (by omega) | exact at_slice rfl (by omega) | exact at_int rfl (by simp)), (by (iterate 8 refine Agr.lk rfl ?_); refine Agr.lk rfl ?_; refine Agr.hav rfl ?_; (iterate 26 refine Agr.lk rfl ?_); exact Agr.lk rfl (Agr.hav rfl Agr.rfl')), ?_⟩
          refine ⟨⟨by omega, fun j hj => ?_, he25.trans he6⟩, by omega⟩
          rcases Nat.lt_or_ge j i with h | h
          · exact hP j h
          · obtain rfl : j = i := by omega
            rw [← hx]; exact e0
    · rw [fst_0 (d := fi0) (fun j hj => hP j (by omega))]
      refine J.exit ?_
      refine J.seq ?_
      refine J.region ?_
      refine L.va rfl (X.assign (by conv => lhs; whnf)) ?_
      refine L.nil ?_
      -- ret
      refine J.ret ?_
      refine fin1 ?_
      exact ⟨rfl, he02.trans he3⟩
end Go.Proofs.Ytlipeplfjkgamaa
