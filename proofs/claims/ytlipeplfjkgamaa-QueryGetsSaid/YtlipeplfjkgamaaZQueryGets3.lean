import Derived.Laws.BitsAllLaws
import Derived.Test.YtlipeplfjkgamaaZQueryGets2
/-
  What the law leans on, part 3: WFilA, WQryA, WQryB, QryPlain, HeapPlain, SrtPlain, NrmPlain, SrtI, SrtIB, SrtBits, SrtIC.
-/
namespace Go.Proofs.Ytlipeplfjkgamaa
set_option maxRecDepth 100000
open Go.RowKit H
set_option linter.unusedVariables false
def fst' {α : Type} (g : α → Int) : List α → Int
  | [] => 0
  | x :: t => if g x ≠ 0 then g x else fst' g t
theorem fst_at {α : Type} {g : α → Int} {d : α} : ∀ {l : List α} {i : Nat}, i < l.length → (∀ j, j < i → g (l.getD j d) = 0) → g (l.getD i d) ≠ 0 → fst' g l = g (l.getD i d)
  | [], i, h, _, _ => absurd h (by simp)
  | x :: t, 0, _, _, h => by
    have h : g x ≠ 0 := h
    show (if g x ≠ 0 then g x else fst' g t) = g x
    rw [if_pos h]
  | x :: t, i + 1, h, hP, he => by
    have h0 : g x = 0 := hP 0 (by omega)
    show (if g x ≠ 0 then g x else fst' g t) = g ((x :: t).getD (i + 1) d)
    rw [if_neg (fun k => k h0)]
    exact fst_at (l := t) (i := i) (by simpa using h) (fun j hj => hP (j + 1) (by omega)) he
theorem fst_0 {α : Type} {g : α → Int} {d : α} : ∀ {l : List α}, (∀ j, j < l.length → g (l.getD j d) = 0) → fst' g l = 0
  | [], _ => rfl
  | x :: t, hP => by
    have h0 : g x = 0 := hP 0 (by simp)
    show (if g x ≠ 0 then g x else fst' g t) = 0
    rw [if_neg (fun k => k h0)]
    exact fst_0 (l := t) fun j hj => hP (j + 1) (by simpa using hj)
theorem fst_ok {α : Type} {g : α → Int} {d : α} : ∀ {l : List α}, fst' g l = 0 → ∀ j, j < l.length → g (l.getD j d) = 0
  | [], _, j, hj => absurd hj (by simp)
  | x :: t, h, j, hj => by
    have h : (if g x ≠ 0 then g x else fst' g t) = 0 := h
    by_cases h0 : g x = 0
    · rw [if_neg (fun k => k h0)] at h
      cases j with
      | zero => exact h0
      | succ j => exact fst_ok (l := t) h j (by simpa using hj)
    · rw [if_pos h0] at h; exact absurd h h0
structure Fi where
  (d : Int) (A : Option Addr) (n c : Nat) (l : List Int)
namespace Fi
abbrev vs (f : Fi) : List Value := [.int .i64 f.d, .slice f.A f.n f.c]
abbrev val (f : Fi) : Value := .agg f.vs.toArray
structure At (f : Fi) (N : Nat) (w : World) : Prop where
  r : Reads w N 1 f.A f.n (nums .i64 f.l)
  m : f.n ≤ maxLen
theorem At.ext {f : Fi} {N : Nat} {w w' : World} (h : f.At N w) (he : Ext w w') : f.At N w' := ⟨h.r.ext he, h.m⟩
theorem At.low {f : Fi} {N B : Nat} {w w' : World} (h : f.At N w) (he : Below B w w') (hB : N ≤ B) : f.At N w' := ⟨h.r.low he hB, h.m⟩
theorem At.more {f : Fi} {N N' : Nat} {w : World} (h : f.At N w) (hN : N ≤ N') : f.At N' w := ⟨h.r.more hN, h.m⟩
theorem At.len {f : Fi} {N : Nat} {w : World} (h : f.At N w) : f.l.length = f.n := by have := h.r.1; simpa [nums] using this
end Fi
def fi0 : Fi := ⟨0, none, 0, 0, []⟩
theorem fi_len (f : Fi) : f.vs.length = 2 := rfl
theorem gtF {l : List Fi} {i : Nat} (h : i < l.length) : l[i]? = some (l.getD i fi0) := by rw [List.getD, List.getElem?_eq_getElem h]; rfl
theorem memF {l : List Fi} {i : Nat} (h : i < l.length) : l.getD i fi0 ∈ l := by rw [List.getD, List.getElem?_eq_getElem h]; exact List.getElem_mem _
structure Fis where
  (A : Option Addr) (n c : Nat) (l : List Fi)
namespace Fis
abbrev val (s : Fis) : Value := .slice s.A s.n s.c
structure At (s : Fis) (N : Nat) (w : World) : Prop where
  r : Reads w N 2 s.A s.n (s.l.flatMap Fi.vs)
  h : ∀ x ∈ s.l, x.At N w
  l : s.l.length = s.n
  m : s.n ≤ maxLen
theorem At.ext {s : Fis} {N : Nat} {w w' : World} (h : s.At N w) (he : Ext w w') : s.At N w' := ⟨h.r.ext he, fun x hx => (h.h x hx).ext he, h.l, h.m⟩
theorem At.low {s : Fis} {N B : Nat} {w w' : World} (h : s.At N w) (he : Below B w w') (hB : N ≤ B) : s.At N w' := ⟨h.r.low he hB, fun x hx => (h.h x hx).low he hB, h.l, h.m⟩
theorem At.more {s : Fis} {N N' : Nat} {w : World} (h : s.At N w) (hN : N ≤ N') : s.At N' w := ⟨h.r.more hN, fun x hx => (h.h x hx).more hN, h.l, h.m⟩
theorem At.one {s : Fis} {N : Nat} {w : World} (h : s.At N w) {i : Nat} (hi : i < s.n) : (s.l.getD i fi0).At N w := h.h _ (memF (by rw [h.l]; exact hi))
end Fis
abbrev cOk (s : Sch) (d : Int) (c : Int) : Prop := 0 ≤ c ∧ c < (s.ds.getD d.toNat d0).2
def fE (s : Sch) (f : Fi) : Int := if f.d < 0 ∨ (s.nd : Int) ≤ f.d then 11 else if 4096 < f.n then 3 else if ∃ i, i < f.n ∧ ¬ cOk s f.d (f.l.getD i 0) then 2 else 0
def fcode (s : Sch) (f : Fis) : Int := if s.code ≠ 0 then 1 else if 20 < f.n then 3 else fst' (fE s) f.l
theorem fE_11 {s : Sch} {f : Fi} (h : f.d < 0 ∨ (s.nd : Int) ≤ f.d) : fE s f = 11 := by unfold fE; rw [if_pos h]
theorem fE_3 {s : Sch} {f : Fi} (h : ¬ (f.d < 0 ∨ (s.nd : Int) ≤ f.d)) (h2 : 4096 < f.n) : fE s f = 3 := by unfold fE; rw [if_neg h, if_pos h2]
theorem fE_2 {s : Sch} {f : Fi} (h : ¬ (f.d < 0 ∨ (s.nd : Int) ≤ f.d)) (h2 : ¬ 4096 < f.n) {i : Nat} (hi : i < f.n) (h3 : ¬ cOk s f.d (f.l.getD i 0)) : fE s f = 2 := by unfold fE; rw [if_neg h, if_neg h2, if_pos ⟨i, hi, h3⟩]
theorem fE_0 {s : Sch} {f : Fi} (h : ¬ (f.d < 0 ∨ (s.nd : Int) ≤ f.d)) (h2 : ¬ 4096 < f.n) (h3 : ∀ i, i < f.n → cOk s f.d (f.l.getD i 0)) : fE s f = 0 := by
  unfold fE; rw [if_neg h, if_neg h2, if_neg]; rintro ⟨i, hi, k⟩; exact k (h3 i hi)
theorem fcheck {s : Sch} {f : Fis} {w : World} (H : s.Here w) (hf : f.At w.heap.size w) : Calls Try.prog 91 #[s.val, f.val] w fun e w' => e = .returned (.int .i64 (fcode s f)) ∧ Ext w w' := by
  have hl := hf.l
  have hm := hf.m
  have hle := H.hle
  unfold maxLen at hm
  refine enter Try.func91 rfl (by kernel_rfl) ?_
  refine J.seq ?_
  refine J.region ?_
  refine L.boxA (l := [_, _, _, _]) rfl rfl ?_
  intro b1 w1 hb1 hs1 hk1 he1
  have H1 := H.ext he1
  refine L.va rfl (X.assign (by conv => lhs; whnf)) ?_
  refine L.nil ?_
  refine J.seq ?_
  refine J.seq ?_
  refine J.region ?_
  refine L.va rfl ((by first | exact X.loadAgg rfl (range_l hk1) Try.underlying49 rfl (by kernel_rfl) | exact X.loadAgg rfl (range_blk hk1) Try.underlying49 rfl (by kernel_rfl))) ?_
  refine L.call rfl en_107 rfl (H1.check) ?_
  rintro e w2 ⟨rfl, he2⟩
  refine ⟨_, rfl, ?_⟩
  have he02 := he1.trans he2
  replace hk1 := hk1.ext he2
  refine L.va rfl (X.neq rfl rfl) ?_
  refine L.nil ?_
  refine J.ndec rfl (fun h1 => ?_) (fun h1 => ?_)
  · have e : fcode s f = 1 := by unfold fcode; rw [if_pos h1]
    rw [e]
    refine J.seq ?_
    refine J.region ?_
    refine L.va rfl (X.assign (by conv => lhs; whnf)) ?_
    refine L.nil ?_
    refine J.ret ?_
    refine thn_ret <| ?_
    refine fin1 ?_
    exact ⟨rfl, he02⟩
  refine J.skip ?_
  refine J.seq ?_
  refine J.seq ?_
  refine J.region ?_
  refine L.va rfl (X.move (by conv => lhs; whnf)) ?_
  refine L.va rfl (X.len rfl Try.underlying51) ?_
  refine L.va rfl (X.gtr rfl rfl) ?_
  refine L.nil ?_
  refine J.dec rfl (fun h2 => ?_) (fun h2 => ?_)
  · have e : fcode s f = 3 := by unfold fcode; rw [if_neg (fun h => h h1), if_pos (by omega)]
    rw [e]
    refine J.seq ?_
    refine J.region ?_
    refine L.va rfl (X.assign (by conv => lhs; whnf)) ?_
    refine L.nil ?_
    refine J.ret ?_
    refine thn_ret <| ?_
    refine fin1 ?_
    exact ⟨rfl, he02⟩
  have e : fcode s f = fst' (fE s) f.l := by unfold fcode; rw [if_neg (fun h => h h1), if_neg (by omega)]
  rw [e]
  have z2 := he02.le
  have H2 := H.ext he02
  refine J.skip ?_
  refine J.seq ?_
  refine J.seq ?_
  refine J.region ?_
  refine L.va rfl (X.move (by conv => lhs; whnf)) ?_
  refine L.va rfl (X.len rfl Try.underlying51) ?_
  refine L.va rfl (X.move (by conv => lhs; whnf)) ?_
  refine L.nil ?_
  refine J.block ?_
  refine J.loop (X := Nat) [4, 6, 8, 17, 18, 19, 20, 21, 22, 23, 24, 25, 26, 27, 28, 29, 30, 31, 32, 33, 34, 35, 36, 37, 38, 39, 40, 41, 42, 43, 44, 45, 46, 47, 48, 49, 50, 51, 52, 53, 54, 55, 56, 57] (fun i => [(17, .int .i64 (i : Int))]) (fun i w' => i ≤ f.n ∧ (∀ j, j < i → fE s (f.l.getD j fi0) = 0) ∧ Ext w2 w') (fun i => f.n - i) (0) (At1 (by first | rfl | exact at_int rfl (by omega) | exact at_slice rfl (by omega) | exact at_int rfl (by simp))) ?_ ?_
  · exact ⟨Nat.zero_le _, fun j hj => absurd hj (by omega), Ext.refl _⟩
  · rintro i g w3 ⟨hi, hP, he3⟩
    have z3 := he3.le
    have he03 := he02.trans he3
    have hf3 := hf.ext he03
    have hk3 := hk1.ext he3
    have H3 := H2.ext he3
    refine J.seq ?_
    refine J.region ?_
    refine L.va rfl (X.lss rfl rfl) ?_
    refine L.nil ?_
    refine J.seq ?_
    refine J.dec rfl (fun hlt => ?_) (fun hlt => ?_)
    · have hin : i < f.n := by omega
      have hA := hf3.r.some_ (by omega)
      obtain ⟨x, hx⟩ : ∃ x, x = f.l.getD i fi0 := ⟨_, rfl⟩
      have hX := hf3.one hin
      have hgt := gtF (l := f.l) (i := i) (by omega)
      rw [← hx] at hX hgt
      refine J.skip ?_
      refine J.seq ?_
      refine J.block ?_
      refine J.seq ?_
      refine J.region ?_
      refine L.va rfl ((by first | exact X.indexAddrn rfl rfl Try.underlying51 sz_150 (by first | exact Option.some_ne_none _ | exact hA) (by omega) | exact X.indexAddr rfl rfl Try.underlying51 sz_150 (by first | exact Option.some_ne_none _ | exact hA) (by omega))) ?_
      refine L.va rfl (X.loadRow (cs := x.vs) rfl hf3.r (fun r u hu => flat_row fi_len hgt r u hu) (Nat.zero_lt_succ _) Try.underlying150 rfl (by kernel_rfl)) ?_
      refine L.alloc rfl zr_150 ?_
      intro b4 w4 hb4 hs4 hk4 he4
      refine L.storeAgg (vs := [_, _]) rfl rfl rfl rfl sz_150 (hk4) rfl ?_
      intro w5 hk5 hg5 hs5
      have he35 : Ext w3 w5 := he4.grw hg5 (by intro g hg; injection hg with hg; omega)
      have hk5 : Blk w5 b4 150 x.vs.toArray := hk5
      have he05 := he03.trans he35
      have he25 := he3.trans he35
      have hk15 := hk3.ext he35
      have hX5 := hX.ext he35
      have H5 := H3.ext he35
      have hxl := hX5.len
      have hxm := hX5.m
      unfold maxLen at hxm
      have z5 := he25.le
      refine L.nil ?_
      refine J.seq ?_
      refine J.seq ?_
      refine J.region ?_
      refine L.va rfl (X.fieldAddr rfl Try.underlying150 rfl sz_3 (by decide)) ?_
      refine L.va rfl (X.load rfl sc_3 (by first | exact Ld.blk hk5 rfl | exact Ld.blk hk15 rfl | exact hA)) ?_
      refine L.va rfl (X.lss rfl rfl) ?_
      refine L.va rfl (X.move (by conv => lhs; whnf)) ?_
      refine L.caseDec (k := 24) rfl (fun h3 => ?_) (fun h3 => ?_)
      · refine L.no rfl ?_
        refine L.no rfl ?_
        refine L.no rfl ?_
        refine L.no rfl ?_
        refine L.no rfl ?_
        refine L.no rfl ?_
        refine L.va rfl (X.pickT rfl (by conv => lhs; whnf)) ?_
        refine L.nil ?_
        refine J.iteT rfl ?_
        rw [fst_at (d := fi0) (i := i) (by omega) hP (by rw [← hx, fE_11 (by omega)]; decide), ← hx, fE_11 (by omega)]
        refine J.seq ?_
        refine J.region ?_
        refine L.va rfl (X.assign (by conv => lhs; whnf)) ?_
        refine L.nil ?_
        refine J.ret ?_
        refine thn_ret <|  inB_ret <|  thn_ret <|  thn_ret <|  inB_ret <|  thn_ret <| ?_
        refine fin1 ?_
        exact ⟨rfl, he05⟩
      refine L.va rfl (X.fieldAddr rfl Try.underlying150 rfl sz_3 (by decide)) ?_
      refine L.va rfl (X.load rfl sc_3 (by first | exact Ld.blk hk5 rfl | exact Ld.blk hk15 rfl | exact hA)) ?_
      refine L.va rfl (X.fieldAddr rfl Try.underlying49 rfl sz_45 (by decide)) ?_
      refine L.va rfl (X.load rfl sc_45 (by first | exact Ld.blk hk5 rfl | exact Ld.blk hk15 rfl | exact hA)) ?_
      refine L.va rfl (X.len rfl Try.underlying45) ?_
      refine L.va rfl (X.geq rfl rfl) ?_
      refine L.va rfl (X.pickF rfl (by conv => lhs; whnf)) ?_
      refine L.nil ?_
      refine J.dec rfl (fun h4 => ?_) (fun h4 => ?_)
      · rw [fst_at (d := fi0) (i := i) (by omega) hP (by rw [← hx, fE_11 (by omega)]; decide), ← hx, fE_11 (by omega)]
        refine J.seq ?_
        refine J.region ?_
        refine L.va rfl (X.assign (by conv => lhs; whnf)) ?_
        refine L.nil ?_
        refine J.ret ?_
        refine thn_ret <|  inB_ret <|  thn_ret <|  thn_ret <|  inB_ret <|  thn_ret <| ?_
        refine fin1 ?_
        exact ⟨rfl, he05⟩
      refine J.skip ?_
      refine J.seq ?_
      refine J.seq ?_
      refine J.region ?_
      refine L.va rfl (X.fieldAddr rfl Try.underlying150 rfl sz_23 (by decide)) ?_
      refine L.va rfl (X.load rfl sc_23 (by first | exact Ld.blk hk5 rfl | exact Ld.blk hk15 rfl | exact hA)) ?_
      refine L.va rfl (X.len rfl Try.underlying23) ?_
      refine L.va rfl (X.gtr rfl rfl) ?_
      refine L.nil ?_
      refine J.dec rfl (fun h5 => ?_) (fun h5 => ?_)
      · rw [fst_at (d := fi0) (i := i) (by omega) hP (by rw [← hx, fE_3 (by omega) (by omega)]; decide), ← hx, fE_3 (by omega) (by omega)]
        refine J.seq ?_
        refine J.region ?_
        refine L.va rfl (X.assign (by conv => lhs; whnf)) ?_
        refine L.nil ?_
        refine J.ret ?_
        refine thn_ret <|  inB_ret <|  thn_ret <|  thn_ret <|  inB_ret <|  thn_ret <| ?_
        refine fin1 ?_
        exact ⟨rfl, he05⟩
      obtain ⟨dn, hdn⟩ : ∃ dn : Nat, x.d = (dn : Int) := ⟨x.d.toNat, by omega⟩
      have hdlt : dn < s.nd := by omega
      refine J.skip ?_
      refine J.seq ?_
      refine J.region ?_
      refine L.va rfl (X.fieldAddr rfl Try.underlying150 rfl sz_23 (by decide)) ?_
      refine L.va rfl (X.load rfl sc_23 (by first | exact Ld.blk hk5 rfl | exact Ld.blk hk15 rfl | exact hA)) ?_
      refine L.va rfl (X.len rfl Try.underlying23) ?_
      refine L.va rfl (X.move (by conv => lhs; whnf)) ?_
      refine L.nil ?_
      refine J.block ?_
      refine J.loop (X := Nat) [4, 8, 39, 40, 41, 42, 43, 44, 45, 46, 47, 48, 49, 50, 51, 52, 53, 54, 55, 56] (fun k => [(39, .int .i64 (k : Int))]) (fun k w' => k ≤ x.n ∧ (∀ j, j < k → cOk s x.d (x.l.getD j 0)) ∧ Ext w5 w') (fun k => x.n - k) (0) (At1 (by first | rfl | exact at_int rfl (by omega) | exact at_slice rfl (by omega) | exact at_int rfl (by simp))) ?_ ?_
      · exact ⟨Nat.zero_le _, fun j hj => absurd hj (by omega), Ext.refl _⟩
      · rintro k g w6 ⟨hk, hQ, he6⟩
        have hk6 := hk5.ext he6
        have hk16 := hk15.ext he6
        have r6 := hX5.r.ext he6
        have hd6 := (H5.ext he6).hd
        refine J.seq ?_
        refine J.region ?_
        refine L.va rfl (X.lss rfl rfl) ?_
        refine L.nil ?_
        refine J.seq ?_
        refine J.dec rfl (fun hlt2 => ?_) (fun hlt2 => ?_)
        · have hkn : k < x.n := by omega
          have hA1 := r6.some_ (by omega)
          have hA2 := hd6.some_ (by omega)
          refine J.skip ?_
          refine J.seq ?_
          refine J.block ?_
          refine J.seq ?_
          refine J.region ?_
          refine L.va rfl ((by first | exact X.index1n rfl rfl Try.underlying23 sz_3 (by first | exact Option.some_ne_none _ | exact r6.some_ (by omega) | exact hd6.some_ (by omega) | exact hA1 | exact hA2) (by omega) | exact X.index1 rfl rfl Try.underlying23 sz_3 (by first | exact Option.some_ne_none _ | exact r6.some_ (by omega) | exact hd6.some_ (by omega) | exact hA1 | exact hA2) (by omega))) ?_
          refine L.va rfl (X.load rfl sc_3 (by first | exact Ld.blk hk6 rfl | exact Ld.blk hk16 rfl | exact Ld.num r6 (by omega) | exact Ld.dimS hd6 (by omega) | exact Ld.dimN hd6 (by omega) | exact hA1 | exact hA2)) ?_
          refine L.va rfl (X.assign (by conv => lhs; whnf)) ?_
          refine L.nil ?_
          refine J.seq ?_
          refine J.region ?_
          refine L.va rfl (X.move (by conv => lhs; whnf)) ?_
          refine L.va rfl (X.lss rfl rfl) ?_
          refine L.va rfl (X.move (by conv => lhs; whnf)) ?_
          refine L.caseDec (k := 45) rfl (fun h6 => ?_) (fun h6 => ?_)
          · refine L.no rfl ?_
            refine L.no rfl ?_
            refine L.no rfl ?_
            refine L.no rfl ?_
            refine L.no rfl ?_
            refine L.no rfl ?_
            refine L.no rfl ?_
            refine L.no rfl ?_
            refine L.no rfl ?_
            refine L.va rfl (X.pickT rfl (by conv => lhs; whnf)) ?_
            refine L.nil ?_
            refine J.iteT rfl ?_
            rw [fst_at (d := fi0) (i := i) (by omega) hP (by rw [← hx, fE_2 (by omega) (by omega) hkn (by unfold cOk; omega)]; decide), ← hx, fE_2 (by omega) (by omega) hkn (by unfold cOk; omega)]
            refine J.seq ?_
            refine J.region ?_
            refine L.va rfl (X.assign (by conv => lhs; whnf)) ?_
            refine L.nil ?_
            refine J.ret ?_
            refine inB_ret <|  thn_ret <|  thn_ret <|  inB_ret <|  inB_ret <|  thn_ret <|  thn_ret <|  inB_ret <|  thn_ret <| ?_
            refine fin1 ?_
            exact ⟨rfl, he05.trans he6⟩
          refine L.va rfl (X.move (by conv => lhs; whnf)) ?_
          refine L.va rfl (X.fieldAddr rfl Try.underlying49 rfl sz_45 (by decide)) ?_
          refine L.va rfl (X.load rfl sc_45 (by first | exact Ld.blk hk6 rfl | exact Ld.blk hk16 rfl | exact Ld.num r6 (by omega) | exact Ld.dimS hd6 (by omega) | exact Ld.dimN hd6 (by omega) | exact hA1 | exact hA2)) ?_
          refine L.va rfl (X.fieldAddr rfl Try.underlying150 rfl sz_3 (by decide)) ?_
          refine L.va rfl (X.load rfl sc_3 (by first | exact Ld.blk hk6 rfl | exact Ld.blk hk16 rfl | exact Ld.num r6 (by omega) | exact Ld.dimS hd6 (by omega) | exact Ld.dimN hd6 (by omega) | exact hA1 | exact hA2)) ?_
          refine L.va rfl ((by first | exact X.indexAddrn rfl rfl Try.underlying45 sz_128 (by first | exact Option.some_ne_none _ | exact r6.some_ (by omega) | exact hd6.some_ (by omega) | exact hA1 | exact hA2) (by omega) | exact X.indexAddr rfl rfl Try.underlying45 sz_128 (by first | exact Option.some_ne_none _ | exact r6.some_ (by omega) | exact hd6.some_ (by omega) | exact hA1 | exact hA2) (by omega))) ?_
          refine L.va rfl (X.fieldP rfl Try.underlying128 rfl sz_3 (by decide) (by first | exact Option.some_ne_none _ | exact r6.some_ (by omega) | exact hd6.some_ (by omega) | exact hA1 | exact hA2)) ?_
          refine L.va rfl (X.load rfl sc_3 (by first | exact Ld.blk hk6 rfl | exact Ld.blk hk16 rfl | exact Ld.num r6 (by omega) | exact Ld.dimS hd6 (by omega) | exact Ld.dimN hd6 (by omega) | exact hA1 | exact hA2)) ?_
          refine L.va rfl (X.geq rfl rfl) ?_
          refine L.va rfl (X.pickF rfl (by conv => lhs; whnf)) ?_
          refine L.nil ?_
          refine J.dec rfl (fun h7 => ?_) (fun h7 => ?_)
          · rw [fst_at (d := fi0) (i := i) (by omega) hP (by rw [← hx, fE_2 (by omega) (by omega) hkn (by unfold cOk; omega)]; decide), ← hx, fE_2 (by omega) (by omega) hkn (by unfold cOk; omega)]
            refine J.seq ?_
            refine J.region ?_
            refine L.va rfl (X.assign (by conv => lhs; whnf)) ?_
            refine L.nil ?_
            refine J.ret ?_
            refine inB_ret <|  thn_ret <|  thn_ret <|  inB_ret <|  inB_ret <|  thn_ret <|  thn_ret <|  inB_ret <|  thn_ret <| ?_
            refine fin1 ?_
            exact ⟨rfl, he05.trans he6⟩
          refine J.skip ?_
          refine J.region ?_
          refine L.va rfl (X.add rfl rfl (by omega)) ?_
          refine L.va rfl (X.move (by conv => lhs; whnf)) ?_
          refine L.nil ?_
          refine ⟨k + 1, At1 (by first | rfl | exact at_int rfl (by omega) | exact at_slice rfl (by omega) | exact at_int rfl (by simp)), (by (iterate 20 refine Agr.lk rfl ?_); exact Agr.lk rfl (Agr.hav rfl Agr.rfl')), ?_⟩
          refine ⟨⟨by omega, fun j hj => ?_, he6⟩, by omega⟩
          rcases Nat.lt_or_ge j k with h | h
          · exact hQ j h
          · obtain rfl : j = k := by omega
            exact ⟨by omega, by omega⟩
        · have e0 : fE s x = 0 := fE_0 (by omega) (by omega) (fun j hj => hQ j (by omega))
          refine J.exit ?_
          refine J.region ?_
          refine L.va rfl (X.add rfl rfl (by omega)) ?_
          refine L.va rfl (X.move (by conv => lhs; whnf)) ?_
          refine L.nil ?_
          refine ⟨i + 1, At1 (by first | rfl | exact at_int rfl (by omega) | exact at_slice rfl (by omega) | exact at_int rfl (by simp)), (by (iterate 3 refine Agr.lk rfl ?_); refine Agr.lk rfl ?_; refine Agr.hav rfl ?_; (iterate 24 refine Agr.lk rfl ?_); exact Agr.lk rfl (Agr.hav rfl Agr.rfl')), ?_⟩
          refine ⟨⟨by omega, fun j hj => ?_, he25.trans he6⟩, by omega⟩
          rcases Nat.lt_or_ge j i with h | h
          · exact hP j h
          · obtain rfl : j = i := by omega
            rw [← hx]; exact e0
    · rw [fst_0 (d := fi0) (fun j hj => hP j (by omega))]
      refine J.exit ?_
      refine J.seq ?_
      refine J.region ?_
      refine L.va rfl (X.assign (by conv => lhs; whnf)) ?_
      refine L.nil ?_
      refine J.ret ?_
      refine fin1 ?_
      exact ⟨rfl, he02.trans he3⟩
theorem rfcheck {s : Sch} {f : Fis} {w : World} (H : s.Here w) (hf : f.At w.heap.size w) : Calls Try.prog 99 #[s.val, f.val] w fun e w' => e = .returned (.int .i64 (fcode s f)) ∧ Ext w w' := by
  have hl := hf.l
  have hm := hf.m
  have hle := H.hle
  unfold maxLen at hm
  refine enter Try.func99 rfl (by kernel_rfl) ?_
  refine J.seq ?_
  refine J.region ?_
  refine L.boxA (l := [_, _, _, _]) rfl rfl ?_
  intro b1 w1 hb1 hs1 hk1 he1
  have H1 := H.ext he1
  refine L.va rfl (X.assign (by conv => lhs; whnf)) ?_
  refine L.nil ?_
  refine J.seq ?_
  refine J.seq ?_
  refine J.region ?_
  refine L.va rfl ((by first | exact X.loadAgg rfl (range_l hk1) Try.underlying49 rfl (by kernel_rfl) | exact X.loadAgg rfl (range_blk hk1) Try.underlying49 rfl (by kernel_rfl))) ?_
  refine L.call rfl en_97 rfl (H1.rcheck) ?_
  rintro e w2 ⟨rfl, he2⟩
  refine ⟨_, rfl, ?_⟩
  have he02 := he1.trans he2
  replace hk1 := hk1.ext he2
  refine L.va rfl (X.neq rfl rfl) ?_
  refine L.nil ?_
  refine J.ndec rfl (fun h1 => ?_) (fun h1 => ?_)
  · have e : fcode s f = 1 := by unfold fcode; rw [if_pos h1]
    rw [e]
    refine J.seq ?_
    refine J.region ?_
    refine L.va rfl (X.assign (by conv => lhs; whnf)) ?_
    refine L.nil ?_
    refine J.ret ?_
    refine thn_ret <| ?_
    refine fin1 ?_
    exact ⟨rfl, he02⟩
  refine J.skip ?_
  refine J.seq ?_
  refine J.seq ?_
  refine J.region ?_
  refine L.va rfl (X.move (by conv => lhs; whnf)) ?_
  refine L.va rfl (X.len rfl Try.underlying51) ?_
  refine L.va rfl (X.gtr rfl rfl) ?_
  refine L.nil ?_
  refine J.dec rfl (fun h2 => ?_) (fun h2 => ?_)
  · have e : fcode s f = 3 := by unfold fcode; rw [if_neg (fun h => h h1), if_pos (by omega)]
    rw [e]
    refine J.seq ?_
    refine J.region ?_
    refine L.va rfl (X.assign (by conv => lhs; whnf)) ?_
    refine L.nil ?_
    refine J.ret ?_
    refine thn_ret <| ?_
    refine fin1 ?_
    exact ⟨rfl, he02⟩
  have e : fcode s f = fst' (fE s) f.l := by unfold fcode; rw [if_neg (fun h => h h1), if_neg (by omega)]
  rw [e]
  have z2 := he02.le
  have H2 := H.ext he02
  refine J.skip ?_
  refine J.seq ?_
  refine J.seq ?_
  refine J.region ?_
  refine L.va rfl (X.assign (by conv => lhs; whnf)) ?_
  refine L.nil ?_
  refine J.block ?_
  refine J.loop (X := Nat) [4, 5, 6, 7, 14, 15, 16, 17, 18, 19, 20, 21, 22, 23, 24, 25, 26, 27, 28, 29, 30, 31, 32, 33, 34, 35, 36, 37, 38, 39, 40, 41, 42, 43, 44, 45, 46, 47, 48, 49, 50, 51, 52, 53, 54, 55, 56, 57, 58, 59, 60, 61, 62, 63, 64, 65, 66] (fun i => [(5, .int .i64 (i : Int))]) (fun i w' => i ≤ f.n ∧ (∀ j, j < i → fE s (f.l.getD j fi0) = 0) ∧ Ext w2 w') (fun i => f.n - i) (0) (At1 (by first | rfl | exact at_int rfl (by omega) | exact at_slice rfl (by omega) | exact at_int rfl (by simp))) ?_ ?_
  · exact ⟨Nat.zero_le _, fun j hj => absurd hj (by omega), Ext.refl _⟩
  · rintro i g w3 ⟨hi, hP, he3⟩
    have z3 := he3.le
    have he03 := he02.trans he3
    have hf3 := hf.ext he03
    have hk3 := hk1.ext he3
    have H3 := H2.ext he3
    refine J.seq ?_
    refine J.seq ?_
    refine J.region ?_
    refine L.va rfl (X.move (by conv => lhs; whnf)) ?_
    refine L.va rfl (X.move (by conv => lhs; whnf)) ?_
    refine L.va rfl (X.len rfl Try.underlying51) ?_
    refine L.va rfl (X.lss rfl rfl) ?_
    refine L.nil ?_
    refine J.dec rfl (fun hlt => ?_) (fun hlt => ?_)
    · have hin : i < f.n := by omega
      have hA := hf3.r.some_ (by omega)
      obtain ⟨x, hx⟩ : ∃ x, x = f.l.getD i fi0 := ⟨_, rfl⟩
      have hX := hf3.one hin
      have hgt := gtF (l := f.l) (i := i) (by omega)
      rw [← hx] at hX hgt
      refine J.skip ?_
      refine J.seq ?_
      refine J.block ?_
      refine J.seq ?_
      refine J.region ?_
      refine L.va rfl (X.move (by conv => lhs; whnf)) ?_
      refine L.va rfl (X.move (by conv => lhs; whnf)) ?_
      refine L.va rfl ((by first | exact X.indexAddrn rfl rfl Try.underlying51 sz_150 (by first | exact Option.some_ne_none _ | exact hA) (by omega) | exact X.indexAddr rfl rfl Try.underlying51 sz_150 (by first | exact Option.some_ne_none _ | exact hA) (by omega))) ?_
      refine L.va rfl (X.loadRow (cs := x.vs) rfl hf3.r (fun r u hu => flat_row fi_len hgt r u hu) (Nat.zero_lt_succ _) Try.underlying150 rfl (by kernel_rfl)) ?_
      refine L.alloc rfl zr_150 ?_
      intro b4 w4 hb4 hs4 hk4 he4
      refine L.storeAgg (vs := [_, _]) rfl rfl rfl rfl sz_150 (hk4) rfl ?_
      intro w5 hk5 hg5 hs5
      have he35 : Ext w3 w5 := he4.grw hg5 (by intro g hg; injection hg with hg; omega)
      have hk5 : Blk w5 b4 150 x.vs.toArray := hk5
      have he05 := he03.trans he35
      have he25 := he3.trans he35
      have hk15 := hk3.ext he35
      have hX5 := hX.ext he35
      have H5 := H3.ext he35
      have hxl := hX5.len
      have hxm := hX5.m
      unfold maxLen at hxm
      have z5 := he25.le
      refine L.nil ?_
      refine J.seq ?_
      refine J.seq ?_
      refine J.region ?_
      refine L.va rfl (X.fieldAddr rfl Try.underlying150 rfl sz_3 (by decide)) ?_
      refine L.va rfl (X.load rfl sc_3 (by first | exact Ld.blk hk5 rfl | exact Ld.blk hk15 rfl | exact hA)) ?_
      refine L.va rfl (X.lss rfl rfl) ?_
      refine L.va rfl (X.move (by conv => lhs; whnf)) ?_
      refine L.caseDec (k := 27) rfl (fun h3 => ?_) (fun h3 => ?_)
      · refine L.no rfl ?_
        refine L.no rfl ?_
        refine L.no rfl ?_
        refine L.no rfl ?_
        refine L.no rfl ?_
        refine L.no rfl ?_
        refine L.va rfl (X.pickT rfl (by conv => lhs; whnf)) ?_
        refine L.nil ?_
        refine J.iteT rfl ?_
        rw [fst_at (d := fi0) (i := i) (by omega) hP (by rw [← hx, fE_11 (by omega)]; decide), ← hx, fE_11 (by omega)]
        refine J.seq ?_
        refine J.region ?_
        refine L.va rfl (X.assign (by conv => lhs; whnf)) ?_
        refine L.nil ?_
        refine J.ret ?_
        refine thn_ret <|  inB_ret <|  thn_ret <|  thn_ret <|  inB_ret <|  thn_ret <| ?_
        refine fin1 ?_
        exact ⟨rfl, he05⟩
      refine L.va rfl (X.fieldAddr rfl Try.underlying150 rfl sz_3 (by decide)) ?_
      refine L.va rfl (X.load rfl sc_3 (by first | exact Ld.blk hk5 rfl | exact Ld.blk hk15 rfl | exact hA)) ?_
      refine L.va rfl (X.fieldAddr rfl Try.underlying49 rfl sz_45 (by decide)) ?_
      refine L.va rfl (X.load rfl sc_45 (by first | exact Ld.blk hk5 rfl | exact Ld.blk hk15 rfl | exact hA)) ?_
      refine L.va rfl (X.len rfl Try.underlying45) ?_
      refine L.va rfl (X.geq rfl rfl) ?_
      refine L.va rfl (X.pickF rfl (by conv => lhs; whnf)) ?_
      refine L.nil ?_
      refine J.dec rfl (fun h4 => ?_) (fun h4 => ?_)
      · rw [fst_at (d := fi0) (i := i) (by omega) hP (by rw [← hx, fE_11 (by omega)]; decide), ← hx, fE_11 (by omega)]
        refine J.seq ?_
        refine J.region ?_
        refine L.va rfl (X.assign (by conv => lhs; whnf)) ?_
        refine L.nil ?_
        refine J.ret ?_
        refine thn_ret <|  inB_ret <|  thn_ret <|  thn_ret <|  inB_ret <|  thn_ret <| ?_
        refine fin1 ?_
        exact ⟨rfl, he05⟩
      refine J.skip ?_
      refine J.seq ?_
      refine J.seq ?_
      refine J.region ?_
      refine L.va rfl (X.fieldAddr rfl Try.underlying150 rfl sz_23 (by decide)) ?_
      refine L.va rfl (X.load rfl sc_23 (by first | exact Ld.blk hk5 rfl | exact Ld.blk hk15 rfl | exact hA)) ?_
      refine L.va rfl (X.len rfl Try.underlying23) ?_
      refine L.va rfl (X.gtr rfl rfl) ?_
      refine L.nil ?_
      refine J.dec rfl (fun h5 => ?_) (fun h5 => ?_)
      · rw [fst_at (d := fi0) (i := i) (by omega) hP (by rw [← hx, fE_3 (by omega) (by omega)]; decide), ← hx, fE_3 (by omega) (by omega)]
        refine J.seq ?_
        refine J.region ?_
        refine L.va rfl (X.assign (by conv => lhs; whnf)) ?_
        refine L.nil ?_
        refine J.ret ?_
        refine thn_ret <|  inB_ret <|  thn_ret <|  thn_ret <|  inB_ret <|  thn_ret <| ?_
        refine fin1 ?_
        exact ⟨rfl, he05⟩
      have hdlt : x.d.toNat < s.nd := by omega
      refine J.skip ?_
      refine J.seq ?_
      refine J.region ?_
      refine L.va rfl (X.assign (by conv => lhs; whnf)) ?_
      refine L.nil ?_
      refine J.block ?_
      refine J.loop (X := Nat) [4, 7, 39, 40, 41, 42, 43, 44, 45, 46, 47, 48, 49, 50, 51, 52, 53, 54, 55, 56, 57, 58, 59, 60, 61, 62, 63, 64, 65, 66] (fun k => [(7, .int .i64 (k : Int))]) (fun k w' => k ≤ x.n ∧ (∀ j, j < k → cOk s x.d (x.l.getD j 0)) ∧ Ext w5 w') (fun k => x.n - k) (0) (At1 (by first | rfl | exact at_int rfl (by omega) | exact at_slice rfl (by omega) | exact at_int rfl (by simp))) ?_ ?_
      · exact ⟨Nat.zero_le _, fun j hj => absurd hj (by omega), Ext.refl _⟩
      · rintro k g w6 ⟨hk, hQ, he6⟩
        have hk6 := hk5.ext he6
        have hk16 := hk15.ext he6
        have r6 := hX5.r.ext he6
        have hd6 := (H5.ext he6).hd
        refine J.seq ?_
        refine J.seq ?_
        refine J.region ?_
        refine L.va rfl (X.move (by conv => lhs; whnf)) ?_
        refine L.va rfl (X.fieldAddr rfl Try.underlying150 rfl sz_23 (by decide)) ?_
        refine L.va rfl (X.load rfl sc_23 (by first | exact Ld.blk hk6 rfl | exact Ld.blk hk16 rfl | exact Ld.num r6 (by omega) | exact Ld.dimS hd6 (by omega) | exact Ld.dimN hd6 (by omega) | exact hA)) ?_
        refine L.va rfl (X.len rfl Try.underlying23) ?_
        refine L.va rfl (X.lss rfl rfl) ?_
        refine L.nil ?_
        refine J.dec rfl (fun hlt2 => ?_) (fun hlt2 => ?_)
        · have hkn : k < x.n := by omega
          have hA1 := r6.some_ (by omega)
          have hA2 := hd6.some_ (by omega)
          refine J.skip ?_
          refine J.seq ?_
          refine J.block ?_
          refine J.seq ?_
          refine J.quiet mixed (by kernel_rfl) ?_
          refine Qt.va rfl (fun w' hw => X.fieldAddr rfl Try.underlying150 rfl sz_23 (by decide)) ?_
          refine Qt.va rfl (fun w' hw => X.load rfl sc_23 (by first | exact Ld.blk (hk6.ext hw) rfl | exact Ld.blk (hk16.ext hw) rfl | exact Ld.num (r6.ext hw) (by omega) | exact Ld.dimS (hd6.ext hw) (by omega) | exact Ld.dimN (hd6.ext hw) (by omega) | exact hA1 | exact hA2)) ?_
          refine Qt.va rfl (fun w' hw => X.move (by conv => lhs; whnf)) ?_
          refine Qt.va rfl (fun w' hw => (by first | exact X.index1n rfl rfl Try.underlying23 sz_3 (by first | exact Option.some_ne_none _ | exact r6.some_ (by omega) | exact hd6.some_ (by omega) | exact hA1 | exact hA2) (by omega) | exact X.index1 rfl rfl Try.underlying23 sz_3 (by first | exact Option.some_ne_none _ | exact r6.some_ (by omega) | exact hd6.some_ (by omega) | exact hA1 | exact hA2) (by omega))) ?_
          refine Qt.va rfl (fun w' hw => X.load rfl sc_3 (by first | exact Ld.blk (hk6.ext hw) rfl | exact Ld.blk (hk16.ext hw) rfl | exact Ld.num (r6.ext hw) (by omega) | exact Ld.dimS (hd6.ext hw) (by omega) | exact Ld.dimN (hd6.ext hw) (by omega) | exact hA1 | exact hA2)) ?_
          refine Qt.va rfl (fun w' hw => X.lss rfl rfl) ?_
          refine Qt.va rfl (fun w' hw => X.move (by conv => lhs; whnf)) ?_
          refine Qt.caseDec (k := 52) rfl (fun h6 => ?_) (fun h6 => ?_)
          · refine Qt.no rfl ?_
            refine Qt.no rfl ?_
            refine Qt.no rfl ?_
            refine Qt.no rfl ?_
            refine Qt.no rfl ?_
            refine Qt.no rfl ?_
            refine Qt.no rfl ?_
            refine Qt.no rfl ?_
            refine Qt.no rfl ?_
            refine Qt.no rfl ?_
            refine Qt.no rfl ?_
            refine Qt.no rfl ?_
            refine Qt.no rfl ?_
            refine Qt.va rfl (fun w' hw => X.pickT rfl (by conv => lhs; whnf)) ?_
            refine Qt.nil (fun w7 hq => ?_)
            replace hk6 := hk6.ext hq
            replace hk16 := hk16.ext hq
            replace r6 := r6.ext hq
            replace hd6 := hd6.ext hq
            refine J.iteT rfl ?_
            rw [fst_at (d := fi0) (i := i) (by omega) hP (by rw [← hx, fE_2 (by omega) (by omega) hkn (by unfold cOk; omega)]; decide), ← hx, fE_2 (by omega) (by omega) hkn (by unfold cOk; omega)]
            refine J.seq ?_
            refine J.region ?_
            refine L.va rfl (X.assign (by conv => lhs; whnf)) ?_
            refine L.nil ?_
            refine J.ret ?_
            refine inB_ret <|  thn_ret <|  thn_ret <|  inB_ret <|  inB_ret <|  thn_ret <|  thn_ret <|  inB_ret <|  thn_ret <| ?_
            refine fin1 ?_
            exact ⟨rfl, he05.trans (he6.trans hq)⟩
          refine Qt.va rfl (fun w' hw => X.fieldAddr rfl Try.underlying150 rfl sz_23 (by decide)) ?_
          refine Qt.va rfl (fun w' hw => X.load rfl sc_23 (by first | exact Ld.blk (hk6.ext hw) rfl | exact Ld.blk (hk16.ext hw) rfl | exact Ld.num (r6.ext hw) (by omega) | exact Ld.dimS (hd6.ext hw) (by omega) | exact Ld.dimN (hd6.ext hw) (by omega) | exact hA1 | exact hA2)) ?_
          refine Qt.va rfl (fun w' hw => X.move (by conv => lhs; whnf)) ?_
          refine Qt.va rfl (fun w' hw => (by first | exact X.index1n rfl rfl Try.underlying23 sz_3 (by first | exact Option.some_ne_none _ | exact r6.some_ (by omega) | exact hd6.some_ (by omega) | exact hA1 | exact hA2) (by omega) | exact X.index1 rfl rfl Try.underlying23 sz_3 (by first | exact Option.some_ne_none _ | exact r6.some_ (by omega) | exact hd6.some_ (by omega) | exact hA1 | exact hA2) (by omega))) ?_
          refine Qt.va rfl (fun w' hw => X.load rfl sc_3 (by first | exact Ld.blk (hk6.ext hw) rfl | exact Ld.blk (hk16.ext hw) rfl | exact Ld.num (r6.ext hw) (by omega) | exact Ld.dimS (hd6.ext hw) (by omega) | exact Ld.dimN (hd6.ext hw) (by omega) | exact hA1 | exact hA2)) ?_
          refine Qt.va rfl (fun w' hw => X.fieldAddr rfl Try.underlying49 rfl sz_45 (by decide)) ?_
          refine Qt.va rfl (fun w' hw => X.load rfl sc_45 (by first | exact Ld.blk (hk6.ext hw) rfl | exact Ld.blk (hk16.ext hw) rfl | exact Ld.num (r6.ext hw) (by omega) | exact Ld.dimS (hd6.ext hw) (by omega) | exact Ld.dimN (hd6.ext hw) (by omega) | exact hA1 | exact hA2)) ?_
          refine Qt.va rfl (fun w' hw => X.fieldAddr rfl Try.underlying150 rfl sz_3 (by decide)) ?_
          refine Qt.va rfl (fun w' hw => X.load rfl sc_3 (by first | exact Ld.blk (hk6.ext hw) rfl | exact Ld.blk (hk16.ext hw) rfl | exact Ld.num (r6.ext hw) (by omega) | exact Ld.dimS (hd6.ext hw) (by omega) | exact Ld.dimN (hd6.ext hw) (by omega) | exact hA1 | exact hA2)) ?_
          refine Qt.va rfl (fun w' hw => (by first | exact X.indexAddrn rfl rfl Try.underlying45 sz_128 (by first | exact Option.some_ne_none _ | exact r6.some_ (by omega) | exact hd6.some_ (by omega) | exact hA1 | exact hA2) (by omega) | exact X.indexAddr rfl rfl Try.underlying45 sz_128 (by first | exact Option.some_ne_none _ | exact r6.some_ (by omega) | exact hd6.some_ (by omega) | exact hA1 | exact hA2) (by omega))) ?_
          refine Qt.va rfl (fun w' hw => X.fieldP rfl Try.underlying128 rfl sz_3 (by decide) (by first | exact Option.some_ne_none _ | exact r6.some_ (by omega) | exact hd6.some_ (by omega) | exact hA1 | exact hA2)) ?_
          refine Qt.va rfl (fun w' hw => X.load rfl sc_3 (by first | exact Ld.blk (hk6.ext hw) rfl | exact Ld.blk (hk16.ext hw) rfl | exact Ld.num (r6.ext hw) (by omega) | exact Ld.dimS (hd6.ext hw) (by omega) | exact Ld.dimN (hd6.ext hw) (by omega) | exact hA1 | exact hA2)) ?_
          refine Qt.va rfl (fun w' hw => X.geq rfl rfl) ?_
          refine Qt.va rfl (fun w' hw => X.pickF rfl (by conv => lhs; whnf)) ?_
          refine Qt.nil (fun w7 hq => ?_)
          replace hk6 := hk6.ext hq
          replace hk16 := hk16.ext hq
          replace r6 := r6.ext hq
          replace hd6 := hd6.ext hq
          refine J.dec rfl (fun h7 => ?_) (fun h7 => ?_)
          · rw [fst_at (d := fi0) (i := i) (by omega) hP (by rw [← hx, fE_2 (by omega) (by omega) hkn (by unfold cOk; omega)]; decide), ← hx, fE_2 (by omega) (by omega) hkn (by unfold cOk; omega)]
            refine J.seq ?_
            refine J.region ?_
            refine L.va rfl (X.assign (by conv => lhs; whnf)) ?_
            refine L.nil ?_
            refine J.ret ?_
            refine inB_ret <|  thn_ret <|  thn_ret <|  inB_ret <|  inB_ret <|  thn_ret <|  thn_ret <|  inB_ret <|  thn_ret <| ?_
            refine fin1 ?_
            exact ⟨rfl, he05.trans (he6.trans hq)⟩
          refine J.skip ?_
          refine J.region ?_
          refine L.va rfl (X.move (by conv => lhs; whnf)) ?_
          refine L.va rfl (X.add rfl rfl (by omega)) ?_
          refine L.va rfl (X.assign (by conv => lhs; whnf)) ?_
          refine L.nil ?_
          refine ⟨k + 1, At1 (by first | rfl | exact at_int rfl (by omega) | exact at_slice rfl (by omega) | exact at_int rfl (by simp)), (by (iterate 30 refine Agr.lk rfl ?_); exact Agr.lk rfl (Agr.hav rfl Agr.rfl')), ?_⟩
          refine ⟨⟨by omega, fun j hj => ?_, he6.trans hq⟩, by omega⟩
          rcases Nat.lt_or_ge j k with h | h
          · exact hQ j h
          · obtain rfl : j = k := by omega
            exact ⟨by omega, by omega⟩
        · have e0 : fE s x = 0 := fE_0 (by omega) (by omega) (fun j hj => hQ j (by omega))
          refine J.exit ?_
          refine J.region ?_
          refine L.va rfl (X.move (by conv => lhs; whnf)) ?_
          refine L.va rfl (X.add rfl rfl (by omega)) ?_
          refine L.va rfl (X.assign (by conv => lhs; whnf)) ?_
          refine L.nil ?_
          refine ⟨i + 1, At1 (by first | rfl | exact at_int rfl (by omega) | exact at_slice rfl (by omega) | exact at_int rfl (by simp)), (by (iterate 8 refine Agr.lk rfl ?_); refine Agr.lk rfl ?_; refine Agr.hav rfl ?_; (iterate 26 refine Agr.lk rfl ?_); exact Agr.lk rfl (Agr.hav rfl Agr.rfl')), ?_⟩
          refine ⟨⟨by omega, fun j hj => ?_, he25.trans he6⟩, by omega⟩
          rcases Nat.lt_or_ge j i with h | h
          · exact hP j h
          · obtain rfl : j = i := by omega
            rw [← hx]; exact e0
    · rw [fst_0 (d := fi0) (fun j hj => hP j (by omega))]
      refine J.exit ?_
      refine J.seq ?_
      refine J.region ?_
      refine L.va rfl (X.assign (by conv => lhs; whnf)) ?_
      refine L.nil ?_
      refine J.ret ?_
      refine fin1 ?_
      exact ⟨rfl, he02.trans he3⟩
end Go.Proofs.Ytlipeplfjkgamaa
namespace Go.Proofs.Ytlipeplfjkgamaa
set_option maxRecDepth 100000
open Go.RowKit H
set_option linter.unusedVariables false
def colOk (s : Sch) (x : Int × Int) : Prop := (x.1 = 0 ∧ x.2 = 0) ∨ (1 ≤ x.1 ∧ x.1 ≤ 4 ∧ 0 ≤ x.2 ∧ x.2 < (s.n1 : Int) + s.n2) ∨ (5 ≤ x.1 ∧ x.1 ≤ 6 ∧ 0 ≤ x.2 ∧ x.2 < (s.n1 : Int))
instance (s : Sch) (x : Int × Int) : Decidable (colOk s x) := by unfold colOk; infer_instance
abbrev cV (x : Int × Int) : List Value := [.int .i64 x.1, .int .i64 x.2]
theorem qcolumn {s : Sch} (k m : Int) {w : World} (H : s.Here w) : Calls Try.prog 92 #[s.val, .agg (cV (k, m)).toArray] w fun e w' => e = .returned (.bool (decide (colOk s (k, m)))) ∧ Ext w w' := by
  have hle := H.hle
  refine enter Try.func92 rfl (by kernel_rfl) ?_
  refine J.seq ?_
  refine J.region ?_
  refine L.boxA (l := [_, _, _, _]) rfl rfl ?_
  intro b1 w1 hb1 hs1 hk1 he1
  refine L.boxA (l := [_, _]) rfl rfl ?_
  intro b2 w2 hb2 hs2 hk2 he2
  have hk12 := hk1.ext he2
  have he := he1.trans he2
  have hc : k = 0 ∨ k = 1 ∨ k = 2 ∨ k = 3 ∨ k = 4 ∨ k = 5 ∨ k = 6 ∨ (k < 0 ∨ 6 < k) := by omega
  rcases hc with rfl | rfl | rfl | rfl | rfl | rfl | rfl | hk
  · refine L.va rfl (X.assign (by conv => lhs; whnf)) ?_
    refine L.nil ?_
    refine J.seq ?_
    refine J.region ?_
    refine L.va rfl (X.fieldAddr rfl Try.underlying49 rfl sz_46 (by decide)) ?_
    refine L.va rfl (X.load rfl sc_46 (by first | exact Ld.blk hk2 rfl | exact Ld.blk hk12 rfl)) ?_
    refine L.va rfl (X.len rfl Try.underlying46) ?_
    refine L.va rfl (X.assign (by conv => lhs; whnf)) ?_
    refine L.nil ?_
    refine J.seq ?_
    refine J.seq ?_
    refine J.region ?_
    refine L.va rfl (X.fieldAddr rfl Try.underlying130 rfl sz_3 (by decide)) ?_
    refine L.va rfl (X.load rfl sc_3 (by first | exact Ld.blk hk2 rfl | exact Ld.blk hk12 rfl)) ?_
    refine L.nil ?_
    refine J.block ?_
    refine J.seq ?_
    refine J.region ?_
    refine L.va rfl (X.eql rfl rfl) ?_
    refine L.va rfl (X.assign (by conv => lhs; whnf)) ?_
    refine L.nil ?_
    refine J.decT rfl (by exact rfl) ?_
    refine J.seq ?_
    refine J.region ?_
    refine L.va rfl (X.fieldAddr rfl Try.underlying130 rfl sz_3 (by decide)) ?_
    refine L.va rfl (X.load rfl sc_3 (by first | exact Ld.blk hk2 rfl | exact Ld.blk hk12 rfl)) ?_
    refine L.va rfl (X.eql rfl rfl) ?_
    refine L.va rfl (X.assign (by conv => lhs; whnf)) ?_
    refine L.nil ?_
    refine J.ret ?_
    refine inB_ret <|  thn_ret <| ?_
    refine fin1 ?_
    exact ⟨by rw [show decide (colOk s (0, m)) = decide (m = 0) from decide_eq_decide.2 (by unfold colOk; dsimp only; omega)]; rfl, he⟩
  · refine L.va rfl (X.assign (by conv => lhs; whnf)) ?_
    refine L.nil ?_
    refine J.seq ?_
    refine J.region ?_
    refine L.va rfl (X.fieldAddr rfl Try.underlying49 rfl sz_46 (by decide)) ?_
    refine L.va rfl (X.load rfl sc_46 (by first | exact Ld.blk hk2 rfl | exact Ld.blk hk12 rfl)) ?_
    refine L.va rfl (X.len rfl Try.underlying46) ?_
    refine L.va rfl (X.assign (by conv => lhs; whnf)) ?_
    refine L.nil ?_
    refine J.seq ?_
    refine J.seq ?_
    refine J.region ?_
    refine L.va rfl (X.fieldAddr rfl Try.underlying130 rfl sz_3 (by decide)) ?_
    refine L.va rfl (X.load rfl sc_3 (by first | exact Ld.blk hk2 rfl | exact Ld.blk hk12 rfl)) ?_
    refine L.nil ?_
    refine J.block ?_
    refine J.seq ?_
    refine J.region ?_
    refine L.va rfl (X.eql rfl rfl) ?_
    refine L.va rfl (X.assign (by conv => lhs; whnf)) ?_
    refine L.nil ?_
    refine J.decF rfl (by dsimp only; decide) ?_
    refine J.seq ?_
    refine J.seq ?_
    refine J.region ?_
    refine L.va rfl (X.eql rfl rfl) ?_
    refine L.va rfl (X.assign (by conv => lhs; whnf)) ?_
    refine L.nil ?_
    refine J.decT rfl (by exact rfl) ?_
    refine J.skip ?_
    refine J.decT rfl (by exact rfl) ?_
    refine J.region ?_
    refine L.va rfl (X.move (by conv => lhs; whnf)) ?_
    refine L.va rfl (X.fieldAddr rfl Try.underlying49 rfl sz_46 (by decide)) ?_
    refine L.va rfl (X.load rfl sc_46 (by first | exact Ld.blk hk2 rfl | exact Ld.blk hk12 rfl)) ?_
    refine L.va rfl (X.len rfl Try.underlying46) ?_
    refine L.va rfl (X.add rfl rfl (by omega)) ?_
    refine L.va rfl (X.assign (by conv => lhs; whnf)) ?_
    refine L.nil ?_
    refine J.seq ?_
    refine J.region ?_
    refine L.va rfl (X.fieldAddr rfl Try.underlying130 rfl sz_3 (by decide)) ?_
    refine L.va rfl (X.load rfl sc_3 (by first | exact Ld.blk hk2 rfl | exact Ld.blk hk12 rfl)) ?_
    refine L.va rfl (X.geq rfl rfl) ?_
    refine L.va rfl (X.move (by conv => lhs; whnf)) ?_
    refine L.caseDec (k := 32) rfl (fun h1 => ?_) (fun h1 => ?_)
    · refine L.va rfl (X.fieldAddr rfl Try.underlying130 rfl sz_3 (by decide)) ?_
      refine L.va rfl (X.load rfl sc_3 (by first | exact Ld.blk hk2 rfl | exact Ld.blk hk12 rfl)) ?_
      refine L.va rfl (X.move (by conv => lhs; whnf)) ?_
      refine L.va rfl (X.lss rfl rfl) ?_
      refine L.va rfl (X.pickT rfl (by conv => lhs; whnf)) ?_
      refine L.va rfl (X.assign (by conv => lhs; whnf)) ?_
      refine L.nil ?_
      refine J.ret ?_
      refine fin1 ?_
      exact ⟨by rw [show decide (colOk s (_, m)) = decide (m < (s.n1 : Int) + s.n2) from decide_eq_decide.2 (by unfold colOk; dsimp only; omega)]; rfl, he⟩
    · refine L.no rfl ?_
      refine L.no rfl ?_
      refine L.no rfl ?_
      refine L.no rfl ?_
      refine L.va rfl (X.pickF rfl (by conv => lhs; whnf)) ?_
      refine L.va rfl (X.assign (by conv => lhs; whnf)) ?_
      refine L.nil ?_
      refine J.ret ?_
      refine fin1 ?_
      exact ⟨by rw [show decide (colOk s (_, m)) = false from decide_eq_false (by unfold colOk; dsimp only; omega)]; rfl, he⟩
  · refine L.va rfl (X.assign (by conv => lhs; whnf)) ?_
    refine L.nil ?_
    refine J.seq ?_
    refine J.region ?_
    refine L.va rfl (X.fieldAddr rfl Try.underlying49 rfl sz_46 (by decide)) ?_
    refine L.va rfl (X.load rfl sc_46 (by first | exact Ld.blk hk2 rfl | exact Ld.blk hk12 rfl)) ?_
    refine L.va rfl (X.len rfl Try.underlying46) ?_
    refine L.va rfl (X.assign (by conv => lhs; whnf)) ?_
    refine L.nil ?_
    refine J.seq ?_
    refine J.seq ?_
    refine J.region ?_
    refine L.va rfl (X.fieldAddr rfl Try.underlying130 rfl sz_3 (by decide)) ?_
    refine L.va rfl (X.load rfl sc_3 (by first | exact Ld.blk hk2 rfl | exact Ld.blk hk12 rfl)) ?_
    refine L.nil ?_
    refine J.block ?_
    refine J.seq ?_
    refine J.region ?_
    refine L.va rfl (X.eql rfl rfl) ?_
    refine L.va rfl (X.assign (by conv => lhs; whnf)) ?_
    refine L.nil ?_
    refine J.decF rfl (by dsimp only; decide) ?_
    refine J.seq ?_
    refine J.seq ?_
    refine J.region ?_
    refine L.va rfl (X.eql rfl rfl) ?_
    refine L.va rfl (X.assign (by conv => lhs; whnf)) ?_
    refine L.nil ?_
    refine J.decF rfl (by dsimp only; decide) ?_
    refine J.seq ?_
    refine J.region ?_
    refine L.va rfl (X.eql rfl rfl) ?_
    refine L.va rfl (X.assign (by conv => lhs; whnf)) ?_
    refine L.nil ?_
    refine J.decT rfl (by exact rfl) ?_
    refine J.skip ?_
    refine J.decT rfl (by exact rfl) ?_
    refine J.region ?_
    refine L.va rfl (X.move (by conv => lhs; whnf)) ?_
    refine L.va rfl (X.fieldAddr rfl Try.underlying49 rfl sz_46 (by decide)) ?_
    refine L.va rfl (X.load rfl sc_46 (by first | exact Ld.blk hk2 rfl | exact Ld.blk hk12 rfl)) ?_
    refine L.va rfl (X.len rfl Try.underlying46) ?_
    refine L.va rfl (X.add rfl rfl (by omega)) ?_
    refine L.va rfl (X.assign (by conv => lhs; whnf)) ?_
    refine L.nil ?_
    refine J.seq ?_
    refine J.region ?_
    refine L.va rfl (X.fieldAddr rfl Try.underlying130 rfl sz_3 (by decide)) ?_
    refine L.va rfl (X.load rfl sc_3 (by first | exact Ld.blk hk2 rfl | exact Ld.blk hk12 rfl)) ?_
    refine L.va rfl (X.geq rfl rfl) ?_
    refine L.va rfl (X.move (by conv => lhs; whnf)) ?_
    refine L.caseDec (k := 32) rfl (fun h1 => ?_) (fun h1 => ?_)
    · refine L.va rfl (X.fieldAddr rfl Try.underlying130 rfl sz_3 (by decide)) ?_
      refine L.va rfl (X.load rfl sc_3 (by first | exact Ld.blk hk2 rfl | exact Ld.blk hk12 rfl)) ?_
      refine L.va rfl (X.move (by conv => lhs; whnf)) ?_
      refine L.va rfl (X.lss rfl rfl) ?_
      refine L.va rfl (X.pickT rfl (by conv => lhs; whnf)) ?_
      refine L.va rfl (X.assign (by conv => lhs; whnf)) ?_
      refine L.nil ?_
      refine J.ret ?_
      refine fin1 ?_
      exact ⟨by rw [show decide (colOk s (_, m)) = decide (m < (s.n1 : Int) + s.n2) from decide_eq_decide.2 (by unfold colOk; dsimp only; omega)]; rfl, he⟩
    · refine L.no rfl ?_
      refine L.no rfl ?_
      refine L.no rfl ?_
      refine L.no rfl ?_
      refine L.va rfl (X.pickF rfl (by conv => lhs; whnf)) ?_
      refine L.va rfl (X.assign (by conv => lhs; whnf)) ?_
      refine L.nil ?_
      refine J.ret ?_
      refine fin1 ?_
      exact ⟨by rw [show decide (colOk s (_, m)) = false from decide_eq_false (by unfold colOk; dsimp only; omega)]; rfl, he⟩
  · refine L.va rfl (X.assign (by conv => lhs; whnf)) ?_
    refine L.nil ?_
    refine J.seq ?_
    refine J.region ?_
    refine L.va rfl (X.fieldAddr rfl Try.underlying49 rfl sz_46 (by decide)) ?_
    refine L.va rfl (X.load rfl sc_46 (by first | exact Ld.blk hk2 rfl | exact Ld.blk hk12 rfl)) ?_
    refine L.va rfl (X.len rfl Try.underlying46) ?_
    refine L.va rfl (X.assign (by conv => lhs; whnf)) ?_
    refine L.nil ?_
    refine J.seq ?_
    refine J.seq ?_
    refine J.region ?_
    refine L.va rfl (X.fieldAddr rfl Try.underlying130 rfl sz_3 (by decide)) ?_
    refine L.va rfl (X.load rfl sc_3 (by first | exact Ld.blk hk2 rfl | exact Ld.blk hk12 rfl)) ?_
    refine L.nil ?_
    refine J.block ?_
    refine J.seq ?_
    refine J.region ?_
    refine L.va rfl (X.eql rfl rfl) ?_
    refine L.va rfl (X.assign (by conv => lhs; whnf)) ?_
    refine L.nil ?_
    refine J.decF rfl (by dsimp only; decide) ?_
    refine J.seq ?_
    refine J.seq ?_
    refine J.region ?_
    refine L.va rfl (X.eql rfl rfl) ?_
    refine L.va rfl (X.assign (by conv => lhs; whnf)) ?_
    refine L.nil ?_
    refine J.decF rfl (by dsimp only; decide) ?_
    refine J.seq ?_
    refine J.region ?_
    refine L.va rfl (X.eql rfl rfl) ?_
    refine L.va rfl (X.assign (by conv => lhs; whnf)) ?_
    refine L.nil ?_
    refine J.decF rfl (by dsimp only; decide) ?_
    refine J.seq ?_
    refine J.region ?_
    refine L.va rfl (X.eql rfl rfl) ?_
    refine L.va rfl (X.assign (by conv => lhs; whnf)) ?_
    refine L.nil ?_
    refine J.decT rfl (by exact rfl) ?_
    refine J.skip ?_
    refine J.decT rfl (by exact rfl) ?_
    refine J.region ?_
    refine L.va rfl (X.move (by conv => lhs; whnf)) ?_
    refine L.va rfl (X.fieldAddr rfl Try.underlying49 rfl sz_46 (by decide)) ?_
    refine L.va rfl (X.load rfl sc_46 (by first | exact Ld.blk hk2 rfl | exact Ld.blk hk12 rfl)) ?_
    refine L.va rfl (X.len rfl Try.underlying46) ?_
    refine L.va rfl (X.add rfl rfl (by omega)) ?_
    refine L.va rfl (X.assign (by conv => lhs; whnf)) ?_
    refine L.nil ?_
    refine J.seq ?_
    refine J.region ?_
    refine L.va rfl (X.fieldAddr rfl Try.underlying130 rfl sz_3 (by decide)) ?_
    refine L.va rfl (X.load rfl sc_3 (by first | exact Ld.blk hk2 rfl | exact Ld.blk hk12 rfl)) ?_
    refine L.va rfl (X.geq rfl rfl) ?_
    refine L.va rfl (X.move (by conv => lhs; whnf)) ?_
    refine L.caseDec (k := 32) rfl (fun h1 => ?_) (fun h1 => ?_)
    · refine L.va rfl (X.fieldAddr rfl Try.underlying130 rfl sz_3 (by decide)) ?_
      refine L.va rfl (X.load rfl sc_3 (by first | exact Ld.blk hk2 rfl | exact Ld.blk hk12 rfl)) ?_
      refine L.va rfl (X.move (by conv => lhs; whnf)) ?_
      refine L.va rfl (X.lss rfl rfl) ?_
      refine L.va rfl (X.pickT rfl (by conv => lhs; whnf)) ?_
      refine L.va rfl (X.assign (by conv => lhs; whnf)) ?_
      refine L.nil ?_
      refine J.ret ?_
      refine fin1 ?_
      exact ⟨by rw [show decide (colOk s (_, m)) = decide (m < (s.n1 : Int) + s.n2) from decide_eq_decide.2 (by unfold colOk; dsimp only; omega)]; rfl, he⟩
    · refine L.no rfl ?_
      refine L.no rfl ?_
      refine L.no rfl ?_
      refine L.no rfl ?_
      refine L.va rfl (X.pickF rfl (by conv => lhs; whnf)) ?_
      refine L.va rfl (X.assign (by conv => lhs; whnf)) ?_
      refine L.nil ?_
      refine J.ret ?_
      refine fin1 ?_
      exact ⟨by rw [show decide (colOk s (_, m)) = false from decide_eq_false (by unfold colOk; dsimp only; omega)]; rfl, he⟩
  · refine L.va rfl (X.assign (by conv => lhs; whnf)) ?_
    refine L.nil ?_
    refine J.seq ?_
    refine J.region ?_
    refine L.va rfl (X.fieldAddr rfl Try.underlying49 rfl sz_46 (by decide)) ?_
    refine L.va rfl (X.load rfl sc_46 (by first | exact Ld.blk hk2 rfl | exact Ld.blk hk12 rfl)) ?_
    refine L.va rfl (X.len rfl Try.underlying46) ?_
    refine L.va rfl (X.assign (by conv => lhs; whnf)) ?_
    refine L.nil ?_
    refine J.seq ?_
    refine J.seq ?_
    refine J.region ?_
    refine L.va rfl (X.fieldAddr rfl Try.underlying130 rfl sz_3 (by decide)) ?_
    refine L.va rfl (X.load rfl sc_3 (by first | exact Ld.blk hk2 rfl | exact Ld.blk hk12 rfl)) ?_
    refine L.nil ?_
    refine J.block ?_
    refine J.seq ?_
    refine J.region ?_
    refine L.va rfl (X.eql rfl rfl) ?_
    refine L.va rfl (X.assign (by conv => lhs; whnf)) ?_
    refine L.nil ?_
    refine J.decF rfl (by dsimp only; decide) ?_
    refine J.seq ?_
    refine J.seq ?_
    refine J.region ?_
    refine L.va rfl (X.eql rfl rfl) ?_
    refine L.va rfl (X.assign (by conv => lhs; whnf)) ?_
    refine L.nil ?_
    refine J.decF rfl (by dsimp only; decide) ?_
    refine J.seq ?_
    refine J.region ?_
    refine L.va rfl (X.eql rfl rfl) ?_
    refine L.va rfl (X.assign (by conv => lhs; whnf)) ?_
    refine L.nil ?_
    refine J.decF rfl (by dsimp only; decide) ?_
    refine J.seq ?_
    refine J.region ?_
    refine L.va rfl (X.eql rfl rfl) ?_
    refine L.va rfl (X.assign (by conv => lhs; whnf)) ?_
    refine L.nil ?_
    refine J.decF rfl (by dsimp only; decide) ?_
    refine J.region ?_
    refine L.va rfl (X.eql rfl rfl) ?_
    refine L.va rfl (X.assign (by conv => lhs; whnf)) ?_
    refine L.nil ?_
    refine J.decT rfl (by exact rfl) ?_
    refine J.region ?_
    refine L.va rfl (X.move (by conv => lhs; whnf)) ?_
    refine L.va rfl (X.fieldAddr rfl Try.underlying49 rfl sz_46 (by decide)) ?_
    refine L.va rfl (X.load rfl sc_46 (by first | exact Ld.blk hk2 rfl | exact Ld.blk hk12 rfl)) ?_
    refine L.va rfl (X.len rfl Try.underlying46) ?_
    refine L.va rfl (X.add rfl rfl (by omega)) ?_
    refine L.va rfl (X.assign (by conv => lhs; whnf)) ?_
    refine L.nil ?_
    refine J.seq ?_
    refine J.region ?_
    refine L.va rfl (X.fieldAddr rfl Try.underlying130 rfl sz_3 (by decide)) ?_
    refine L.va rfl (X.load rfl sc_3 (by first | exact Ld.blk hk2 rfl | exact Ld.blk hk12 rfl)) ?_
    refine L.va rfl (X.geq rfl rfl) ?_
    refine L.va rfl (X.move (by conv => lhs; whnf)) ?_
    refine L.caseDec (k := 32) rfl (fun h1 => ?_) (fun h1 => ?_)
    · refine L.va rfl (X.fieldAddr rfl Try.underlying130 rfl sz_3 (by decide)) ?_
      refine L.va rfl (X.load rfl sc_3 (by first | exact Ld.blk hk2 rfl | exact Ld.blk hk12 rfl)) ?_
      refine L.va rfl (X.move (by conv => lhs; whnf)) ?_
      refine L.va rfl (X.lss rfl rfl) ?_
      refine L.va rfl (X.pickT rfl (by conv => lhs; whnf)) ?_
      refine L.va rfl (X.assign (by conv => lhs; whnf)) ?_
      refine L.nil ?_
      refine J.ret ?_
      refine fin1 ?_
      exact ⟨by rw [show decide (colOk s (_, m)) = decide (m < (s.n1 : Int) + s.n2) from decide_eq_decide.2 (by unfold colOk; dsimp only; omega)]; rfl, he⟩
    · refine L.no rfl ?_
      refine L.no rfl ?_
      refine L.no rfl ?_
      refine L.no rfl ?_
      refine L.va rfl (X.pickF rfl (by conv => lhs; whnf)) ?_
      refine L.va rfl (X.assign (by conv => lhs; whnf)) ?_
      refine L.nil ?_
      refine J.ret ?_
      refine fin1 ?_
      exact ⟨by rw [show decide (colOk s (_, m)) = false from decide_eq_false (by unfold colOk; dsimp only; omega)]; rfl, he⟩
  · refine L.va rfl (X.assign (by conv => lhs; whnf)) ?_
    refine L.nil ?_
    refine J.seq ?_
    refine J.region ?_
    refine L.va rfl (X.fieldAddr rfl Try.underlying49 rfl sz_46 (by decide)) ?_
    refine L.va rfl (X.load rfl sc_46 (by first | exact Ld.blk hk2 rfl | exact Ld.blk hk12 rfl)) ?_
    refine L.va rfl (X.len rfl Try.underlying46) ?_
    refine L.va rfl (X.assign (by conv => lhs; whnf)) ?_
    refine L.nil ?_
    refine J.seq ?_
    refine J.seq ?_
    refine J.region ?_
    refine L.va rfl (X.fieldAddr rfl Try.underlying130 rfl sz_3 (by decide)) ?_
    refine L.va rfl (X.load rfl sc_3 (by first | exact Ld.blk hk2 rfl | exact Ld.blk hk12 rfl)) ?_
    refine L.nil ?_
    refine J.block ?_
    refine J.seq ?_
    refine J.region ?_
    refine L.va rfl (X.eql rfl rfl) ?_
    refine L.va rfl (X.assign (by conv => lhs; whnf)) ?_
    refine L.nil ?_
    refine J.decF rfl (by dsimp only; decide) ?_
    refine J.seq ?_
    refine J.seq ?_
    refine J.region ?_
    refine L.va rfl (X.eql rfl rfl) ?_
    refine L.va rfl (X.assign (by conv => lhs; whnf)) ?_
    refine L.nil ?_
    refine J.decF rfl (by dsimp only; decide) ?_
    refine J.seq ?_
    refine J.region ?_
    refine L.va rfl (X.eql rfl rfl) ?_
    refine L.va rfl (X.assign (by conv => lhs; whnf)) ?_
    refine L.nil ?_
    refine J.decF rfl (by dsimp only; decide) ?_
    refine J.seq ?_
    refine J.region ?_
    refine L.va rfl (X.eql rfl rfl) ?_
    refine L.va rfl (X.assign (by conv => lhs; whnf)) ?_
    refine L.nil ?_
    refine J.decF rfl (by dsimp only; decide) ?_
    refine J.region ?_
    refine L.va rfl (X.eql rfl rfl) ?_
    refine L.va rfl (X.assign (by conv => lhs; whnf)) ?_
    refine L.nil ?_
    refine J.decF rfl (by dsimp only; decide) ?_
    refine J.seq ?_
    refine J.seq ?_
    refine J.region ?_
    refine L.va rfl (X.eql rfl rfl) ?_
    refine L.va rfl (X.assign (by conv => lhs; whnf)) ?_
    refine L.nil ?_
    refine J.decT rfl (by exact rfl) ?_
    refine J.skip ?_
    refine J.decT rfl (by exact rfl) ?_
    refine J.skip ?_
    refine J.seq ?_
    refine J.region ?_
    refine L.va rfl (X.fieldAddr rfl Try.underlying130 rfl sz_3 (by decide)) ?_
    refine L.va rfl (X.load rfl sc_3 (by first | exact Ld.blk hk2 rfl | exact Ld.blk hk12 rfl)) ?_
    refine L.va rfl (X.geq rfl rfl) ?_
    refine L.va rfl (X.move (by conv => lhs; whnf)) ?_
    refine L.caseDec (k := 32) rfl (fun h1 => ?_) (fun h1 => ?_)
    · refine L.va rfl (X.fieldAddr rfl Try.underlying130 rfl sz_3 (by decide)) ?_
      refine L.va rfl (X.load rfl sc_3 (by first | exact Ld.blk hk2 rfl | exact Ld.blk hk12 rfl)) ?_
      refine L.va rfl (X.move (by conv => lhs; whnf)) ?_
      refine L.va rfl (X.lss rfl rfl) ?_
      refine L.va rfl (X.pickT rfl (by conv => lhs; whnf)) ?_
      refine L.va rfl (X.assign (by conv => lhs; whnf)) ?_
      refine L.nil ?_
      refine J.ret ?_
      refine fin1 ?_
      exact ⟨by rw [show decide (colOk s (_, m)) = decide (m < (s.n1 : Int)) from decide_eq_decide.2 (by unfold colOk; dsimp only; omega)]; rfl, he⟩
    · refine L.no rfl ?_
      refine L.no rfl ?_
      refine L.no rfl ?_
      refine L.no rfl ?_
      refine L.va rfl (X.pickF rfl (by conv => lhs; whnf)) ?_
      refine L.va rfl (X.assign (by conv => lhs; whnf)) ?_
      refine L.nil ?_
      refine J.ret ?_
      refine fin1 ?_
      exact ⟨by rw [show decide (colOk s (_, m)) = false from decide_eq_false (by unfold colOk; dsimp only; omega)]; rfl, he⟩
  · refine L.va rfl (X.assign (by conv => lhs; whnf)) ?_
    refine L.nil ?_
    refine J.seq ?_
    refine J.region ?_
    refine L.va rfl (X.fieldAddr rfl Try.underlying49 rfl sz_46 (by decide)) ?_
    refine L.va rfl (X.load rfl sc_46 (by first | exact Ld.blk hk2 rfl | exact Ld.blk hk12 rfl)) ?_
    refine L.va rfl (X.len rfl Try.underlying46) ?_
    refine L.va rfl (X.assign (by conv => lhs; whnf)) ?_
    refine L.nil ?_
    refine J.seq ?_
    refine J.seq ?_
    refine J.region ?_
    refine L.va rfl (X.fieldAddr rfl Try.underlying130 rfl sz_3 (by decide)) ?_
    refine L.va rfl (X.load rfl sc_3 (by first | exact Ld.blk hk2 rfl | exact Ld.blk hk12 rfl)) ?_
    refine L.nil ?_
    refine J.block ?_
    refine J.seq ?_
    refine J.region ?_
    refine L.va rfl (X.eql rfl rfl) ?_
    refine L.va rfl (X.assign (by conv => lhs; whnf)) ?_
    refine L.nil ?_
    refine J.decF rfl (by dsimp only; decide) ?_
    refine J.seq ?_
    refine J.seq ?_
    refine J.region ?_
    refine L.va rfl (X.eql rfl rfl) ?_
    refine L.va rfl (X.assign (by conv => lhs; whnf)) ?_
    refine L.nil ?_
    refine J.decF rfl (by dsimp only; decide) ?_
    refine J.seq ?_
    refine J.region ?_
    refine L.va rfl (X.eql rfl rfl) ?_
    refine L.va rfl (X.assign (by conv => lhs; whnf)) ?_
    refine L.nil ?_
    refine J.decF rfl (by dsimp only; decide) ?_
    refine J.seq ?_
    refine J.region ?_
    refine L.va rfl (X.eql rfl rfl) ?_
    refine L.va rfl (X.assign (by conv => lhs; whnf)) ?_
    refine L.nil ?_
    refine J.decF rfl (by dsimp only; decide) ?_
    refine J.region ?_
    refine L.va rfl (X.eql rfl rfl) ?_
    refine L.va rfl (X.assign (by conv => lhs; whnf)) ?_
    refine L.nil ?_
    refine J.decF rfl (by dsimp only; decide) ?_
    refine J.seq ?_
    refine J.seq ?_
    refine J.region ?_
    refine L.va rfl (X.eql rfl rfl) ?_
    refine L.va rfl (X.assign (by conv => lhs; whnf)) ?_
    refine L.nil ?_
    refine J.decF rfl (by dsimp only; decide) ?_
    refine J.region ?_
    refine L.va rfl (X.eql rfl rfl) ?_
    refine L.va rfl (X.assign (by conv => lhs; whnf)) ?_
    refine L.nil ?_
    refine J.decT rfl (by exact rfl) ?_
    refine J.skip ?_
    refine J.seq ?_
    refine J.region ?_
    refine L.va rfl (X.fieldAddr rfl Try.underlying130 rfl sz_3 (by decide)) ?_
    refine L.va rfl (X.load rfl sc_3 (by first | exact Ld.blk hk2 rfl | exact Ld.blk hk12 rfl)) ?_
    refine L.va rfl (X.geq rfl rfl) ?_
    refine L.va rfl (X.move (by conv => lhs; whnf)) ?_
    refine L.caseDec (k := 32) rfl (fun h1 => ?_) (fun h1 => ?_)
    · refine L.va rfl (X.fieldAddr rfl Try.underlying130 rfl sz_3 (by decide)) ?_
      refine L.va rfl (X.load rfl sc_3 (by first | exact Ld.blk hk2 rfl | exact Ld.blk hk12 rfl)) ?_
      refine L.va rfl (X.move (by conv => lhs; whnf)) ?_
      refine L.va rfl (X.lss rfl rfl) ?_
      refine L.va rfl (X.pickT rfl (by conv => lhs; whnf)) ?_
      refine L.va rfl (X.assign (by conv => lhs; whnf)) ?_
      refine L.nil ?_
      refine J.ret ?_
      refine fin1 ?_
      exact ⟨by rw [show decide (colOk s (_, m)) = decide (m < (s.n1 : Int)) from decide_eq_decide.2 (by unfold colOk; dsimp only; omega)]; rfl, he⟩
    · refine L.no rfl ?_
      refine L.no rfl ?_
      refine L.no rfl ?_
      refine L.no rfl ?_
      refine L.va rfl (X.pickF rfl (by conv => lhs; whnf)) ?_
      refine L.va rfl (X.assign (by conv => lhs; whnf)) ?_
      refine L.nil ?_
      refine J.ret ?_
      refine fin1 ?_
      exact ⟨by rw [show decide (colOk s (_, m)) = false from decide_eq_false (by unfold colOk; dsimp only; omega)]; rfl, he⟩
  · refine L.va rfl (X.assign (by conv => lhs; whnf)) ?_
    refine L.nil ?_
    refine J.seq ?_
    refine J.region ?_
    refine L.va rfl (X.fieldAddr rfl Try.underlying49 rfl sz_46 (by decide)) ?_
    refine L.va rfl (X.load rfl sc_46 (by first | exact Ld.blk hk2 rfl | exact Ld.blk hk12 rfl)) ?_
    refine L.va rfl (X.len rfl Try.underlying46) ?_
    refine L.va rfl (X.assign (by conv => lhs; whnf)) ?_
    refine L.nil ?_
    refine J.seq ?_
    refine J.seq ?_
    refine J.region ?_
    refine L.va rfl (X.fieldAddr rfl Try.underlying130 rfl sz_3 (by decide)) ?_
    refine L.va rfl (X.load rfl sc_3 (by first | exact Ld.blk hk2 rfl | exact Ld.blk hk12 rfl)) ?_
    refine L.nil ?_
    refine J.block ?_
    refine J.seq ?_
    refine J.region ?_
    refine L.va rfl (X.eql rfl rfl) ?_
    refine L.va rfl (X.assign (by conv => lhs; whnf)) ?_
    refine L.nil ?_
    refine J.decF rfl (by dsimp only; omega) ?_
    refine J.seq ?_
    refine J.seq ?_
    refine J.region ?_
    refine L.va rfl (X.eql rfl rfl) ?_
    refine L.va rfl (X.assign (by conv => lhs; whnf)) ?_
    refine L.nil ?_
    refine J.decF rfl (by dsimp only; omega) ?_
    refine J.seq ?_
    refine J.region ?_
    refine L.va rfl (X.eql rfl rfl) ?_
    refine L.va rfl (X.assign (by conv => lhs; whnf)) ?_
    refine L.nil ?_
    refine J.decF rfl (by dsimp only; omega) ?_
    refine J.seq ?_
    refine J.region ?_
    refine L.va rfl (X.eql rfl rfl) ?_
    refine L.va rfl (X.assign (by conv => lhs; whnf)) ?_
    refine L.nil ?_
    refine J.decF rfl (by dsimp only; omega) ?_
    refine J.region ?_
    refine L.va rfl (X.eql rfl rfl) ?_
    refine L.va rfl (X.assign (by conv => lhs; whnf)) ?_
    refine L.nil ?_
    refine J.decF rfl (by dsimp only; omega) ?_
    refine J.seq ?_
    refine J.seq ?_
    refine J.region ?_
    refine L.va rfl (X.eql rfl rfl) ?_
    refine L.va rfl (X.assign (by conv => lhs; whnf)) ?_
    refine L.nil ?_
    refine J.decF rfl (by dsimp only; omega) ?_
    refine J.region ?_
    refine L.va rfl (X.eql rfl rfl) ?_
    refine L.va rfl (X.assign (by conv => lhs; whnf)) ?_
    refine L.nil ?_
    refine J.decF rfl (by dsimp only; omega) ?_
    refine J.seq ?_
    refine J.region ?_
    refine L.va rfl (X.assign (by conv => lhs; whnf)) ?_
    refine L.nil ?_
    refine J.ret ?_
    refine inB_ret <|  thn_ret <| ?_
    refine fin1 ?_
    exact ⟨by rw [show decide (colOk s (k, m)) = false from decide_eq_false (by unfold colOk; dsimp only; omega)]; rfl, he⟩
theorem rcolumn {s : Sch} (k m : Int) {w : World} (H : s.Here w) : Calls Try.prog 100 #[s.val, .agg (cV (k, m)).toArray] w fun e w' => e = .returned (.bool (decide (colOk s (k, m)))) ∧ Ext w w' := by
  have hle := H.hle
  refine enter Try.func100 rfl (by kernel_rfl) ?_
  refine J.seq ?_
  refine J.region ?_
  refine L.boxA (l := [_, _, _, _]) rfl rfl ?_
  intro b1 w1 hb1 hs1 hk1 he1
  refine L.boxA (l := [_, _]) rfl rfl ?_
  intro b2 w2 hb2 hs2 hk2 he2
  have hk12 := hk1.ext he2
  have he := he1.trans he2
  refine L.va rfl (X.assign (by conv => lhs; whnf)) ?_
  refine L.nil ?_
  refine J.seq ?_
  refine J.seq ?_
  refine J.region ?_
  refine L.va rfl (X.fieldAddr rfl Try.underlying130 rfl sz_3 (by decide)) ?_
  refine L.va rfl (X.load rfl sc_3 (by first | exact Ld.blk hk2 rfl | exact Ld.blk hk12 rfl)) ?_
  refine L.va rfl (X.eql rfl rfl) ?_
  refine L.nil ?_
  refine J.dec rfl (fun h0 => ?_) (fun h0 => ?_)
  · refine J.seq ?_
    refine J.region ?_
    refine L.va rfl (X.fieldAddr rfl Try.underlying130 rfl sz_3 (by decide)) ?_
    refine L.va rfl (X.load rfl sc_3 (by first | exact Ld.blk hk2 rfl | exact Ld.blk hk12 rfl)) ?_
    refine L.va rfl (X.eql rfl rfl) ?_
    refine L.va rfl (X.assign (by conv => lhs; whnf)) ?_
    refine L.nil ?_
    refine J.ret ?_
    refine thn_ret <| ?_
    refine fin1 ?_
    exact ⟨by rw [show decide (colOk s (k, m)) = decide (m = 0) from decide_eq_decide.2 (by unfold colOk; dsimp only; omega)]; rfl, he⟩
  refine J.skip ?_
  refine J.seq ?_
  refine J.seq ?_
  refine J.region ?_
  refine L.va rfl (X.fieldAddr rfl Try.underlying130 rfl sz_3 (by decide)) ?_
  refine L.va rfl (X.load rfl sc_3 (by first | exact Ld.blk hk2 rfl | exact Ld.blk hk12 rfl)) ?_
  refine L.va rfl (X.lss rfl rfl) ?_
  refine L.va rfl (X.move (by conv => lhs; whnf)) ?_
  refine L.caseDec (k := 14) rfl (fun h1 => ?_) (fun h1 => ?_)
  · refine L.no rfl ?_
    refine L.no rfl ?_
    refine L.no rfl ?_
    refine L.va rfl (X.pickT rfl (by conv => lhs; whnf)) ?_
    refine L.va rfl (X.move (by conv => lhs; whnf)) ?_
    refine L.no rfl ?_
    refine L.no rfl ?_
    refine L.no rfl ?_
    refine L.va rfl (X.pickT rfl (by conv => lhs; whnf)) ?_
    refine L.nil ?_
    refine J.iteT rfl ?_
    rw [show decide (colOk s (k, m)) = false from decide_eq_false (by unfold colOk; dsimp only; omega)]
    refine J.seq ?_
    refine J.region ?_
    refine L.va rfl (X.assign (by conv => lhs; whnf)) ?_
    refine L.nil ?_
    refine J.ret ?_
    refine thn_ret <| ?_
    refine fin1 ?_
    exact ⟨rfl, he⟩
  refine L.va rfl (X.fieldAddr rfl Try.underlying130 rfl sz_3 (by decide)) ?_
  refine L.va rfl (X.load rfl sc_3 (by first | exact Ld.blk hk2 rfl | exact Ld.blk hk12 rfl)) ?_
  refine L.va rfl (X.gtr rfl rfl) ?_
  refine L.va rfl (X.pickF rfl (by conv => lhs; whnf)) ?_
  refine L.va rfl (X.move (by conv => lhs; whnf)) ?_
  refine L.caseDec (k := 19) rfl (fun h2 => ?_) (fun h2 => ?_)
  · refine L.no rfl ?_
    refine L.no rfl ?_
    refine L.no rfl ?_
    refine L.va rfl (X.pickT rfl (by conv => lhs; whnf)) ?_
    refine L.nil ?_
    refine J.iteT rfl ?_
    rw [show decide (colOk s (k, m)) = false from decide_eq_false (by unfold colOk; dsimp only; omega)]
    refine J.seq ?_
    refine J.region ?_
    refine L.va rfl (X.assign (by conv => lhs; whnf)) ?_
    refine L.nil ?_
    refine J.ret ?_
    refine thn_ret <| ?_
    refine fin1 ?_
    exact ⟨rfl, he⟩
  refine L.va rfl (X.fieldAddr rfl Try.underlying130 rfl sz_3 (by decide)) ?_
  refine L.va rfl (X.load rfl sc_3 (by first | exact Ld.blk hk2 rfl | exact Ld.blk hk12 rfl)) ?_
  refine L.va rfl (X.lss rfl rfl) ?_
  refine L.va rfl (X.pickF rfl (by conv => lhs; whnf)) ?_
  refine L.nil ?_
  refine J.dec rfl (fun h3 => ?_) (fun h3 => ?_)
  · rw [show decide (colOk s (k, m)) = false from decide_eq_false (by unfold colOk; dsimp only; omega)]
    refine J.seq ?_
    refine J.region ?_
    refine L.va rfl (X.assign (by conv => lhs; whnf)) ?_
    refine L.nil ?_
    refine J.ret ?_
    refine thn_ret <| ?_
    refine fin1 ?_
    exact ⟨rfl, he⟩
  refine J.skip ?_
  refine J.seq ?_
  refine J.seq ?_
  refine J.region ?_
  refine L.va rfl (X.fieldAddr rfl Try.underlying130 rfl sz_3 (by decide)) ?_
  refine L.va rfl (X.load rfl sc_3 (by first | exact Ld.blk hk2 rfl | exact Ld.blk hk12 rfl)) ?_
  refine L.va rfl (X.fieldAddr rfl Try.underlying49 rfl sz_46 (by decide)) ?_
  refine L.va rfl (X.load rfl sc_46 (by first | exact Ld.blk hk2 rfl | exact Ld.blk hk12 rfl)) ?_
  refine L.va rfl (X.len rfl Try.underlying46) ?_
  refine L.va rfl (X.lss rfl rfl) ?_
  refine L.nil ?_
  refine J.dec rfl (fun h4 => ?_) (fun h4 => ?_)
  · rw [show decide (colOk s (k, m)) = true from decide_eq_true (by unfold colOk; dsimp only; omega)]
    refine J.seq ?_
    refine J.region ?_
    refine L.va rfl (X.assign (by conv => lhs; whnf)) ?_
    refine L.nil ?_
    refine J.ret ?_
    refine thn_ret <| ?_
    refine fin1 ?_
    exact ⟨rfl, he⟩
  refine J.skip ?_
  refine J.seq ?_
  refine J.region ?_
  refine L.va rfl (X.fieldAddr rfl Try.underlying130 rfl sz_3 (by decide)) ?_
  refine L.va rfl (X.load rfl sc_3 (by first | exact Ld.blk hk2 rfl | exact Ld.blk hk12 rfl)) ?_
  refine L.va rfl (X.leq rfl rfl) ?_
  refine L.va rfl (X.move (by conv => lhs; whnf)) ?_
  refine L.caseDec (k := 33) rfl (fun h5 => ?_) (fun h5 => ?_)
  · refine L.va rfl (X.fieldAddr rfl Try.underlying130 rfl sz_3 (by decide)) ?_
    refine L.va rfl (X.load rfl sc_3 (by first | exact Ld.blk hk2 rfl | exact Ld.blk hk12 rfl)) ?_
    refine L.va rfl (X.fieldAddr rfl Try.underlying49 rfl sz_46 (by decide)) ?_
    refine L.va rfl (X.load rfl sc_46 (by first | exact Ld.blk hk2 rfl | exact Ld.blk hk12 rfl)) ?_
    refine L.va rfl (X.len rfl Try.underlying46) ?_
    refine L.va rfl (X.fieldAddr rfl Try.underlying49 rfl sz_46 (by decide)) ?_
    refine L.va rfl (X.load rfl sc_46 (by first | exact Ld.blk hk2 rfl | exact Ld.blk hk12 rfl)) ?_
    refine L.va rfl (X.len rfl Try.underlying46) ?_
    refine L.va rfl (X.add rfl rfl (by omega)) ?_
    refine L.va rfl (X.lss rfl rfl) ?_
    refine L.va rfl (X.pickT rfl (by conv => lhs; whnf)) ?_
    refine L.va rfl (X.assign (by conv => lhs; whnf)) ?_
    refine L.nil ?_
    refine J.ret ?_
    refine fin1 ?_
    exact ⟨by rw [show decide (colOk s (k, m)) = decide (m < (s.n1 : Int) + s.n2) from decide_eq_decide.2 (by unfold colOk; dsimp only; omega)]; rfl, he⟩
  · rw [show decide (colOk s (k, m)) = false from decide_eq_false (by unfold colOk; dsimp only; omega)]
    refine L.no rfl ?_
    refine L.no rfl ?_
    refine L.no rfl ?_
    refine L.no rfl ?_
    refine L.no rfl ?_
    refine L.no rfl ?_
    refine L.no rfl ?_
    refine L.no rfl ?_
    refine L.no rfl ?_
    refine L.no rfl ?_
    refine L.va rfl (X.pickF rfl (by conv => lhs; whnf)) ?_
    refine L.va rfl (X.assign (by conv => lhs; whnf)) ?_
    refine L.nil ?_
    refine J.ret ?_
    refine fin1 ?_
    exact ⟨rfl, he⟩
end Go.Proofs.Ytlipeplfjkgamaa
namespace Go.Proofs.Ytlipeplfjkgamaa
set_option maxRecDepth 100000
open Go.RowKit H
set_option linter.unusedVariables false
abbrev oV (x : Int × Bool) : List Value := [.int .i64 x.1, .bool x.2]
theorem cV_len (x : Int × Int) : (cV x).length = 2 := rfl
theorem oV_len (x : Int × Bool) : (oV x).length = 2 := rfl
def c0 : Int × Int := (0, 0)
def o0 : Int × Bool := (0, false)
theorem gtC {l : List (Int × Int)} {i : Nat} (h : i < l.length) : l[i]? = some (l.getD i c0) := by rw [List.getD, List.getElem?_eq_getElem h]; rfl
theorem gtO {l : List (Int × Bool)} {i : Nat} (h : i < l.length) : l[i]? = some (l.getD i o0) := by rw [List.getD, List.getElem?_eq_getElem h]; rfl
structure Qu where
  (g : Nat) (f : Fis) (Ac : Option Addr) (nc cc : Nat) (c : List (Int × Int)) (Ao : Option Addr) (no co : Nat) (o : List (Int × Bool)) (m : Int)
namespace Qu
abbrev vs (q : Qu) : List Value := [.int .u32 (q.g : Int), q.f.val, .slice q.Ac q.nc q.cc, .slice q.Ao q.no q.co, .int .i64 q.m]
abbrev val (q : Qu) : Value := .agg q.vs.toArray
structure At (q : Qu) (N : Nat) (w : World) : Prop where
  g : q.g < 4294967296
  f : q.f.At N w
  c : Reads w N 2 q.Ac q.nc (q.c.flatMap cV)
  lc : q.c.length = q.nc
  mc : q.nc ≤ maxLen
  o : Reads w N 2 q.Ao q.no (q.o.flatMap oV)
  lo : q.o.length = q.no
  mo : q.no ≤ maxLen
theorem At.ext {q : Qu} {N : Nat} {w w' : World} (h : q.At N w) (he : Ext w w') : q.At N w' := ⟨h.g, h.f.ext he, h.c.ext he, h.lc, h.mc, h.o.ext he, h.lo, h.mo⟩
theorem At.low {q : Qu} {N B : Nat} {w w' : World} (h : q.At N w) (he : Below B w w') (hB : N ≤ B) : q.At N w' := ⟨h.g, h.f.low he hB, h.c.low he hB, h.lc, h.mc, h.o.low he hB, h.lo, h.mo⟩
theorem At.more {q : Qu} {N N' : Nat} {w : World} (h : q.At N w) (hN : N ≤ N') : q.At N' w := ⟨h.g, h.f.more hN, h.c.more hN, h.lc, h.mc, h.o.more hN, h.lo, h.mo⟩
abbrev oOk (q : Qu) (x : Int × Bool) : Prop := 0 ≤ x.1 ∧ x.1 < (q.nc : Int)
end Qu
def qcode (s : Sch) (q : Qu) : Int :=
  if s.code ≠ 0 then 1 else if ¬ (q.g : Int) ≤ s.F then 11 else if fcode s q.f ≠ 0 then fcode s q.f
  else if q.nc < 1 ∨ 16 < q.nc ∨ 8 < q.no then 3
  else if (∃ i, i < q.nc ∧ ¬ colOk s (q.c.getD i c0)) ∨ (∃ i, i < q.no ∧ ¬ q.oOk (q.o.getD i o0)) ∨ q.m < 0 then 2 else 0
section
variable {s : Sch} {q : Qu}
theorem qc_1 (h : s.code ≠ 0) : qcode s q = 1 := by unfold qcode; rw [if_pos h]
theorem qc_11 (h : s.code = 0) (h2 : ¬ (q.g : Int) ≤ s.F) : qcode s q = 11 := by unfold qcode; rw [if_neg (fun k => k h), if_pos h2]
theorem qc_f (h : s.code = 0) (h2 : (q.g : Int) ≤ s.F) (h3 : fcode s q.f ≠ 0) : qcode s q = fcode s q.f := by unfold qcode; rw [if_neg (fun k => k h), if_neg (fun k => k h2), if_pos h3]
theorem qc_3 (h : s.code = 0) (h2 : (q.g : Int) ≤ s.F) (h3 : fcode s q.f = 0) (h4 : q.nc < 1 ∨ 16 < q.nc ∨ 8 < q.no) : qcode s q = 3 := by unfold qcode; rw [if_neg (fun k => k h), if_neg (fun k => k h2), if_neg (fun k => k h3), if_pos h4]
theorem qc_2 (h : s.code = 0) (h2 : (q.g : Int) ≤ s.F) (h3 : fcode s q.f = 0) (h4 : ¬ (q.nc < 1 ∨ 16 < q.nc ∨ 8 < q.no)) (h5 : (∃ i, i < q.nc ∧ ¬ colOk s (q.c.getD i c0)) ∨ (∃ i, i < q.no ∧ ¬ q.oOk (q.o.getD i o0)) ∨ q.m < 0) : qcode s q = 2 := by
  unfold qcode; rw [if_neg (fun k => k h), if_neg (fun k => k h2), if_neg (fun k => k h3), if_neg h4, if_pos h5]
theorem qc_0 (h : s.code = 0) (h2 : (q.g : Int) ≤ s.F) (h3 : fcode s q.f = 0) (h4 : ¬ (q.nc < 1 ∨ 16 < q.nc ∨ 8 < q.no)) (h5 : ∀ i, i < q.nc → colOk s (q.c.getD i c0)) (h6 : ∀ i, i < q.no → q.oOk (q.o.getD i o0)) (h7 : ¬ q.m < 0) : qcode s q = 0 := by
  unfold qcode; rw [if_neg (fun k => k h), if_neg (fun k => k h2), if_neg (fun k => k h3), if_neg h4, if_neg]
  rintro (⟨i, hi, k⟩ | ⟨i, hi, k⟩ | k)
  · exact k (h5 i hi)
  · exact k (h6 i hi)
  · exact h7 k
theorem qc_ok (h : qcode s q = 0) : s.code = 0 ∧ (q.g : Int) ≤ s.F ∧ fcode s q.f = 0 ∧ ¬ (q.nc < 1 ∨ 16 < q.nc ∨ 8 < q.no) := by
  unfold qcode at h
  split at h
  · cases h
  · rename_i h1
    split at h
    · cases h
    · rename_i h2
      split at h
      · rename_i h3; exact absurd h h3
      · rename_i h3
        split at h
        · cases h
        · rename_i h4
          exact ⟨Decidable.not_not.1 h1, Decidable.not_not.1 h2, Decidable.not_not.1 h3, h4⟩
end
theorem qcheck {s : Sch} {q : Qu} {w : World} (H : s.Here w) (hq : q.At w.heap.size w) : Calls Try.prog 33 #[s.val, q.val] w fun e w' => e = .returned (.int .i64 (qcode s q)) ∧ Ext w w' := by
  have hle := H.hle
  have hg := hq.g
  have lc := hq.lc
  have mc := hq.mc
  have lo := hq.lo
  have mo := hq.mo
  unfold maxLen at mc mo
  refine enter Try.func33 rfl (by kernel_rfl) ?_
  refine J.seq ?_
  refine J.region ?_
  refine L.boxA (l := [_, _, _, _]) rfl rfl ?_
  intro b1 w1 hb1 hs1 hk1 he1
  refine L.boxA (l := [_, _, _, _, _]) rfl rfl ?_
  intro b2 w2 hb2 hs2 hk2 he2
  have hk12 := hk1.ext he2
  have he02 := he1.trans he2
  have H2 := H.ext he02
  have hk2 : Blk w2 b2 54 q.vs.toArray := hk2
  by_cases hc : s.code = 0
  · refine L.va rfl (X.assign (by conv => lhs; whnf)) ?_
    refine L.nil ?_
    refine J.seq ?_
    refine J.region ?_
    refine L.va rfl ((by first | exact X.loadAgg rfl (range_l hk2) Try.underlying49 rfl (by kernel_rfl) | exact X.loadAgg rfl (range_blk hk2) Try.underlying49 rfl (by kernel_rfl) | exact X.loadAgg rfl (range_l hk12) Try.underlying49 rfl (by kernel_rfl) | exact X.loadAgg rfl (range_blk hk12) Try.underlying49 rfl (by kernel_rfl))) ?_
    refine L.call rfl en_90 rfl (H2.full_ok hc) ?_
    rintro e w3 ⟨rfl, he3⟩
    refine ⟨_, rfl, ?_⟩
    have he03 := he02.trans he3
    have hF := Sch.F_bd hc
    have hnd := (Sch.good hc).1.2.1
    have hand := Sch.andNot_full (s := s) (m := q.g) hg hnd
    replace hk2 := hk2.ext he3
    replace hk12 := hk12.ext he3
    refine L.va rfl (X.assign (by conv => lhs; whnf)) ?_
    refine L.nil ?_
    refine J.seq ?_
    refine J.seq ?_
    refine J.region ?_
    refine L.va rfl (X.move (by conv => lhs; whnf)) ?_
    refine L.va rfl (X.eql rfl rfl) ?_
    refine L.nil ?_
    refine J.decF rfl (by omega) ?_
    refine J.skip ?_
    refine J.seq ?_
    refine J.seq ?_
    refine J.region ?_
    refine L.va rfl (X.fieldAddr rfl Try.underlying54 rfl sz_50 (by decide)) ?_
    refine L.va rfl (X.load rfl sc_50 (by first | exact Ld.blk hk2 rfl | exact Ld.blk hk12 rfl)) ?_
    refine L.va rfl (X.move (by conv => lhs; whnf)) ?_
    refine L.va rfl (X.andNot rfl rfl) ?_
    refine L.va rfl (X.neq rfl rfl) ?_
    refine L.nil ?_
    refine J.ndec rfl (fun h2 => ?_) (fun h2 => ?_)
    · rw [qc_11 hc (fun h => h2 (hand.2 h))]
      refine J.seq ?_
      refine J.region ?_
      refine L.va rfl (X.assign (by conv => lhs; whnf)) ?_
      refine L.nil ?_
      refine J.ret ?_
      refine thn_ret <| ?_
      refine fin1 ?_
      exact ⟨rfl, he03⟩
    have h2 := hand.1 h2
    have q3 := (hq.ext he03).more he03.le
    refine J.skip ?_
    refine J.seq ?_
    refine J.seq ?_
    refine J.region ?_
    refine L.va rfl ((by first | exact X.loadAgg rfl (range_l hk2) Try.underlying49 rfl (by kernel_rfl) | exact X.loadAgg rfl (range_blk hk2) Try.underlying49 rfl (by kernel_rfl) | exact X.loadAgg rfl (range_l hk12) Try.underlying49 rfl (by kernel_rfl) | exact X.loadAgg rfl (range_blk hk12) Try.underlying49 rfl (by kernel_rfl))) ?_
    refine L.va rfl (X.fieldAddr rfl Try.underlying54 rfl sz_51 (by decide)) ?_
    refine L.va rfl (X.load rfl sc_51 (by first | exact Ld.blk hk2 rfl | exact Ld.blk hk12 rfl)) ?_
    refine L.call rfl en_91 rfl (fcheck (H.ext he03) q3.f) ?_
    rintro e w4 ⟨rfl, he4⟩
    refine ⟨_, rfl, ?_⟩
    have he04 := he03.trans he4
    replace hk2 := hk2.ext he4
    replace hk12 := hk12.ext he4
    refine L.va rfl (X.assign (by conv => lhs; whnf)) ?_
    refine L.nil ?_
    refine J.seq ?_
    refine J.region ?_
    refine L.va rfl (X.move (by conv => lhs; whnf)) ?_
    refine L.va rfl (X.neq rfl rfl) ?_
    refine L.nil ?_
    refine J.ndec rfl (fun h3 => ?_) (fun h3 => ?_)
    · rw [qc_f hc h2 h3]
      refine J.seq ?_
      refine J.region ?_
      refine L.va rfl (X.move (by conv => lhs; whnf)) ?_
      refine L.va rfl (X.assign (by conv => lhs; whnf)) ?_
      refine L.nil ?_
      refine J.ret ?_
      refine thn_ret <| ?_
      refine fin1 ?_
      exact ⟨rfl, he04⟩
    refine J.skip ?_
    refine J.seq ?_
    refine J.seq ?_
    refine J.region ?_
    refine L.va rfl (X.fieldAddr rfl Try.underlying54 rfl sz_52 (by decide)) ?_
    refine L.va rfl (X.load rfl sc_52 (by first | exact Ld.blk hk2 rfl | exact Ld.blk hk12 rfl)) ?_
    refine L.va rfl (X.len rfl Try.underlying52) ?_
    refine L.va rfl (X.eql rfl rfl) ?_
    refine L.va rfl (X.move (by conv => lhs; whnf)) ?_
    refine L.caseDec (k := 31) rfl (fun h4 => ?_) (fun h4 => ?_)
    · refine L.no rfl ?_
      refine L.no rfl ?_
      refine L.no rfl ?_
      refine L.no rfl ?_
      refine L.va rfl (X.pickT rfl (by conv => lhs; whnf)) ?_
      refine L.va rfl (X.move (by conv => lhs; whnf)) ?_
      refine L.no rfl ?_
      refine L.no rfl ?_
      refine L.no rfl ?_
      refine L.no rfl ?_
      refine L.va rfl (X.pickT rfl (by conv => lhs; whnf)) ?_
      refine L.nil ?_
      refine J.iteT rfl ?_
      rw [qc_3 hc h2 h3 (by omega)]
      refine J.seq ?_
      refine J.region ?_
      refine L.va rfl (X.assign (by conv => lhs; whnf)) ?_
      refine L.nil ?_
      refine J.ret ?_
      refine thn_ret <| ?_
      refine fin1 ?_
      exact ⟨rfl, he04⟩
    refine L.va rfl (X.fieldAddr rfl Try.underlying54 rfl sz_52 (by decide)) ?_
    refine L.va rfl (X.load rfl sc_52 (by first | exact Ld.blk hk2 rfl | exact Ld.blk hk12 rfl)) ?_
    refine L.va rfl (X.len rfl Try.underlying52) ?_
    refine L.va rfl (X.gtr rfl rfl) ?_
    refine L.va rfl (X.pickF rfl (by conv => lhs; whnf)) ?_
    refine L.va rfl (X.move (by conv => lhs; whnf)) ?_
    refine L.caseDec (k := 37) rfl (fun h5 => ?_) (fun h5 => ?_)
    · refine L.no rfl ?_
      refine L.no rfl ?_
      refine L.no rfl ?_
      refine L.no rfl ?_
      refine L.va rfl (X.pickT rfl (by conv => lhs; whnf)) ?_
      refine L.nil ?_
      refine J.iteT rfl ?_
      rw [qc_3 hc h2 h3 (by omega)]
      refine J.seq ?_
      refine J.region ?_
      refine L.va rfl (X.assign (by conv => lhs; whnf)) ?_
      refine L.nil ?_
      refine J.ret ?_
      refine thn_ret <| ?_
      refine fin1 ?_
      exact ⟨rfl, he04⟩
    refine L.va rfl (X.fieldAddr rfl Try.underlying54 rfl sz_22 (by decide)) ?_
    refine L.va rfl (X.load rfl sc_22 (by first | exact Ld.blk hk2 rfl | exact Ld.blk hk12 rfl)) ?_
    refine L.va rfl (X.len rfl Try.underlying22) ?_
    refine L.va rfl (X.gtr rfl rfl) ?_
    refine L.va rfl (X.pickF rfl (by conv => lhs; whnf)) ?_
    refine L.nil ?_
    refine J.dec rfl (fun h6 => ?_) (fun h6 => ?_)
    · rw [qc_3 hc h2 h3 (by omega)]
      refine J.seq ?_
      refine J.region ?_
      refine L.va rfl (X.assign (by conv => lhs; whnf)) ?_
      refine L.nil ?_
      refine J.ret ?_
      refine thn_ret <| ?_
      refine fin1 ?_
      exact ⟨rfl, he04⟩
    have H4 := H.ext he04
    have z4 := he04.le
    refine J.skip ?_
    refine J.seq ?_
    refine J.seq ?_
    refine J.region ?_
    refine L.va rfl (X.fieldAddr rfl Try.underlying54 rfl sz_52 (by decide)) ?_
    refine L.va rfl (X.load rfl sc_52 (by first | exact Ld.blk hk2 rfl | exact Ld.blk hk12 rfl)) ?_
    refine L.va rfl (X.len rfl Try.underlying52) ?_
    refine L.va rfl (X.move (by conv => lhs; whnf)) ?_
    refine L.nil ?_
    refine J.block ?_
    refine J.loop (X := Nat) [4, 8, 46, 47, 48, 49, 50, 51, 52, 53, 54] (fun i => [(46, .int .i64 (i : Int))]) (fun i w' => i ≤ q.nc ∧ (∀ j, j < i → colOk s (q.c.getD j c0)) ∧ Ext w4 w') (fun i => q.nc - i) (0) (At1 (by first | rfl | exact at_int rfl (by omega) | exact at_slice rfl (by omega) | exact at_int rfl (by simp))) ?_ ?_
    · exact ⟨Nat.zero_le _, fun j hj => absurd hj (by omega), Ext.refl _⟩
    · rintro i g w5 ⟨hi, hP, he5⟩
      have he05 := he04.trans he5
      have z5 := he5.le
      have hk5 := hk2.ext he5
      have hk15 := hk12.ext he5
      have c5 := hq.c.ext he05
      refine J.seq ?_
      refine J.region ?_
      refine L.va rfl (X.lss rfl rfl) ?_
      refine L.nil ?_
      refine J.seq ?_
      refine J.dec rfl (fun hlt => ?_) (fun hlt => ?_)
      · have hin : i < q.nc := by omega
        have hA := c5.some_ (by omega)
        obtain ⟨k, m, hkm⟩ : ∃ k m, q.c.getD i c0 = (k, m) := ⟨_, _, rfl⟩
        have hgt := gtC (l := q.c) (i := i) (by omega)
        rw [hkm] at hgt
        refine J.skip ?_
        refine J.seq ?_
        refine J.block ?_
        refine J.seq ?_
        refine J.region ?_
        refine L.va rfl ((by first | exact X.indexAddrn rfl rfl Try.underlying52 sz_130 (by first | exact Option.some_ne_none _ | exact hA) (by omega) | exact X.indexAddr rfl rfl Try.underlying52 sz_130 (by first | exact Option.some_ne_none _ | exact hA) (by omega))) ?_
        refine L.va rfl (X.loadRow (cs := cV (k, m)) rfl c5 (fun r u hu => flat_row cV_len hgt r u hu) (Nat.zero_lt_succ _) Try.underlying130 rfl (by kernel_rfl)) ?_
        refine L.alloc rfl zr_130 ?_
        intro b6 w6 hb6 hs6 hk6 he6
        have hk56 := hk5.ext he6
        have hk156 := hk15.ext he6
        have l56 := hk5.lt
        have l156 := hk15.lt
        refine L.storeAgg (vs := [_, _]) rfl rfl rfl rfl sz_130 (hk6) rfl ?_
        intro w7 hk7 hg7 hs7
        have he57 : Ext w5 w7 := he6.grw hg7 (by intro g hg; injection hg with hg; omega)
        have hk7 : Blk w7 b6 130 (cV (k, m)).toArray := hk7
        have hk57 := hk5.ext he57
        have hk157 := hk15.ext he57
        have he07 := he05.trans he57
        refine L.nil ?_
        refine J.seq ?_
        refine J.region ?_
        refine L.va rfl ((by first | exact X.loadAgg rfl (range_l hk7) Try.underlying49 rfl (by kernel_rfl) | exact X.loadAgg rfl (range_blk hk7) Try.underlying49 rfl (by kernel_rfl) | exact X.loadAgg rfl (range_l hk57) Try.underlying49 rfl (by kernel_rfl) | exact X.loadAgg rfl (range_blk hk57) Try.underlying49 rfl (by kernel_rfl) | exact X.loadAgg rfl (range_l hk157) Try.underlying49 rfl (by kernel_rfl) | exact X.loadAgg rfl (range_blk hk157) Try.underlying49 rfl (by kernel_rfl))) ?_
        refine L.va rfl ((by first | exact X.loadAgg rfl (range_l hk7) Try.underlying130 rfl (by kernel_rfl) | exact X.loadAgg rfl (range_blk hk7) Try.underlying130 rfl (by kernel_rfl) | exact X.loadAgg rfl (range_l hk57) Try.underlying130 rfl (by kernel_rfl) | exact X.loadAgg rfl (range_blk hk57) Try.underlying130 rfl (by kernel_rfl) | exact X.loadAgg rfl (range_l hk157) Try.underlying130 rfl (by kernel_rfl) | exact X.loadAgg rfl (range_blk hk157) Try.underlying130 rfl (by kernel_rfl))) ?_
        refine L.call rfl en_92 rfl (qcolumn k m (H.ext he07)) ?_
        rintro e w8 ⟨rfl, he8⟩
        refine ⟨_, rfl, ?_⟩
        refine L.va rfl (X.not rfl) ?_
        refine L.nil ?_
        by_cases hok : colOk s (k, m)
        · rw [decide_eq_true hok]
          refine J.iteF rfl ?_
          refine J.skip ?_
          refine J.region ?_
          refine L.va rfl (X.add rfl rfl (by omega)) ?_
          refine L.va rfl (X.move (by conv => lhs; whnf)) ?_
          refine L.nil ?_
          refine ⟨i + 1, At1 (by first | rfl | exact at_int rfl (by omega) | exact at_slice rfl (by omega) | exact at_int rfl (by simp)), (by (iterate 10 refine Agr.lk rfl ?_); exact Agr.lk rfl (Agr.hav rfl Agr.rfl')), ?_⟩
          refine ⟨⟨by omega, fun j hj => ?_, he5.trans (he57.trans he8)⟩, by omega⟩
          rcases Nat.lt_or_ge j i with h | h
          · exact hP j h
          · obtain rfl : j = i := by omega
            rw [hkm]; exact hok
        · rw [decide_eq_false hok, qc_2 hc h2 h3 (by omega) (.inl ⟨i, hin, by rw [hkm]; exact hok⟩)]
          refine J.iteT rfl ?_
          refine J.seq ?_
          refine J.region ?_
          refine L.va rfl (X.assign (by conv => lhs; whnf)) ?_
          refine L.nil ?_
          refine J.ret ?_
          refine inB_ret <|  thn_ret <|  thn_ret <|  inB_ret <|  thn_ret <| ?_
          refine fin1 ?_
          exact ⟨rfl, he07.trans he8⟩
      · refine J.exit ?_
        refine J.seq ?_
        refine J.seq ?_
        refine J.region ?_
        refine L.va rfl (X.fieldAddr rfl Try.underlying54 rfl sz_22 (by decide)) ?_
        refine L.va rfl (X.load rfl sc_22 (by first | exact Ld.blk hk5 rfl | exact Ld.blk hk15 rfl)) ?_
        refine L.va rfl (X.len rfl Try.underlying22) ?_
        refine L.va rfl (X.move (by conv => lhs; whnf)) ?_
        refine L.nil ?_
        refine J.block ?_
        refine J.loop (X := Nat) [4, 10, 58, 59, 60, 61, 62, 63, 64, 65, 66, 67, 68, 69, 70, 71, 72, 73] (fun i => [(58, .int .i64 (i : Int))]) (fun i w' => i ≤ q.no ∧ (∀ j, j < i → q.oOk (q.o.getD j o0)) ∧ Ext w4 w') (fun i => q.no - i) (0) (At1 (by first | rfl | exact at_int rfl (by omega) | exact at_slice rfl (by omega) | exact at_int rfl (by simp))) ?_ ?_
        · exact ⟨Nat.zero_le _, fun j hj => absurd hj (by omega), he5⟩
        · rintro j g w6 ⟨hj, hQ, he6⟩
          have he06 := he04.trans he6
          have z6 := he6.le
          have hk6 := hk2.ext he6
          have o6 := hq.o.ext he06
          refine J.seq ?_
          refine J.region ?_
          refine L.va rfl (X.lss rfl rfl) ?_
          refine L.nil ?_
          refine J.seq ?_
          refine J.dec rfl (fun hlt2 => ?_) (fun hlt2 => ?_)
          · have hjn : j < q.no := by omega
            have hA := o6.some_ (by omega)
            obtain ⟨k, m, hkm⟩ : ∃ k m, q.o.getD j o0 = (k, m) := ⟨_, _, rfl⟩
            have hgt := gtO (l := q.o) (i := j) (by omega)
            rw [hkm] at hgt
            refine J.skip ?_
            refine J.seq ?_
            refine J.block ?_
            refine J.seq ?_
            refine J.region ?_
            refine L.va rfl ((by first | exact X.indexAddrn rfl rfl Try.underlying22 sz_98 (by first | exact Option.some_ne_none _ | exact hA) (by omega) | exact X.indexAddr rfl rfl Try.underlying22 sz_98 (by first | exact Option.some_ne_none _ | exact hA) (by omega))) ?_
            refine L.va rfl (X.loadRow (cs := oV (k, m)) rfl o6 (fun r u hu => flat_row oV_len hgt r u hu) (Nat.zero_lt_succ _) Try.underlying98 rfl (by kernel_rfl)) ?_
            refine L.alloc rfl zr_98 ?_
            intro b7 w7 hb7 hs7 hk7 he7
            refine L.storeAgg (vs := [_, _]) rfl rfl rfl rfl sz_98 (hk7) rfl ?_
            intro w8 hk8 hg8 hs8
            have he68 : Ext w6 w8 := he7.grw hg8 (by intro g hg; injection hg with hg; omega)
            have hk8 : Blk w8 b7 98 (oV (k, m)).toArray := hk8
            have hk68 := hk6.ext he68
            have he08 := he06.trans he68
            refine L.nil ?_
            refine J.seq ?_
            refine J.region ?_
            refine L.va rfl (X.fieldAddr rfl Try.underlying98 rfl sz_3 (by decide)) ?_
            refine L.va rfl (X.load rfl sc_3 (by first | exact Ld.blk hk8 rfl | exact Ld.blk hk68 rfl | exact hA)) ?_
            refine L.va rfl (X.lss rfl rfl) ?_
            refine L.va rfl (X.move (by conv => lhs; whnf)) ?_
            refine L.caseDec (k := 65) rfl (fun h7 => ?_) (fun h7 => ?_)
            · refine L.no rfl ?_
              refine L.no rfl ?_
              refine L.no rfl ?_
              refine L.no rfl ?_
              refine L.no rfl ?_
              refine L.no rfl ?_
              refine L.va rfl (X.pickT rfl (by conv => lhs; whnf)) ?_
              refine L.nil ?_
              refine J.iteT rfl ?_
              rw [qc_2 hc h2 h3 (by omega) (.inr (.inl ⟨j, hjn, by rw [hkm]; unfold Qu.oOk; dsimp only; omega⟩))]
              refine J.seq ?_
              refine J.region ?_
              refine L.va rfl (X.assign (by conv => lhs; whnf)) ?_
              refine L.nil ?_
              refine J.ret ?_
              refine inB_ret <|  thn_ret <|  thn_ret <|  inB_ret <|  thn_ret <| ?_
              refine fin1 ?_
              exact ⟨rfl, he08⟩
            refine L.va rfl (X.fieldAddr rfl Try.underlying98 rfl sz_3 (by decide)) ?_
            refine L.va rfl (X.load rfl sc_3 (by first | exact Ld.blk hk8 rfl | exact Ld.blk hk68 rfl | exact hA)) ?_
            refine L.va rfl (X.fieldAddr rfl Try.underlying54 rfl sz_52 (by decide)) ?_
            refine L.va rfl (X.load rfl sc_52 (by first | exact Ld.blk hk8 rfl | exact Ld.blk hk68 rfl | exact hA)) ?_
            refine L.va rfl (X.len rfl Try.underlying52) ?_
            refine L.va rfl (X.geq rfl rfl) ?_
            refine L.va rfl (X.pickF rfl (by conv => lhs; whnf)) ?_
            refine L.nil ?_
            refine J.dec rfl (fun h8 => ?_) (fun h8 => ?_)
            · rw [qc_2 hc h2 h3 (by omega) (.inr (.inl ⟨j, hjn, by rw [hkm]; unfold Qu.oOk; dsimp only; omega⟩))]
              refine J.seq ?_
              refine J.region ?_
              refine L.va rfl (X.assign (by conv => lhs; whnf)) ?_
              refine L.nil ?_
              refine J.ret ?_
              refine inB_ret <|  thn_ret <|  thn_ret <|  inB_ret <|  thn_ret <| ?_
              refine fin1 ?_
              exact ⟨rfl, he08⟩
            refine J.skip ?_
            refine J.region ?_
            refine L.va rfl (X.add rfl rfl (by omega)) ?_
            refine L.va rfl (X.move (by conv => lhs; whnf)) ?_
            refine L.nil ?_
            refine ⟨j + 1, At1 (by first | rfl | exact at_int rfl (by omega) | exact at_slice rfl (by omega) | exact at_int rfl (by simp)), (by (iterate 18 refine Agr.lk rfl ?_); exact Agr.lk rfl (Agr.hav rfl Agr.rfl')), ?_⟩
            refine ⟨⟨by omega, fun j' hj' => ?_, he6.trans he68⟩, by omega⟩
            rcases Nat.lt_or_ge j' j with h | h
            · exact hQ j' h
            · obtain rfl : j' = j := by omega
              rw [hkm]; exact ⟨by dsimp only; omega, by dsimp only; omega⟩
          · refine J.exit ?_
            refine J.seq ?_
            refine J.seq ?_
            refine J.region ?_
            refine L.va rfl (X.fieldAddr rfl Try.underlying54 rfl sz_3 (by decide)) ?_
            refine L.va rfl (X.load rfl sc_3 (by first | exact Ld.blk hk6 rfl)) ?_
            refine L.va rfl (X.lss rfl rfl) ?_
            refine L.nil ?_
            refine J.dec rfl (fun h9 => ?_) (fun h9 => ?_)
            · rw [qc_2 hc h2 h3 (by omega) (.inr (.inr h9))]
              refine J.seq ?_
              refine J.region ?_
              refine L.va rfl (X.assign (by conv => lhs; whnf)) ?_
              refine L.nil ?_
              refine J.ret ?_
              refine thn_ret <| ?_
              refine fin1 ?_
              exact ⟨rfl, he06⟩
            · rw [qc_0 hc h2 h3 (by omega) (fun i hi => hP i (by omega)) (fun i hi => hQ i (by omega)) h9]
              refine J.skip ?_
              refine J.seq ?_
              refine J.region ?_
              refine L.va rfl (X.assign (by conv => lhs; whnf)) ?_
              refine L.nil ?_
              refine J.ret ?_
              refine fin1 ?_
              exact ⟨rfl, he06⟩
  · refine L.va rfl (X.assign (by conv => lhs; whnf)) ?_
    refine L.nil ?_
    refine J.seq ?_
    refine J.region ?_
    refine L.va rfl ((by first | exact X.loadAgg rfl (range_l hk2) Try.underlying49 rfl (by kernel_rfl) | exact X.loadAgg rfl (range_blk hk2) Try.underlying49 rfl (by kernel_rfl) | exact X.loadAgg rfl (range_l hk12) Try.underlying49 rfl (by kernel_rfl) | exact X.loadAgg rfl (range_blk hk12) Try.underlying49 rfl (by kernel_rfl))) ?_
    refine L.call rfl en_90 rfl (H2.full_no hc) ?_
    rintro e w3 ⟨rfl, he3⟩
    refine ⟨_, rfl, ?_⟩
    rw [qc_1 hc]
    refine L.va rfl (X.assign (by conv => lhs; whnf)) ?_
    refine L.nil ?_
    refine J.seq ?_
    refine J.seq ?_
    refine J.region ?_
    refine L.va rfl (X.move (by conv => lhs; whnf)) ?_
    refine L.va rfl (X.eql rfl rfl) ?_
    refine L.nil ?_
    refine J.iteT rfl ?_
    refine J.seq ?_
    refine J.region ?_
    refine L.va rfl (X.assign (by conv => lhs; whnf)) ?_
    refine L.nil ?_
    refine J.ret ?_
    refine thn_ret <| ?_
    refine fin1 ?_
    exact ⟨rfl, he02.trans he3⟩
end Go.Proofs.Ytlipeplfjkgamaa
namespace Go.Proofs.Ytlipeplfjkgamaa
set_option linter.unusedVariables false
abbrev hasC (l : List (Int × Bool)) (c : Int) : Bool := l.any fun y => decide (y.1 = c)
def ddS (acc : List (Int × Bool)) (x : Int × Bool) : List (Int × Bool) := if hasC acc x.1 then acc else acc ++ [x]
def dd (l : List (Int × Bool)) : List (Int × Bool) := l.foldl ddS []
theorem dd_snoc (l : List (Int × Bool)) (x : Int × Bool) : dd (l ++ [x]) = ddS (dd l) x := by unfold dd; rw [List.foldl_append]; rfl
theorem dd_take {l : List (Int × Bool)} {i : Nat} (h : i < l.length) : dd (l.take (i + 1)) = ddS (dd (l.take i)) (l.getD i o0) := by
  rw [← dd_snoc]
  congr 1
  rw [List.take_add_one, gtO h]
  rfl
theorem hasC_iff {l : List (Int × Bool)} {c : Int} : hasC l c = true ↔ ∃ y ∈ l, y.1 = c := by simp [hasC, List.any_eq_true]
theorem hasC_snoc (l : List (Int × Bool)) (x : Int × Bool) (c : Int) : hasC (l ++ [x]) c = (hasC l c || decide (x.1 = c)) := by simp [hasC, List.any_append]
end Go.Proofs.Ytlipeplfjkgamaa
namespace Go.Proofs.Ytlipeplfjkgamaa
set_option linter.unusedVariables false
def swp (l : List Int) (i j : Nat) : List Int := (l.set i (l.getD j 0)).set j (l.getD i 0)
theorem swp_length (l : List Int) (i j : Nat) : (swp l i j).length = l.length := by simp [swp]
theorem getD_set (l : List Int) (i j : Nat) (x : Int) (hi : i < l.length) : (l.set i x).getD j 0 = if i = j then x else l.getD j 0 := by
  simp only [List.getD, List.getElem?_set]
  split
  · rename_i h
    subst h
    simp
  · rfl
theorem swp_at (l : List Int) {i j : Nat} (hi : i < l.length) (hj : j < l.length) (k : Nat) : (swp l i j).getD k 0 = if k = j then l.getD i 0 else if k = i then l.getD j 0 else l.getD k 0 := by
  unfold swp
  rw [getD_set _ _ _ _ (by simpa using hj), getD_set _ _ _ _ hi]
  by_cases h1 : k = j
  · rw [if_pos h1.symm, if_pos h1]
  · rw [if_neg (fun h => h1 h.symm), if_neg h1]
    by_cases h2 : k = i
    · rw [if_pos h2.symm, if_pos h2]
    · rw [if_neg (fun h => h2 h.symm), if_neg h2]
theorem swp_perm (l : List Int) {i j : Nat} (hi : i < l.length) (hj : j < l.length) : (swp l i j).Perm l := by
  have e1 : l.getD j 0 = l[j] := by simp [List.getD, hj]
  have e2 : l.getD i 0 = l[i] := by simp [List.getD, hi]
  unfold swp
  rw [e1, e2]
  exact List.set_set_perm hi hj
end Go.Proofs.Ytlipeplfjkgamaa
namespace Go.Proofs.Ytlipeplfjkgamaa
set_option linter.unusedVariables false
namespace Srt
inductive Pr (a b : Nat) : List Int → List Int → Prop
  | refl (l : List Int) : Pr a b l l
  | step {l m : List Int} {i j : Nat} (h : Pr a b l m) (hi : a ≤ i ∧ i < b) (hj : a ≤ j ∧ j < b) (hb : b ≤ m.length) : Pr a b l (swp m i j)
variable {a b : Nat} {l m k : List Int}
theorem Pr.len (h : Pr a b l m) : m.length = l.length := by
  induction h with
  | refl => rfl
  | step h _ _ _ ih => rw [swp_length]; exact ih
theorem Pr.perm (h : Pr a b l m) : m.Perm l := by
  induction h with
  | refl => exact List.Perm.refl _
  | step h hi hj hb ih => exact (swp_perm _ (by omega) (by omega)).trans ih
theorem Pr.trans (h : Pr a b l m) (h' : Pr a b m k) : Pr a b l k := by
  induction h' with
  | refl => exact h
  | step _ hi hj hb ih => exact .step ih hi hj hb
theorem Pr.wide {a' b' : Nat} (h : Pr a b l m) (ha : a' ≤ a) (hb : b ≤ b') (hl : b' ≤ l.length) : Pr a' b' l m := by
  induction h with
  | refl => exact .refl _
  | step h hi hj hb2 ih => exact .step ih ⟨by omega, by omega⟩ ⟨by omega, by omega⟩ (by rw [ih.len]; exact hl)
theorem Pr.out (h : Pr a b l m) {i : Nat} (hi : i < a ∨ b ≤ i) : m.getD i 0 = l.getD i 0 := by
  induction h with
  | refl => rfl
  | step h h1 h2 hb ih => rw [swp_at _ (by omega) (by omega), if_neg (by omega), if_neg (by omega), ih]
theorem Pr.all (h : Pr a b l m) {p : Int → Prop} (hp : ∀ i, a ≤ i → i < b → p (l.getD i 0)) : ∀ i, a ≤ i → i < b → p (m.getD i 0) := by
  induction h with
  | refl => exact hp
  | step h h1 h2 hb ih =>
    intro i hi1 hi2
    rw [swp_at _ (by omega) (by omega)]
    split
    · exact ih _ h1.1 h1.2
    · split
      · exact ih _ h2.1 h2.2
      · exact ih _ hi1 hi2
def In (l : List Int) (a b : Nat) : Prop := ∀ p q, a ≤ p → p < q → q < b → l.getD p 0 ≤ l.getD q 0
theorem In.tiny {l : List Int} {a b : Nat} (h : b ≤ a + 1) : In l a b := fun p q h1 h2 h3 => by omega
def InBut (l : List Int) (a i j : Nat) : Prop := ∀ p q, a ≤ p → p < q → q ≤ i → q ≠ j → l.getD p 0 ≤ l.getD q 0
theorem InBut.start {l : List Int} {a i : Nat} (h : In l a i) : InBut l a i i := fun p q h1 h2 h3 h4 => h p q h1 h2 (by omega)
theorem InBut.step {l : List Int} {a i j : Nat} (h : InBut l a i (j + 1)) (hj : a ≤ j) (hji : j + 1 ≤ i) (hi : i < l.length) (hlt : l.getD (j + 1) 0 < l.getD j 0) : InBut (swp l (j + 1) j) a i j := by
  intro p q h1 h2 h3 h4
  have ep := swp_at l (i := j + 1) (j := j) (by omega) (by omega) p
  have eq := swp_at l (i := j + 1) (j := j) (by omega) (by omega) q
  rw [if_neg h4] at eq
  by_cases hq : q = j + 1
  · rw [if_pos hq] at eq
    by_cases hp : p = j
    · rw [if_pos hp] at ep
      rw [ep, eq]; omega
    · rw [if_neg hp, if_neg (by omega)] at ep
      rw [ep, eq]
      exact h p j h1 (by omega) (by omega) (by omega)
  · rw [if_neg hq] at eq
    by_cases hp : p = j
    · rw [if_pos hp] at ep
      rw [ep, eq]
      exact h (j + 1) q (by omega) (by omega) h3 (by omega)
    · rw [if_neg hp] at ep
      by_cases hp2 : p = j + 1
      · rw [if_pos hp2] at ep
        rw [ep, eq]
        exact h j q (by omega) (by omega) h3 (by omega)
      · rw [if_neg hp2] at ep
        rw [ep, eq]
        exact h p q h1 h2 h3 (by omega)
theorem InBut.stop {l : List Int} {a i j : Nat} (h : InBut l a i j) (hji : j ≤ i) (hs : j = a ∨ l.getD (j - 1) 0 ≤ l.getD j 0) : In l a (i + 1) := by
  intro p q h1 h2 h3
  by_cases hq : q = j
  · subst hq
    rcases hs with hs | hs
    · omega
    · by_cases hp : p = q - 1
      · rw [hp]; exact hs
      · exact Int.le_trans (h p (q - 1) h1 (by omega) (by omega) (by omega)) hs
  · exact h p q h1 h2 (by omega) hq
def Hpr (l : List Int) (f lo n : Nat) : Prop := ∀ k, 0 < k → k < n → lo ≤ (k - 1) / 2 → l.getD (f + k) 0 ≤ l.getD (f + (k - 1) / 2) 0
structure Sd (l : List Int) (f lo n i : Nat) : Prop where
  h1 : ∀ k, 0 < k → k < n → lo ≤ (k - 1) / 2 → (k - 1) / 2 ≠ i → l.getD (f + k) 0 ≤ l.getD (f + (k - 1) / 2) 0
  h2 : 0 < i → lo ≤ (i - 1) / 2 → ∀ k, 0 < k → k < n → (k - 1) / 2 = i → l.getD (f + k) 0 ≤ l.getD (f + (i - 1) / 2) 0
theorem Sd.start {l : List Int} {f i n : Nat} (h : Hpr l f (i + 1) n) : Sd l f i n i :=
  ⟨fun k h0 hk hlo hne => h k h0 hk (by omega), fun h0 hlo => absurd hlo (by omega)⟩
theorem Sd.step {l : List Int} {f lo n i j : Nat} (h : Sd l f lo n i) (hj : (j - 1) / 2 = i) (hj0 : 0 < j) (hjn : j < n) (hf : f + n ≤ l.length)
    (hm : ∀ k, 0 < k → k < n → (k - 1) / 2 = i → l.getD (f + k) 0 ≤ l.getD (f + j) 0) (hlt : l.getD (f + i) 0 < l.getD (f + j) 0) : Sd (swp l (f + i) (f + j)) f lo n j := by
  have hs : ∀ k, k < n → (swp l (f + i) (f + j)).getD (f + k) 0 = if k = j then l.getD (f + i) 0 else if k = i then l.getD (f + j) 0 else l.getD (f + k) 0 := fun k hk => by
    rw [swp_at l (by omega) (by omega)]
    by_cases h1 : k = j
    · rw [if_pos (by omega), if_pos h1]
    · rw [if_neg (by omega), if_neg h1]
      by_cases h2 : k = i
      · rw [if_pos (by omega), if_pos h2]
      · rw [if_neg (by omega), if_neg h2]
  refine ⟨fun k h0 hk hlo hne => ?_, fun h0 hlo k hk0 hk hki => ?_⟩
  · have e1 := hs k hk
    have e2 := hs ((k - 1) / 2) (by omega)
    rw [if_neg hne] at e2
    by_cases hp : (k - 1) / 2 = i
    · rw [if_pos hp] at e2
      rw [e2, e1]
      by_cases hkj : k = j
      · rw [if_pos hkj]; omega
      · rw [if_neg hkj, if_neg (by omega)]
        exact hm k h0 hk hp
    · rw [if_neg hp] at e2
      rw [e2, e1]
      rw [if_neg (by omega)]
      by_cases hki : k = i
      · rw [if_pos hki]
        subst hki
        exact h.h2 h0 hlo j hj0 hjn hj
      · rw [if_neg hki]
        exact h.h1 k h0 hk hlo hp
  · have e1 := hs k hk
    have e2 := hs ((j - 1) / 2) (by omega)
    rw [if_neg (by omega), if_neg (by omega)] at e1
    rw [if_neg (by omega), if_pos hj] at e2
    rw [e1, e2]
    have := h.h1 k hk0 hk (by omega) (by omega)
    rw [hki] at this
    exact this
theorem Sd.stop {l : List Int} {f lo n i : Nat} (h : Sd l f lo n i) (hs : ∀ k, 0 < k → k < n → (k - 1) / 2 = i → l.getD (f + k) 0 ≤ l.getD (f + i) 0) : Hpr l f lo n := by
  intro k h0 hk hlo
  by_cases hp : (k - 1) / 2 = i
  · have := hs k h0 hk hp
    rw [hp]; exact this
  · exact h.h1 k h0 hk hlo hp
theorem Hpr.root {l : List Int} {f n : Nat} (h : Hpr l f 0 n) : ∀ k, k < n → l.getD (f + k) 0 ≤ l.getD f 0 := by
  intro k
  induction k using Nat.strongRecOn with
  | ind k ih =>
    intro hk
    by_cases h0 : k = 0
    · rw [h0]; exact Int.le_refl _
    · have h1 := h k (by omega) hk (Nat.zero_le _)
      have h2 := ih ((k - 1) / 2) (by omega) (by omega)
      omega
structure Off (l : List Int) (f p n : Nat) : Prop where
  hp : Hpr l f 0 p
  so : ∀ x y, p ≤ x → x < y → y < n → l.getD (f + x) 0 ≤ l.getD (f + y) 0
  lo : ∀ x y, x < p → p ≤ y → y < n → l.getD (f + x) 0 ≤ l.getD (f + y) 0
theorem Off.all {l : List Int} {f n : Nat} (h : Off l f 0 n) : In l f (f + n) := by
  intro p q h1 h2 h3
  have := h.so (p - f) (q - f) (Nat.zero_le _) (by omega) (by omega)
  rwa [show f + (p - f) = p by omega, show f + (q - f) = q by omega] at this
theorem Off.swap {l : List Int} {f p n : Nat} (h : Off l f (p + 1) n) (hn : p < n) (hf : f + n ≤ l.length) : Sd (swp l f (f + p)) f 0 p 0 := by
  have hs : ∀ k, k < p → 0 < k → (swp l f (f + p)).getD (f + k) 0 = l.getD (f + k) 0 := fun k hk h0 => by
    rw [swp_at l (by omega) (by omega), if_neg (by omega), if_neg (by omega)]
  refine ⟨fun k h0 hk hlo hne => ?_, fun h0 => absurd h0 (by omega)⟩
  rw [hs k hk h0, hs ((k - 1) / 2) (by omega) (by omega)]
  exact h.hp k h0 (by omega) (Nat.zero_le _)
theorem Off.next {l m : List Int} {f p n : Nat} (h : Off l f (p + 1) n) (hn : p < n) (hf : f + n ≤ l.length) (hP : Pr f (f + p) (swp l f (f + p)) m) (hH : Hpr m f 0 p) : Off m f p n := by
  have hr := h.hp.root
  have hmax : m.getD (f + p) 0 = l.getD f 0 := by
    rw [hP.out (.inr (Nat.le_refl _)), swp_at l (by omega) (by omega), if_pos rfl]
  have hhi : ∀ k, p < k → m.getD (f + k) 0 = l.getD (f + k) 0 := fun k hk => by
    rw [hP.out (.inr (by omega)), swp_at l (by omega) (by omega), if_neg (by omega), if_neg (by omega)]
  have hlo : ∀ i, f ≤ i → i < f + p → ∃ k, k ≤ p ∧ m.getD i 0 = l.getD (f + k) 0 := by
    refine hP.all (p := fun z => ∃ k, k ≤ p ∧ z = l.getD (f + k) 0) fun i h1 h2 => ?_
    rw [swp_at l (by omega) (by omega), if_neg (by omega)]
    split
    · exact ⟨p, Nat.le_refl _, rfl⟩
    · exact ⟨i - f, by omega, by rw [show f + (i - f) = i by omega]⟩
  refine ⟨hH, fun x y h1 h2 h3 => ?_, fun x y h1 h2 h3 => ?_⟩
  · rw [hhi y (by omega)]
    by_cases hx : x = p
    · rw [hx, hmax]
      exact h.lo 0 y (by omega) (by omega) h3
    · rw [hhi x (by omega)]
      exact h.so x y (by omega) h2 h3
  · obtain ⟨k, hk, e⟩ := hlo (f + x) (by omega) (by omega)
    rw [e]
    by_cases hy : y = p
    · rw [hy, hmax]
      exact hr k (by omega)
    · rw [hhi y (by omega)]
      exact h.lo k y (by omega) (by omega) h3
structure Pt (P Q : Int → Int → Prop) (m : List Int) (a b i j : Nat) : Prop where
  ai : a < i
  ij : i ≤ j + 1
  jb : j < b
  le : ∀ k, a < k → k < i → P (m.getD k 0) (m.getD a 0)
  ri : ∀ k, j < k → k < b → Q (m.getD k 0) (m.getD a 0)
theorem Pt.swap {P Q : Int → Int → Prop} {m : List Int} {a b i j : Nat} (h : Pt P Q m a b i (j + 1)) (hij : i < j + 1) (hb : b ≤ m.length) (hp : P (m.getD (j + 1) 0) (m.getD a 0)) (hq : Q (m.getD i 0) (m.getD a 0)) : Pt P Q (swp m i (j + 1)) a b (i + 1) j := by
  have h1 := h.ai
  have h2 := h.jb
  have hs := fun k => swp_at m (i := i) (j := j + 1) (by omega) (by omega) k
  have ha : (swp m i (j + 1)).getD a 0 = m.getD a 0 := by rw [hs, if_neg (by omega), if_neg (by omega)]
  refine ⟨by omega, by omega, by omega, fun k k1 k2 => ?_, fun k k1 k2 => ?_⟩
  · rw [ha, hs, if_neg (by omega)]
    by_cases hk : k = i
    · rw [if_pos hk]; exact hp
    · rw [if_neg hk]; exact h.le k k1 (by omega)
  · rw [ha, hs]
    by_cases hk : k = j + 1
    · rw [if_pos hk]; exact hq
    · rw [if_neg hk, if_neg (by omega)]; exact h.ri k (by omega) k2
theorem Pt.done {m : List Int} {a b i j : Nat} (h : Pt (· < ·) (fun x y => y ≤ x) m a b i j) (hij : j < i) (hb : b ≤ m.length) :
    (∀ k, a ≤ k → k < j → (swp m j a).getD k 0 < (swp m j a).getD j 0) ∧ ∀ k, j < k → k < b → (swp m j a).getD j 0 ≤ (swp m j a).getD k 0 := by
  have h1 := h.ai
  have h2 := h.jb
  have h3 := h.ij
  have hs := fun k => swp_at m (i := j) (j := a) (by omega) (by omega) k
  have hj : (swp m j a).getD j 0 = m.getD a 0 := by
    rw [hs]
    by_cases e : j = a
    · rw [if_pos e, e]
    · rw [if_neg e, if_pos rfl]
  refine ⟨fun k k1 k2 => ?_, fun k k1 k2 => ?_⟩
  · rw [hj, hs]
    by_cases e : k = a
    · rw [if_pos e]
      exact h.le j (by omega) hij
    · rw [if_neg e, if_neg (by omega)]
      exact h.le k (by omega) (by omega)
  · rw [hj, hs, if_neg (by omega), if_neg (by omega)]
    exact h.ri k k1 k2
theorem In.same {l m : List Int} {a i : Nat} (h : In l a i) (hs : ∀ k, k < i → m.getD k 0 = l.getD k 0) : In m a i := fun p q h1 h2 h3 => by
  rw [hs p (by omega), hs q h3]
  exact h p q h1 h2 h3
theorem In.but {l : List Int} {a i : Nat} (h : In l a (i + 1)) (hi : i + 1 < l.length) : InBut (swp l (i + 1) i) a i i := fun p q h1 h2 h3 h4 => by
  rw [swp_at l (by omega) (by omega), swp_at l (by omega) (by omega), if_neg (by omega), if_neg (by omega), if_neg (by omega), if_neg (by omega)]
  exact h p q h1 h2 (by omega)
def Lo (l : List Int) (a b : Nat) : Prop := 0 < a → ∀ k, a ≤ k → k < b → l.getD (a - 1) 0 ≤ l.getD k 0
theorem Lo.keep {l m : List Int} {a b : Nat} (h : Lo l a b) (hp : Pr a b l m) : Lo m a b := fun h0 => by
  rw [hp.out (.inl (by omega))]
  exact hp.all (p := fun z => l.getD (a - 1) 0 ≤ z) (h h0)
theorem In.join {m : List Int} {a q b : Nat} (h1 : In m a q) (h2 : In m (q + 1) b) (hl : ∀ k, a ≤ k → k < q → m.getD k 0 ≤ m.getD q 0) (hr : ∀ k, q < k → k < b → m.getD q 0 ≤ m.getD k 0) : In m a b := by
  intro x y k1 k2 k3
  rcases Nat.lt_trichotomy y q with h | h | h
  · exact h1 x y k1 k2 h
  · subst h; exact hl x k1 k2
  · rcases Nat.lt_trichotomy x q with h' | h' | h'
    · exact Int.le_trans (hl x k1 h') (hr y h k3)
    · subst h'; exact hr y h k3
    · exact h2 x y (by omega) k2 k3
theorem rest_right {m1 m2 : List Int} {a q b : Nat} (haq : a ≤ q) (hl : ∀ k, a ≤ k → k < q → m1.getD k 0 < m1.getD q 0) (hr : ∀ k, q < k → k < b → m1.getD q 0 ≤ m1.getD k 0) (hP : Pr a q m1 m2) (hI : In m2 a q) :
    Lo m2 (q + 1) b ∧ ∀ m3, Pr (q + 1) b m2 m3 → In m3 (q + 1) b → In m3 a b := by
  have e0 : m2.getD q 0 = m1.getD q 0 := hP.out (.inr (Nat.le_refl _))
  have hl2 := hP.all (p := fun z => z < m1.getD q 0) hl
  have hr2 : ∀ k, q < k → k < b → m2.getD q 0 ≤ m2.getD k 0 := fun k k1 k2 => by rw [e0, hP.out (.inr (by omega))]; exact hr k k1 k2
  refine ⟨fun _ k k1 k2 => by rw [Nat.add_sub_cancel]; exact hr2 k (by omega) k2, fun m3 hP3 hI3 => ?_⟩
  have hs : ∀ k, k < q + 1 → m3.getD k 0 = m2.getD k 0 := fun k hk => hP3.out (.inl hk)
  refine In.join (hI.same fun k hk => hs k (by omega)) hI3 (fun k k1 k2 => ?_) (fun k k1 k2 => ?_)
  · rw [hs k (by omega), hs q (by omega), e0]
    exact Int.le_of_lt (hl2 k k1 k2)
  · rw [hs q (by omega)]
    exact hP3.all (p := fun z => m2.getD q 0 ≤ z) (fun k k1 k2 => hr2 k (by omega) k2) k k1 k2
theorem rest_left {m1 m2 : List Int} {a q b : Nat} (haq : a ≤ q) (hl : ∀ k, a ≤ k → k < q → m1.getD k 0 < m1.getD q 0) (hr : ∀ k, q < k → k < b → m1.getD q 0 ≤ m1.getD k 0) (hLo : Lo m1 a b) (hqb : q < b) (hP : Pr (q + 1) b m1 m2) (hI : In m2 (q + 1) b) :
    Lo m2 a q ∧ ∀ m3, Pr a q m2 m3 → In m3 a q → In m3 a b := by
  have hs1 : ∀ k, k < q + 1 → m2.getD k 0 = m1.getD k 0 := fun k hk => hP.out (.inl hk)
  have hr2 := hP.all (p := fun z => m1.getD q 0 ≤ z) (fun k k1 k2 => hr k (by omega) k2)
  refine ⟨fun h0 k k1 k2 => by rw [hs1 _ (by omega), hs1 k (by omega)]; exact hLo h0 k k1 (by omega), fun m3 hP3 hI3 => ?_⟩
  have hs : ∀ k, q ≤ k → m3.getD k 0 = m2.getD k 0 := fun k hk => hP3.out (.inr hk)
  have hI4 : In m3 (q + 1) b := fun x y k1 k2 k3 => by rw [hs x (by omega), hs y (by omega)]; exact hI x y k1 k2 k3
  refine In.join hI3 hI4 (fun k k1 k2 => ?_) (fun k k1 k2 => ?_)
  · rw [hs q (Nat.le_refl _), hs1 q (by omega)]
    exact hP3.all (p := fun z => z ≤ m1.getD q 0) (fun k k1 k2 => by rw [hs1 k (by omega)]; exact Int.le_of_lt (hl k k1 k2)) k k1 k2
  · rw [hs q (Nat.le_refl _), hs k (by omega), hs1 q (by omega)]
    exact hr2 k (by omega) k2
theorem rest_eq {m1 : List Int} {a q b : Nat} {v : Int} (haq : a < q) (hl : ∀ k, a ≤ k → k < q → m1.getD k 0 ≤ v) (hr : ∀ k, q ≤ k → k < b → v < m1.getD k 0) (hv : ∀ k, a ≤ k → k < b → v ≤ m1.getD k 0) (hqb : q ≤ b) :
    Lo m1 q b ∧ ∀ m3, Pr q b m1 m3 → In m3 q b → In m3 a b := by
  refine ⟨fun _ k k1 k2 => ?_, fun m3 hP3 hI3 => ?_⟩
  · have h1 := hl (q - 1) (by omega) (by omega)
    have h2 := hr k k1 k2
    omega
  · have hs : ∀ k, k < q → m3.getD k 0 = m1.getD k 0 := fun k hk => hP3.out (.inl hk)
    have h2 := hP3.all (p := fun z => v < z) hr
    intro x y k1 k2 k3
    rcases Nat.lt_or_ge y q with h | h
    · rw [hs x (by omega), hs y h]
      have e1 := hl x k1 (by omega)
      have e2 := hv y (by omega) (by omega)
      omega
    · rcases Nat.lt_or_ge x q with h' | h'
      · rw [hs x h']
        have e1 := hl x k1 h'
        have e2 := h2 y h k3
        omega
      · exact hI3 x y h' k2 k3
end Srt
end Go.Proofs.Ytlipeplfjkgamaa
namespace Go.Proofs.Ytlipeplfjkgamaa
set_option linter.unusedVariables false
namespace Nrm
def Up (l : List Int) : Prop := l.Pairwise (fun a b => a < b)
theorem up_eq : ∀ {l m : List Int}, Up l → Up m → (∀ x, x ∈ l ↔ x ∈ m) → l = m
  | [], [], _, _, _ => rfl
  | [], b :: t, _, _, h => absurd ((h b).2 (by simp)) (by simp)
  | a :: s, [], _, _, h => absurd ((h a).1 (by simp)) (by simp)
  | a :: s, b :: t, hl, hm, h => by
    have hl' := List.pairwise_cons.1 hl
    have hm' := List.pairwise_cons.1 hm
    have hab : a = b := by
      rcases List.mem_cons.1 ((h a).1 (by simp)) with h1 | h1
      · exact h1
      · rcases List.mem_cons.1 ((h b).2 (by simp)) with h2 | h2
        · exact h2.symm
        · have k1 := hm'.1 a h1
          have k2 := hl'.1 b h2
          omega
    subst hab
    rw [up_eq hl'.2 hm'.2 (fun x => ?_)]
    constructor
    · intro hx
      rcases List.mem_cons.1 ((h x).1 (List.mem_cons_of_mem _ hx)) with k | k
      · subst k; have := hl'.1 x hx; omega
      · exact k
    · intro hx
      rcases List.mem_cons.1 ((h x).2 (List.mem_cons_of_mem _ hx)) with k | k
      · subst k; have := hm'.1 x hx; omega
      · exact k
def sel (n : Nat) (p : Int → Bool) : List Int := ((List.range n).map Int.ofNat).filter p
theorem up_sel (n : Nat) (p : Int → Bool) : Up (sel n p) := by
  unfold sel Up
  refine List.Pairwise.filter _ ?_
  rw [List.pairwise_map]
  refine List.Pairwise.imp ?_ List.pairwise_lt_range
  intro a b h
  exact Int.ofNat_lt.2 h
theorem mem_sel {n : Nat} {p : Int → Bool} {x : Int} : x ∈ sel n p ↔ (0 ≤ x ∧ x < (n : Int)) ∧ p x = true := by
  unfold sel
  rw [List.mem_filter, List.mem_map]
  constructor
  · rintro ⟨⟨k, hk, rfl⟩, h⟩
    have hk := List.mem_range.1 hk
    exact ⟨⟨Int.natCast_nonneg k, Int.ofNat_lt.2 hk⟩, h⟩
  · rintro ⟨⟨h0, h1⟩, h⟩
    exact ⟨⟨x.toNat, List.mem_range.2 (by omega), by show ((x.toNat : Nat) : Int) = x; omega⟩, h⟩
theorem eq_sel {l : List Int} {n : Nat} {p : Int → Bool} (h : Up l) (hm : ∀ x, x ∈ l ↔ (0 ≤ x ∧ x < (n : Int)) ∧ p x = true) : l = sel n p :=
  up_eq h (up_sel n p) fun x => (hm x).trans mem_sel.symm
theorem sel_congr {n : Nat} {p q : Int → Bool} (h : ∀ x, 0 ≤ x → x < (n : Int) → p x = q x) : sel n p = sel n q :=
  eq_sel (up_sel n p) fun x => by
    rw [mem_sel]
    constructor
    · rintro ⟨k, hp⟩; exact ⟨k, by rw [← h x k.1 k.2]; exact hp⟩
    · rintro ⟨k, hp⟩; exact ⟨k, by rw [h x k.1 k.2]; exact hp⟩
theorem sel_all (n : Nat) {p : Int → Bool} (h : ∀ x, 0 ≤ x → x < (n : Int) → p x = true) : (sel n p).length = n := by
  unfold sel
  rw [List.filter_eq_self.2]
  · simp
  · intro x hx
    obtain ⟨k, hk, rfl⟩ := List.mem_map.1 hx
    have hk := List.mem_range.1 hk
    exact h _ (Int.natCast_nonneg k) (Int.ofNat_lt.2 hk)
theorem sel_le (n : Nat) (p : Int → Bool) : (sel n p).length ≤ n := by
  unfold sel
  have := List.length_filter_le p ((List.range n).map Int.ofNat)
  simpa using this
theorem take_next {α : Type} (l : List α) (d : α) {p : Nat} (hp : p < l.length) : l.take (p + 1) = l.take p ++ [l.getD p d] := by
  rw [List.take_succ_eq_append_getElem hp, List.getD, List.getElem?_eq_getElem hp]
  rfl
structure Dd (l : List Int) (p : Nat) (y : List Int) : Prop where
  up : Up y
  mem : ∀ x, x ∈ y ↔ x ∈ l.take p
  top : ∀ x, x ∈ y → x ≤ l.getD (p - 1) 0
variable {l m y : List Int} {n p : Nat}
theorem Dd.one (h : 1 ≤ l.length) : Dd l 1 (l.take 1) := by
  have e : l.take 1 = [l.getD 0 0] := by rw [show (1 : Nat) = 0 + 1 from rfl, take_next l 0 (by omega)]; rfl
  refine ⟨by rw [e]; simp [Up], fun x => Iff.rfl, fun x hx => ?_⟩
  rw [e] at hx
  have : x = l.getD 0 0 := by simpa using hx
  rw [this]
  exact Int.le_refl _
theorem Dd.same (h : Dd l p y) (h1 : 1 ≤ p) (hp : p < l.length) (e : l.getD p 0 = l.getD (p - 1) 0) : Dd l (p + 1) y := by
  refine ⟨h.up, fun x => ?_, fun x hx => by rw [Nat.add_sub_cancel, e]; exact h.top x hx⟩
  rw [take_next l 0 hp, List.mem_append, ← h.mem x]
  constructor
  · exact .inl
  · rintro (k | k)
    · exact k
    · have k : x = l.getD p 0 := by simpa using k
      rw [h.mem, k, e]
      have hlt : p - 1 < (l.take p).length := by rw [List.length_take]; omega
      have : (l.take p)[p - 1]'hlt = l.getD (p - 1) 0 := by
        rw [List.getElem_take, List.getD, List.getElem?_eq_getElem (by omega)]; rfl
      rw [← this]
      exact List.getElem_mem _
theorem Dd.new (h : Dd l p y) (hp : p < l.length) (e : l.getD (p - 1) 0 < l.getD p 0) : Dd l (p + 1) (y ++ [l.getD p 0]) := by
  refine ⟨?_, fun x => ?_, fun x hx => ?_⟩
  · unfold Up
    rw [List.pairwise_append]
    refine ⟨h.up, by simp, fun a ha b hb => ?_⟩
    have hb : b = l.getD p 0 := by simpa using hb
    have := h.top a ha
    omega
  · rw [take_next l 0 hp, List.mem_append, List.mem_append, h.mem x]
  · rw [Nat.add_sub_cancel]
    rcases List.mem_append.1 hx with k | k
    · have := h.top x k; omega
    · have k : x = l.getD p 0 := by simpa using k
      omega
theorem Dd.mems (h : Dd l p y) (hp : l.length ≤ p) (x : Int) : x ∈ y ↔ x ∈ l := by rw [h.mem x, List.take_of_length_le hp]
structure Cmn (la lb a b out : List Int) : Prop where
  uo : Up out
  ua : Up a
  ub : Up b
  oa : ∀ x, x ∈ out → ∀ z, z ∈ a → x < z
  ob : ∀ x, x ∈ out → ∀ z, z ∈ b → x < z
  m : ∀ x, (x ∈ out ∨ x ∈ a ∧ x ∈ b) ↔ (x ∈ la ∧ x ∈ lb)
variable {la lb a b out : List Int} {u v : Int}
theorem Cmn.start (ha : Up la) (hb : Up lb) : Cmn la lb la lb [] := ⟨by simp [Up], ha, hb, by simp, by simp, by simp⟩
theorem Cmn.left (h : Cmn la lb (u :: a) (v :: b) out) (hlt : u < v) : Cmn la lb a (v :: b) out := by
  refine ⟨h.uo, (List.pairwise_cons.1 h.ua).2, h.ub, fun x hx z hz => h.oa x hx z (List.mem_cons_of_mem _ hz), h.ob, fun x => ?_⟩
  rw [← h.m x]
  constructor
  · rintro (k | ⟨k1, k2⟩)
    · exact .inl k
    · exact .inr ⟨List.mem_cons_of_mem _ k1, k2⟩
  · rintro (k | ⟨k1, k2⟩)
    · exact .inl k
    · rcases List.mem_cons.1 k1 with k1 | k1
      · subst k1
        rcases List.mem_cons.1 k2 with k2 | k2
        · omega
        · have := (List.pairwise_cons.1 h.ub).1 x k2; omega
      · exact .inr ⟨k1, k2⟩
theorem Cmn.turn (h : Cmn la lb a b out) : Cmn lb la b a out := by
  refine ⟨h.uo, h.ub, h.ua, h.ob, h.oa, fun x => ?_⟩
  rw [And.comm (a := x ∈ b), And.comm (a := x ∈ lb)]
  exact h.m x
theorem Cmn.right (h : Cmn la lb (u :: a) (v :: b) out) (hlt : v < u) : Cmn la lb (u :: a) b out := (Cmn.left h.turn hlt).turn
theorem Cmn.both (h : Cmn la lb (u :: a) (u :: b) out) : Cmn la lb a b (out ++ [u]) := by
  have pa := List.pairwise_cons.1 h.ua
  have pb := List.pairwise_cons.1 h.ub
  refine ⟨?_, pa.2, pb.2, ?_, ?_, fun x => ?_⟩
  · unfold Up
    rw [List.pairwise_append]
    refine ⟨h.uo, by simp, fun x hx z hz => ?_⟩
    have hz : z = u := by simpa using hz
    subst hz
    exact h.oa x hx z (by simp)
  · intro x hx z hz
    rcases List.mem_append.1 hx with k | k
    · exact h.oa x k z (List.mem_cons_of_mem _ hz)
    · have k : x = u := by simpa using k
      subst k; exact pa.1 z hz
  · intro x hx z hz
    rcases List.mem_append.1 hx with k | k
    · exact h.ob x k z (List.mem_cons_of_mem _ hz)
    · have k : x = u := by simpa using k
      subst k; exact pb.1 z hz
  · rw [← h.m x, List.mem_append]
    constructor
    · rintro ((k | k) | ⟨k1, k2⟩)
      · exact .inl k
      · have k : x = u := by simpa using k
        subst k; exact .inr ⟨by simp, by simp⟩
      · exact .inr ⟨List.mem_cons_of_mem _ k1, List.mem_cons_of_mem _ k2⟩
    · rintro (k | ⟨k1, k2⟩)
      · exact .inl (.inl k)
      · rcases List.mem_cons.1 k1 with k1 | k1
        · subst k1; exact .inl (.inr (by simp))
        · rcases List.mem_cons.1 k2 with k2 | k2
          · subst k2; exact .inl (.inr (by simp))
          · exact .inr ⟨k1, k2⟩
theorem Cmn.stop (h : Cmn la lb a b out) (hz : a = [] ∨ b = []) (x : Int) : x ∈ out ↔ (x ∈ la ∧ x ∈ lb) := by
  rw [← h.m x]
  constructor
  · exact .inl
  · rintro (k | ⟨k1, k2⟩)
    · exact k
    · rcases hz with rfl | rfl
      · exact absurd k1 (by simp)
      · exact absurd k2 (by simp)
abbrev Ks : Type := List (Int × List Int)
def kp (l : Ks) (d c : Int) : Bool := l.all fun f => !decide (f.1 = d) || f.2.contains c
theorem kp_iff {l : Ks} {d c : Int} : kp l d c = true ↔ ∀ f, f ∈ l → f.1 = d → c ∈ f.2 := by
  unfold kp
  rw [List.all_eq_true]
  constructor
  · intro h f hf e
    have := h f hf
    simpa [e] using this
  · intro h f hf
    by_cases e : f.1 = d
    · simp [e, h f hf e]
    · simp [e]
theorem kp_next (l : Ks) (f : Int × List Int) (d c : Int) : kp (l ++ [f]) d c = (kp l d c && (!decide (f.1 = d) || f.2.contains c)) := by
  unfold kp
  simp
def sm (l : Ks) (d : Int) : Bool := l.any fun f => decide (f.1 = d)
theorem sm_next (l : Ks) (f : Int × List Int) (d : Int) : sm (l ++ [f]) d = (sm l d || decide (f.1 = d)) := by
  unfold sm
  simp
theorem kp_none {l : Ks} {d : Int} (h : sm l d = false) (c : Int) : kp l d c = true := by
  rw [kp_iff]
  intro f hf e
  unfold sm at h
  rw [List.any_eq_false] at h
  exact absurd (h f hf) (by simp [e])
def nf (l : Ks) (d : Nat) (n : Nat) : Ks := if (sel n (kp l d)).length < n then [((d : Int), sel n (kp l d))] else []
def nrm (l : Ks) : Nat → List Nat → Ks
  | _, [] => []
  | d, n :: t => nf l d n ++ nrm l (d + 1) t
theorem nrm_snoc (l : Ks) : ∀ (ns : List Nat) (d n : Nat), nrm l d (ns ++ [n]) = nrm l d ns ++ nf l (d + ns.length) n
  | [], d, n => by simp [nrm]
  | k :: t, d, n => by
    show nf l d k ++ nrm l (d + 1) (t ++ [n]) = nf l d k ++ nrm l (d + 1) t ++ nf l (d + (t.length + 1)) n
    rw [nrm_snoc l t (d + 1) n, List.append_assoc, show d + 1 + t.length = d + (t.length + 1) by omega]
theorem nf_none {l : Ks} {d : Nat} (h : sm l d = false) (n : Nat) : nf l d n = [] := by
  unfold nf
  rw [if_neg]
  rw [sel_all n (fun x _ _ => kp_none h x)]
  omega
theorem nf_len (l : Ks) (d n : Nat) : (nf l d n).length ≤ 1 := by
  unfold nf
  split
  · exact Nat.le_refl _
  · exact Nat.zero_le _
theorem nrm_len (l : Ks) : ∀ (ns : List Nat) (d : Nat), (nrm l d ns).length ≤ ns.length
  | [], _ => Nat.le_refl _
  | n :: t, d => by
    show (nf l d n ++ nrm l (d + 1) t).length ≤ t.length + 1
    rw [List.length_append]
    have := nf_len l d n
    have := nrm_len l t (d + 1)
    omega
end Nrm
end Go.Proofs.Ytlipeplfjkgamaa
namespace Go.Proofs.Ytlipeplfjkgamaa
set_option maxRecDepth 100000
open Go.RowKit H
open Srt
set_option linter.unusedVariables false
theorem X.index1eI {P : Program} {w : World} {f : Fr} {x y : Operand} {d : Option Tmp} {t ty e : TypeId} {pos : String} {aft : Array Edge} {g : Option (Nat × Bool)} {A : Option Addr} {q c j : Nat} {k : IntKind} {m : Int} (hx : ev f x = .slice A q c) (hy : ev f y = .int k m) (hm : m = (j : Int)) (ht : P.underlying t = some (.slice e)) (hs : Siz P e 1) (hA : A ≠ none) (hj : j < q) : (execOp (ev f) ⟨d, .indexAddr t x y, ty, pos, aft, g⟩).run P w = .ok (.value (pA A j)) w :=
  X.index1n hx (by rw [hy, hm]) ht hs hA hj
theorem isnanI (x : Int) (w : World) : Calls Try.prog 306 #[.int .i64 x] w fun e w' => e = .returned (.bool false) ∧ w = w' := by
  refine enter Try.func306 rfl (by kernel_rfl) ?_
  refine J.seq ?_
  refine J.region ?_
  refine L.va rfl (X.assign (by conv => lhs; whnf)) ?_
  refine L.nil ?_
  refine J.seq ?_
  refine J.region ?_
  refine L.va rfl (X.move (by conv => lhs; whnf)) ?_
  refine L.va rfl (X.move (by conv => lhs; whnf)) ?_
  refine L.va rfl (X.neq rfl rfl) ?_
  refine L.va rfl (X.assign (by conv => lhs; whnf)) ?_
  refine L.nil ?_
  refine J.ret ?_
  refine fin1 ?_
  exact ⟨(show Ending.returned (.bool (!decide (x = x))) = _ from by simp), rfl⟩
theorem clessI (x y : Int) (w : World) : Calls Try.prog 293 #[.int .i64 x, .int .i64 y] w fun e w' => e = .returned (.bool (decide (x < y))) ∧ w = w' := by
  refine enter Try.func293 rfl (by kernel_rfl) ?_
  refine J.seq ?_
  refine J.region ?_
  refine L.va rfl (X.assign (by conv => lhs; whnf)) ?_
  refine L.nil ?_
  refine J.seq ?_
  refine J.region ?_
  refine L.va rfl (X.move (by conv => lhs; whnf)) ?_
  refine L.call rfl en_306 rfl (isnanI x w) ?_
  rintro e _ ⟨rfl, rfl⟩
  refine ⟨_, rfl, ?_⟩
  refine L.va rfl (X.move (by conv => lhs; whnf)) ?_
  refine L.caseBF (k := 7) rfl (by rfl) ?_
  refine L.no rfl ?_
  refine L.no rfl ?_
  refine L.no rfl ?_
  refine L.va rfl (X.pickF rfl (by conv => lhs; whnf)) ?_
  refine L.va rfl (X.move (by conv => lhs; whnf)) ?_
  refine L.va rfl (X.move (by conv => lhs; whnf)) ?_
  refine L.va rfl (X.move (by conv => lhs; whnf)) ?_
  refine L.va rfl (X.lss rfl rfl) ?_
  refine L.va rfl (X.pickF rfl (by conv => lhs; whnf)) ?_
  refine L.va rfl (X.assign (by conv => lhs; whnf)) ?_
  refine L.nil ?_
  refine J.ret ?_
  refine fin1 ?_
  exact ⟨rfl, rfl⟩
structure SwI (w w' : World) (A : Option Addr) (n c N a b : Nat) (l l' : List Int) : Prop where
  o : w'.ownsRow N 3 1 (.slice A n c) n (nums .i64 l')
  g : w.grownBy w' (Value.ownBlock (.slice A n c))
  p : Pr a b l l'
theorem isortI (A : Option Addr) (n c N a b : Nat) (l : List Int) (w : World) (ho : w.ownsRow N 3 1 (.slice A n c) n (nums .i64 l)) (hab : a ≤ b) (hb : b ≤ n) (hn : n ≤ 1000000) :
    Calls Try.prog 287 #[.slice A n c, .int .i64 (a : Int), .int .i64 (b : Int)] w fun e w' => e = .returned (.tuple #[]) ∧ ∃ l', SwI w w' A n c N a b l l' ∧ In l' a b := by
  have hl : l.length = n := by have := ho.1; simpa [nums] using this
  refine enter Try.func287 rfl (by kernel_rfl) ?_
  refine J.seq ?_
  refine J.region ?_
  refine L.va rfl (X.move (by conv => lhs; whnf)) ?_
  refine L.va rfl (X.add rfl rfl (by omega)) ?_
  refine L.va rfl (X.assign (by conv => lhs; whnf)) ?_
  refine L.nil ?_
  refine J.block ?_
  refine J.loop (X := Nat × List Int) [6, 7, 10, 11, 12, 13, 14, 15, 16, 17, 18, 19, 20, 21, 22, 23, 24, 25, 26, 27, 28, 29, 30, 31, 32, 33, 34, 35, 36, 37, 38, 39, 40, 41, 42, 43, 44, 45, 46, 47, 48] (fun (i, m) => [(6, .int .i64 (i : Int))]) (fun (i, m) w' => a + 1 ≤ i ∧ (i ≤ b ∨ i = a + 1) ∧ SwI w w' A n c N a b l m ∧ In m a i) (fun (i, _) => n + 1 - i) ((a + 1, l)) (At1 (by first | rfl | exact at_int rfl (by omega) | exact at_slice rfl (by omega) | exact at_int rfl (by simp))) ?_ ?_
  · exact ⟨Nat.le_refl _, .inr rfl, ⟨ho, grown_ext (Ext.refl _), .refl _⟩, In.tiny (Nat.le_refl _)⟩
  · rintro ⟨i, m⟩ g w2 ⟨h1, h2, M, hI⟩
    have hml : m.length = n := by rw [M.p.len, hl]
    refine J.seq ?_
    refine J.seq ?_
    refine J.region ?_
    refine L.va rfl (X.move (by conv => lhs; whnf)) ?_
    refine L.va rfl (X.move (by conv => lhs; whnf)) ?_
    refine L.va rfl (X.lss rfl rfl) ?_
    refine L.nil ?_
    refine J.dec rfl (fun hlt => ?_) (fun hlt => ?_)
    · refine J.skip ?_
      refine J.seq ?_
      refine J.block ?_
      refine J.seq ?_
      refine J.region ?_
      refine L.va rfl (X.move (by conv => lhs; whnf)) ?_
      refine L.va rfl (X.assign (by conv => lhs; whnf)) ?_
      refine L.nil ?_
      refine J.block ?_
      refine J.loop (X := Nat × List Int) [7, 16, 17, 18, 19, 20, 21, 22, 23, 24, 25, 26, 27, 28, 29, 30, 31, 32, 33, 34, 35, 36, 37, 38, 39, 40, 41, 42, 43, 44, 45, 46, 47, 48] (fun (j, m) => [(7, .int .i64 (j : Int))]) (fun (j, m) w' => a ≤ j ∧ j ≤ i ∧ SwI w w' A n c N a b l m ∧ InBut m a i j) (fun (j, _) => j) ((i, m)) (At1 (by first | rfl | exact at_int rfl (by omega) | exact at_slice rfl (by omega) | exact at_int rfl (by simp))) ?_ ?_
      · exact ⟨by omega, Nat.le_refl _, M, InBut.start hI⟩
      · rintro ⟨j, m⟩ g w3 ⟨h3, h4, M, hJ⟩
        have hml : m.length = n := by rw [M.p.len, hl]
        have hr := Reads.of_own M.o
        have hA := hr.some_ (by omega)
        refine J.seq ?_
        refine J.seq ?_
        refine J.quiet mixed (by kernel_rfl) ?_
        refine Qt.va rfl (fun w' hw => X.move (by conv => lhs; whnf)) ?_
        refine Qt.va rfl (fun w' hw => X.move (by conv => lhs; whnf)) ?_
        refine Qt.va rfl (fun w' hw => X.gtr rfl rfl) ?_
        refine Qt.va rfl (fun w' hw => X.move (by conv => lhs; whnf)) ?_
        refine Qt.caseDec (k := 19) rfl (fun hja => ?_) (fun hja => ?_)
        · refine Qt.va rfl (fun w' hw => X.move (by conv => lhs; whnf)) ?_
          refine Qt.va rfl (fun w' hw => X.move (by conv => lhs; whnf)) ?_
          refine Qt.va rfl (fun w' hw => (by first | exact X.index1n rfl rfl Try.underlying23 sz_3 (by first | exact Option.some_ne_none _ | exact hr.some_ (by omega) | exact hA) (by omega) | exact X.index1 rfl rfl Try.underlying23 sz_3 (by first | exact Option.some_ne_none _ | exact hr.some_ (by omega) | exact hA) (by omega))) ?_
          refine Qt.va rfl (fun w' hw => X.load rfl sc_3 (by first | exact Ld.num (hr.ext hw) (by omega) | exact hA)) ?_
          refine Qt.va rfl (fun w' hw => X.move (by conv => lhs; whnf)) ?_
          refine Qt.va rfl (fun w' hw => X.move (by conv => lhs; whnf)) ?_
          refine Qt.va rfl (fun w' hw => X.sub rfl rfl (by omega)) ?_
          refine Qt.va rfl (fun w' hw => X.index1eI (j := j - 1) rfl rfl (by omega) Try.underlying23 sz_3 hA (by omega)) ?_
          refine Qt.va rfl (fun w' hw => X.load rfl sc_3 (by first | exact Ld.num (hr.ext hw) (by omega) | exact hA)) ?_
          refine Qt.call rfl en_293 rfl (fun w' hw => calls_same hw (clessI (m.getD j 0) (m.getD (j - 1) 0) w')) ?_
          refine Qt.va rfl (fun w' hw => X.pickT rfl (by conv => lhs; whnf)) ?_
          refine Qt.nil (fun w4 hq => ?_)
          replace hr := hr.ext hq
          by_cases hd : m.getD j 0 < m.getD (j - 1) 0
          · obtain ⟨j', rfl⟩ : ∃ j', j = j' + 1 := ⟨j - 1, by omega⟩
            rw [Nat.add_sub_cancel] at hd
            rw [Nat.add_sub_cancel]
            have ho4 := M.o.ext hq
            rw [decide_eq_true hd]
            refine J.iteT rfl ?_
            refine J.skip ?_
            refine J.seq ?_
            refine J.block ?_
            refine J.draw (ℓ := 1000000) (S := (fun _ => True)) mixed (fun w5d hSE hS_h => ?_)
            have hS : ((fun _ => True)) w5d := trivial
            have hrw5 := (Reads.of_own ho4).ext hSE
            have hoX := ho4.ext hSE
            have hG : w4.grownBy w5d (Value.ownBlock (.slice A n c)) := grown_ext hSE
            refine D.va 0 rfl (by kernel_rfl) (fun _ _ _ h => h) rfl (fun w' hw => X.move (by conv => lhs; whnf)) hS ?_
            refine D.va 1 rfl (by kernel_rfl) (fun _ _ _ h => h) rfl (fun w' hw => X.move (by conv => lhs; whnf)) hS ?_
            refine D.va 2 rfl (by kernel_rfl) (fun _ _ _ h => h) rfl (fun w' hw => X.move (by conv => lhs; whnf)) hS ?_
            refine D.va 3 rfl (by kernel_rfl) (fun _ _ _ h => h) rfl (fun w' hw => X.move (by conv => lhs; whnf)) hS ?_
            refine D.va 4 rfl (by kernel_rfl) (fun _ _ _ h => h) rfl (fun w' hw => X.sub rfl rfl (by omega)) hS ?_
            refine D.va 5 rfl (by kernel_rfl) (fun _ _ _ h => h) rfl (fun w' hw => X.move (by conv => lhs; whnf)) hS ?_
            refine D.va 6 rfl (by kernel_rfl) (fun _ _ _ h => h) rfl (fun w' hw => X.move (by conv => lhs; whnf)) hS ?_
            refine D.va 7 rfl (by kernel_rfl) (fun _ _ _ h => h) rfl (fun w' hw => X.sub rfl rfl (by omega)) hS ?_
            refine D.va 8 rfl (by kernel_rfl) (fun _ _ _ h => h) rfl (fun w' hw => X.index1eI (j := j') rfl rfl (by omega) Try.underlying23 sz_3 hA (by omega)) hS ?_
            refine D.va 10 rfl (by kernel_rfl) (fun _ _ _ h => h) rfl (fun w' hw => X.move (by conv => lhs; whnf)) hS ?_
            refine D.va 11 rfl (by kernel_rfl) (fun _ _ _ h => h) rfl (fun w' hw => X.move (by conv => lhs; whnf)) hS ?_
            refine D.va 12 rfl (by kernel_rfl) (fun _ _ _ h => h) rfl (fun w' hw => (by first | exact X.index1n rfl rfl Try.underlying23 sz_3 (by first | exact Option.some_ne_none _ | exact hA) (by omega) | exact X.index1 rfl rfl Try.underlying23 sz_3 (by first | exact Option.some_ne_none _ | exact hA) (by omega))) hS ?_
            refine D.two 9 13 (by kernel_rfl) rfl rfl ?_ ?_
            · refine L.va rfl (X.load rfl sc_3 (Ld.num hrw5 (j := j') (by omega))) ?_
              refine L.nil ?_
              refine ⟨fun _ => hS, ?_⟩
              refine D.one 13 (by kernel_rfl) rfl ?_
              refine L.va rfl (X.load rfl sc_3 (Ld.num hrw5 (j := j' + 1) (by omega))) ?_
              refine L.nil ?_
              refine ⟨fun _ => hS, ?_⟩
              refine D.va 14 rfl (by kernel_rfl) (fun _ _ _ h => h) rfl (fun w' hw => (by first | exact X.index1n rfl rfl Try.underlying23 sz_3 (by first | exact Option.some_ne_none _ | exact hA) (by omega) | exact X.index1 rfl rfl Try.underlying23 sz_3 (by first | exact Option.some_ne_none _ | exact hA) (by omega))) hS ?_
              refine D.one 15 (by kernel_rfl) rfl ?_
              refine L.storeON rfl rfl (by conv => lhs; whnf) sz_3 (hoX) (by omega) ?_
              intro w5 hoX hg2 hb2 hs2
              have hS1 := trivial
              refine L.nil ?_
              refine ⟨fun _ => hS1, ?_⟩
              replace hG := grb_trans hG hg2
              refine D.va 16 rfl (by kernel_rfl) (fun _ _ _ h => h) rfl (fun w' hw => X.index1eI (j := j') rfl rfl (by omega) Try.underlying23 sz_3 hA (by omega)) hS1 ?_
              refine D.one 17 (by kernel_rfl) rfl ?_
              refine L.storeON rfl rfl (by conv => lhs; whnf) sz_3 (hoX) (by omega) ?_
              intro w5 hoX hg2 hb2 hs2
              have hS2 := trivial
              refine L.nil ?_
              refine ⟨fun _ => hS2, ?_⟩
              replace hG := grb_trans hG hg2
              refine D.done (by kernel_rfl) ?_
              refine J.region ?_
              refine L.va rfl (X.move (by conv => lhs; whnf)) ?_
              refine L.va rfl (X.sub rfl rfl (by omega)) ?_
              refine L.va rfl (X.assign (by conv => lhs; whnf)) ?_
              refine L.nil ?_
              refine ⟨(j', swp m (j' + 1) j'), At1 (by first | rfl | exact at_int rfl (by omega) | exact at_slice rfl (by omega) | exact at_int rfl (by simp)), (by (iterate 35 refine Agr.lk rfl ?_); exact Agr.lk rfl (Agr.hav rfl Agr.rfl')), ?_⟩
              exact ⟨⟨by omega, by omega, ⟨hoX, grb_trans M.g (grb_trans (grown_ext hq) hG), .step M.p ⟨by omega, by omega⟩ ⟨by omega, by omega⟩ (by omega)⟩, hJ.step (by omega) h4 (by omega) hd⟩, by show j' < j' + 1; omega⟩
            · refine L.va rfl (X.load rfl sc_3 (Ld.num hrw5 (j := j' + 1) (by omega))) ?_
              refine L.nil ?_
              refine ⟨fun _ => hS, ?_⟩
              refine D.one 9 (by kernel_rfl) rfl ?_
              refine L.va rfl (X.load rfl sc_3 (Ld.num hrw5 (j := j') (by omega))) ?_
              refine L.nil ?_
              refine ⟨fun _ => hS, ?_⟩
              refine D.va 14 rfl (by kernel_rfl) (fun _ _ _ h => h) rfl (fun w' hw => (by first | exact X.index1n rfl rfl Try.underlying23 sz_3 (by first | exact Option.some_ne_none _ | exact hA) (by omega) | exact X.index1 rfl rfl Try.underlying23 sz_3 (by first | exact Option.some_ne_none _ | exact hA) (by omega))) hS ?_
              refine D.one 15 (by kernel_rfl) rfl ?_
              refine L.storeON rfl rfl (by conv => lhs; whnf) sz_3 (hoX) (by omega) ?_
              intro w5 hoX hg2 hb2 hs2
              have hS1 := trivial
              refine L.nil ?_
              refine ⟨fun _ => hS1, ?_⟩
              replace hG := grb_trans hG hg2
              refine D.va 16 rfl (by kernel_rfl) (fun _ _ _ h => h) rfl (fun w' hw => X.index1eI (j := j') rfl rfl (by omega) Try.underlying23 sz_3 hA (by omega)) hS1 ?_
              refine D.one 17 (by kernel_rfl) rfl ?_
              refine L.storeON rfl rfl (by conv => lhs; whnf) sz_3 (hoX) (by omega) ?_
              intro w5 hoX hg2 hb2 hs2
              have hS2 := trivial
              refine L.nil ?_
              refine ⟨fun _ => hS2, ?_⟩
              replace hG := grb_trans hG hg2
              refine D.done (by kernel_rfl) ?_
              refine J.region ?_
              refine L.va rfl (X.move (by conv => lhs; whnf)) ?_
              refine L.va rfl (X.sub rfl rfl (by omega)) ?_
              refine L.va rfl (X.assign (by conv => lhs; whnf)) ?_
              refine L.nil ?_
              refine ⟨(j', swp m (j' + 1) j'), At1 (by first | rfl | exact at_int rfl (by omega) | exact at_slice rfl (by omega) | exact at_int rfl (by simp)), (by (iterate 35 refine Agr.lk rfl ?_); exact Agr.lk rfl (Agr.hav rfl Agr.rfl')), ?_⟩
              exact ⟨⟨by omega, by omega, ⟨hoX, grb_trans M.g (grb_trans (grown_ext hq) hG), .step M.p ⟨by omega, by omega⟩ ⟨by omega, by omega⟩ (by omega)⟩, hJ.step (by omega) h4 (by omega) hd⟩, by show j' < j' + 1; omega⟩
          · rw [decide_eq_false hd]
            refine J.iteF rfl ?_
            refine J.exit ?_
            refine J.region ?_
            refine L.va rfl (X.move (by conv => lhs; whnf)) ?_
            refine L.va rfl (X.add rfl rfl (by omega)) ?_
            refine L.va rfl (X.assign (by conv => lhs; whnf)) ?_
            refine L.nil ?_
            refine ⟨(i + 1, m), At1 (by first | rfl | exact at_int rfl (by omega) | exact at_slice rfl (by omega) | exact at_int rfl (by simp)), (by (iterate 19 refine Agr.lk rfl ?_); refine Agr.lk rfl ?_; refine Agr.hav rfl ?_; (iterate 5 refine Agr.lk rfl ?_); exact Agr.lk rfl (Agr.hav rfl Agr.rfl')), ?_⟩
            exact ⟨⟨by omega, by omega, ⟨M.o.ext hq, grb_trans M.g (grown_ext hq), M.p⟩, hJ.stop h4 (.inr (by omega))⟩, by show n + 1 - (i + 1) < n + 1 - i; omega⟩
        · refine Qt.no rfl ?_
          refine Qt.no rfl ?_
          refine Qt.no rfl ?_
          refine Qt.no rfl ?_
          refine Qt.no rfl ?_
          refine Qt.no rfl ?_
          refine Qt.no rfl ?_
          refine Qt.no rfl ?_
          refine Qt.no rfl ?_
          refine Qt.no rfl ?_
          refine Qt.va rfl (fun w' hw => X.pickF rfl (by conv => lhs; whnf)) ?_
          refine Qt.nil (fun w4 hq => ?_)
          replace hr := hr.ext hq
          refine J.iteF rfl ?_
          refine J.exit ?_
          refine J.region ?_
          refine L.va rfl (X.move (by conv => lhs; whnf)) ?_
          refine L.va rfl (X.add rfl rfl (by omega)) ?_
          refine L.va rfl (X.assign (by conv => lhs; whnf)) ?_
          refine L.nil ?_
          refine ⟨(i + 1, m), At1 (by first | rfl | exact at_int rfl (by omega) | exact at_slice rfl (by omega) | exact at_int rfl (by simp)), (by (iterate 19 refine Agr.lk rfl ?_); refine Agr.lk rfl ?_; refine Agr.hav rfl ?_; (iterate 5 refine Agr.lk rfl ?_); exact Agr.lk rfl (Agr.hav rfl Agr.rfl')), ?_⟩
          exact ⟨⟨by omega, by omega, ⟨M.o.ext hq, grb_trans M.g (grown_ext hq), M.p⟩, hJ.stop h4 (.inl (by omega))⟩, by show n + 1 - (i + 1) < n + 1 - i; omega⟩
    · refine J.exit ?_
      refine thn_exit <| thn_exit <| inB_eq ?_
      refine fin0 (.inr rfl) ?_
      refine ⟨rfl, m, M, ?_⟩
      intro p q k1 k2 k3
      exact hI p q k1 k2 (by omega)
end Go.Proofs.Ytlipeplfjkgamaa
namespace Go.Proofs.Ytlipeplfjkgamaa
set_option maxRecDepth 100000
open Go.RowKit H
open Srt
set_option linter.unusedVariables false
theorem sdownI (A : Option Addr) (n c N lo hi f : Nat) (l : List Int) (w : World) (ho : w.ownsRow N 3 1 (.slice A n c) n (nums .i64 l)) (hf : f + hi ≤ n) (hn : n ≤ 1000000) (hlo : lo ≤ hi) (hS : Sd l f lo hi lo) :
    Calls Try.prog 303 #[.slice A n c, .int .i64 (lo : Int), .int .i64 (hi : Int), .int .i64 (f : Int)] w fun e w' => e = .returned (.tuple #[]) ∧ ∃ l', SwI w w' A n c N f (f + hi) l l' ∧ Hpr l' f lo hi := by
  have hl : l.length = n := by have := ho.1; simpa [nums] using this
  refine enter Try.func303 rfl (by kernel_rfl) ?_
  refine J.seq ?_
  refine J.region ?_
  refine L.va rfl (X.move (by conv => lhs; whnf)) ?_
  refine L.va rfl (X.assign (by conv => lhs; whnf)) ?_
  refine L.nil ?_
  refine J.block ?_
  refine J.loop (X := Nat × List Int) [8, 9, 11, 12, 13, 14, 15, 16, 17, 18, 19, 20, 21, 22, 23, 24, 25, 26, 27, 28, 29, 30, 31, 32, 33, 34, 35, 36, 37, 38, 39, 40, 41, 42, 43, 44, 45, 46, 47, 48, 49, 50, 51, 52, 53, 54, 55, 56, 57, 58, 59, 60, 61, 62, 63, 64, 65, 66, 67, 68, 69, 70, 71, 72, 73, 74, 75] (fun (r, m) => [(8, .int .i64 (r : Int))]) (fun (r, m) w' => r ≤ hi ∧ SwI w w' A n c N f (f + hi) l m ∧ Sd m f lo hi r) (fun (r, _) => hi - r) ((lo, l)) (At1 (by first | rfl | exact at_int rfl (by omega) | exact at_slice rfl (by omega) | exact at_int rfl (by simp))) ?_ ?_
  · exact ⟨hlo, ⟨ho, grown_ext (Ext.refl _), .refl _⟩, hS⟩
  · rintro ⟨r, m⟩ g w2 ⟨h1, M, hSd⟩
    have hml : m.length = n := by rw [M.p.len, hl]
    refine J.block ?_
    refine J.seq ?_
    refine J.region ?_
    refine L.va rfl (X.move (by conv => lhs; whnf)) ?_
    refine L.va rfl (X.mul rfl rfl (by omega)) ?_
    refine L.va rfl (X.add rfl rfl (by omega)) ?_
    refine L.va rfl (X.assign (by conv => lhs; whnf)) ?_
    refine L.nil ?_
    refine J.seq ?_
    refine J.seq ?_
    refine J.region ?_
    refine L.va rfl (X.move (by conv => lhs; whnf)) ?_
    refine L.va rfl (X.move (by conv => lhs; whnf)) ?_
    refine L.va rfl (X.geq rfl rfl) ?_
    refine L.nil ?_
    refine J.dec rfl (fun hge => ?_) (fun hge => ?_)
    · refine J.exit ?_
      refine thn_exit <| inB_ne rfl <| thn_exit <| inB_eq ?_
      refine fin0 (.inr rfl) ?_
      exact ⟨rfl, m, M, hSd.stop fun k h0 hk hp => by omega⟩
    · have hc : 2 * r + 1 < hi := by omega
      have hr := Reads.of_own M.o
      have hA := hr.some_ (by omega)
      refine J.skip ?_
      refine J.cut (X := Nat) [9, 17, 18, 19, 20, 21, 22, 23, 24, 25, 26, 27, 28, 29, 30, 31, 32, 33, 34, 35, 36, 37, 38] (fun j => [(9, .int .i64 (j : Int))]) (fun j w' => Ext w2 w' ∧ (j - 1) / 2 = r ∧ 0 < j ∧ j < hi ∧ ∀ k, 0 < k → k < hi → (k - 1) / 2 = r → m.getD (f + k) 0 ≤ m.getD (f + j) 0) ?_ ?_
      · refine J.seq ?_
        refine J.quiet mixed (by kernel_rfl) ?_
        refine Qt.va rfl (fun w' hw => X.move (by conv => lhs; whnf)) ?_
        refine Qt.va rfl (fun w' hw => X.add rfl rfl (by omega)) ?_
        refine Qt.va rfl (fun w' hw => X.move (by conv => lhs; whnf)) ?_
        refine Qt.va rfl (fun w' hw => X.lss rfl rfl) ?_
        refine Qt.va rfl (fun w' hw => X.move (by conv => lhs; whnf)) ?_
        refine Qt.caseDec (k := 21) rfl (fun h2 => ?_) (fun h2 => ?_)
        · refine Qt.va rfl (fun w' hw => X.move (by conv => lhs; whnf)) ?_
          refine Qt.va rfl (fun w' hw => X.move (by conv => lhs; whnf)) ?_
          refine Qt.va rfl (fun w' hw => X.move (by conv => lhs; whnf)) ?_
          refine Qt.va rfl (fun w' hw => X.add rfl rfl (by omega)) ?_
          refine Qt.va rfl (fun w' hw => X.index1eI (j := f + (2 * r + 1)) rfl rfl (by omega) Try.underlying23 sz_3 hA (by omega)) ?_
          refine Qt.va rfl (fun w' hw => X.load rfl sc_3 (by first | exact Ld.num (hr.ext hw) (by omega) | exact hA)) ?_
          refine Qt.va rfl (fun w' hw => X.move (by conv => lhs; whnf)) ?_
          refine Qt.va rfl (fun w' hw => X.move (by conv => lhs; whnf)) ?_
          refine Qt.va rfl (fun w' hw => X.move (by conv => lhs; whnf)) ?_
          refine Qt.va rfl (fun w' hw => X.add rfl rfl (by omega)) ?_
          refine Qt.va rfl (fun w' hw => X.add rfl rfl (by omega)) ?_
          refine Qt.va rfl (fun w' hw => X.index1eI (j := f + (2 * r + 2)) rfl rfl (by omega) Try.underlying23 sz_3 hA (by omega)) ?_
          refine Qt.va rfl (fun w' hw => X.load rfl sc_3 (by first | exact Ld.num (hr.ext hw) (by omega) | exact hA)) ?_
          refine Qt.call rfl en_293 rfl (fun w' hw => calls_same hw (clessI (m.getD (f + (2 * r + 1)) 0) (m.getD (f + (2 * r + 2)) 0) w')) ?_
          refine Qt.va rfl (fun w' hw => X.pickT rfl (by conv => lhs; whnf)) ?_
          refine Qt.nil (fun w3 hq => ?_)
          replace hr := hr.ext hq
          by_cases hd : m.getD (f + (2 * r + 1)) 0 < m.getD (f + (2 * r + 2)) 0
          · rw [decide_eq_true hd]
            refine J.iteT rfl ?_
            refine J.region ?_
            refine L.va rfl (X.move (by conv => lhs; whnf)) ?_
            refine L.va rfl (X.add rfl rfl (by omega)) ?_
            refine L.va rfl (X.assign (by conv => lhs; whnf)) ?_
            refine L.nil ?_
            refine ⟨2 * r + 2, At1 (by first | rfl | exact at_int rfl (by omega) | exact at_slice rfl (by omega) | exact at_int rfl (by simp)), (by (iterate 24 refine Agr.lk rfl ?_); exact Agr.rfl'), ?_⟩
            refine ⟨hq, by omega, by omega, by omega, fun k h0 hk hp => ?_⟩
            rcases (by omega : k = 2 * r + 1 ∨ k = 2 * r + 2) with rfl | rfl
            · omega
            · exact Int.le_refl _
          · rw [decide_eq_false hd]
            refine J.iteF rfl ?_
            refine J.skip ?_
            refine ⟨2 * r + 1, At1 (by first | rfl | exact at_int rfl (by omega) | exact at_slice rfl (by omega) | exact at_int rfl (by simp)), (by (iterate 21 refine Agr.lk rfl ?_); exact Agr.rfl'), ?_⟩
            refine ⟨hq, by omega, by omega, by omega, fun k h0 hk hp => ?_⟩
            rcases (by omega : k = 2 * r + 1 ∨ k = 2 * r + 2) with rfl | rfl
            · exact Int.le_refl _
            · omega
        · refine Qt.no rfl ?_
          refine Qt.no rfl ?_
          refine Qt.no rfl ?_
          refine Qt.no rfl ?_
          refine Qt.no rfl ?_
          refine Qt.no rfl ?_
          refine Qt.no rfl ?_
          refine Qt.no rfl ?_
          refine Qt.no rfl ?_
          refine Qt.no rfl ?_
          refine Qt.no rfl ?_
          refine Qt.no rfl ?_
          refine Qt.no rfl ?_
          refine Qt.no rfl ?_
          refine Qt.va rfl (fun w' hw => X.pickF rfl (by conv => lhs; whnf)) ?_
          refine Qt.nil (fun w3 hq => ?_)
          replace hr := hr.ext hq
          refine J.iteF rfl ?_
          refine J.skip ?_
          refine ⟨2 * r + 1, At1 (by first | rfl | exact at_int rfl (by omega) | exact at_slice rfl (by omega) | exact at_int rfl (by simp)), (by (iterate 21 refine Agr.lk rfl ?_); exact Agr.rfl'), ?_⟩
          refine ⟨hq, by omega, by omega, by omega, fun k h0 hk hp => ?_⟩
          obtain rfl : k = 2 * r + 1 := by omega
          exact Int.le_refl _
      · rintro j g w3 ⟨he3, hj, hj0, hjn, hmx⟩
        have ho3 := M.o.ext he3
        have hr3 := Reads.of_own ho3
        refine J.seq ?_
        refine J.seq ?_
        refine J.quiet mixed (by kernel_rfl) ?_
        refine Qt.va rfl (fun w' hw => X.move (by conv => lhs; whnf)) ?_
        refine Qt.va rfl (fun w' hw => X.move (by conv => lhs; whnf)) ?_
        refine Qt.va rfl (fun w' hw => X.move (by conv => lhs; whnf)) ?_
        refine Qt.va rfl (fun w' hw => X.add rfl rfl (by omega)) ?_
        refine Qt.va rfl (fun w' hw => X.index1eI (j := f + r) rfl rfl (by omega) Try.underlying23 sz_3 hA (by omega)) ?_
        refine Qt.va rfl (fun w' hw => X.load rfl sc_3 (by first | exact Ld.num (hr3.ext hw) (by omega) | exact hA)) ?_
        refine Qt.va rfl (fun w' hw => X.move (by conv => lhs; whnf)) ?_
        refine Qt.va rfl (fun w' hw => X.move (by conv => lhs; whnf)) ?_
        refine Qt.va rfl (fun w' hw => X.move (by conv => lhs; whnf)) ?_
        refine Qt.va rfl (fun w' hw => X.add rfl rfl (by omega)) ?_
        refine Qt.va rfl (fun w' hw => X.index1eI (j := f + j) rfl rfl (by omega) Try.underlying23 sz_3 hA (by omega)) ?_
        refine Qt.va rfl (fun w' hw => X.load rfl sc_3 (by first | exact Ld.num (hr3.ext hw) (by omega) | exact hA)) ?_
        refine Qt.call rfl en_293 rfl (fun w' hw => calls_same hw (clessI (m.getD (f + r) 0) (m.getD (f + j) 0) w')) ?_
        refine Qt.va rfl (fun w' hw => X.not rfl) ?_
        refine Qt.nil (fun w4 hq => ?_)
        replace hr3 := hr3.ext hq
        by_cases hd : m.getD (f + r) 0 < m.getD (f + j) 0
        · rw [decide_eq_true hd]
          have ho4 := ho3.ext hq
          refine J.iteF rfl ?_
          refine J.skip ?_
          refine J.seq ?_
          refine J.draw (ℓ := 1000000) (S := (fun _ => True)) mixed (fun w5d hSE hS_h => ?_)
          have hS : ((fun _ => True)) w5d := trivial
          have hrw5 := (Reads.of_own ho4).ext hSE
          have hoX := ho4.ext hSE
          have hG : w4.grownBy w5d (Value.ownBlock (.slice A n c)) := grown_ext hSE
          refine D.va 0 rfl (by kernel_rfl) (fun _ _ _ h => h) rfl (fun w' hw => X.move (by conv => lhs; whnf)) hS ?_
          refine D.va 1 rfl (by kernel_rfl) (fun _ _ _ h => h) rfl (fun w' hw => X.move (by conv => lhs; whnf)) hS ?_
          refine D.va 2 rfl (by kernel_rfl) (fun _ _ _ h => h) rfl (fun w' hw => X.move (by conv => lhs; whnf)) hS ?_
          refine D.va 3 rfl (by kernel_rfl) (fun _ _ _ h => h) rfl (fun w' hw => X.add rfl rfl (by omega)) hS ?_
          refine D.va 4 rfl (by kernel_rfl) (fun _ _ _ h => h) rfl (fun w' hw => X.move (by conv => lhs; whnf)) hS ?_
          refine D.va 5 rfl (by kernel_rfl) (fun _ _ _ h => h) rfl (fun w' hw => X.move (by conv => lhs; whnf)) hS ?_
          refine D.va 6 rfl (by kernel_rfl) (fun _ _ _ h => h) rfl (fun w' hw => X.move (by conv => lhs; whnf)) hS ?_
          refine D.va 7 rfl (by kernel_rfl) (fun _ _ _ h => h) rfl (fun w' hw => X.add rfl rfl (by omega)) hS ?_
          refine D.va 8 rfl (by kernel_rfl) (fun _ _ _ h => h) rfl (fun w' hw => X.move (by conv => lhs; whnf)) hS ?_
          refine D.va 9 rfl (by kernel_rfl) (fun _ _ _ h => h) rfl (fun w' hw => X.move (by conv => lhs; whnf)) hS ?_
          refine D.va 10 rfl (by kernel_rfl) (fun _ _ _ h => h) rfl (fun w' hw => X.move (by conv => lhs; whnf)) hS ?_
          refine D.va 11 rfl (by kernel_rfl) (fun _ _ _ h => h) rfl (fun w' hw => X.add rfl rfl (by omega)) hS ?_
          refine D.va 12 rfl (by kernel_rfl) (fun _ _ _ h => h) rfl (fun w' hw => X.index1eI (j := f + j) rfl rfl (by omega) Try.underlying23 sz_3 hA (by omega)) hS ?_
          refine D.va 14 rfl (by kernel_rfl) (fun _ _ _ h => h) rfl (fun w' hw => X.move (by conv => lhs; whnf)) hS ?_
          refine D.va 15 rfl (by kernel_rfl) (fun _ _ _ h => h) rfl (fun w' hw => X.move (by conv => lhs; whnf)) hS ?_
          refine D.va 16 rfl (by kernel_rfl) (fun _ _ _ h => h) rfl (fun w' hw => X.move (by conv => lhs; whnf)) hS ?_
          refine D.va 17 rfl (by kernel_rfl) (fun _ _ _ h => h) rfl (fun w' hw => X.add rfl rfl (by omega)) hS ?_
          refine D.va 18 rfl (by kernel_rfl) (fun _ _ _ h => h) rfl (fun w' hw => X.index1eI (j := f + r) rfl rfl (by omega) Try.underlying23 sz_3 hA (by omega)) hS ?_
          refine D.two 13 19 (by kernel_rfl) rfl rfl ?_ ?_
          · refine L.va rfl (X.load rfl sc_3 (Ld.num hrw5 (j := f + j) (by omega))) ?_
            refine L.nil ?_
            refine ⟨fun _ => hS, ?_⟩
            refine D.one 19 (by kernel_rfl) rfl ?_
            refine L.va rfl (X.load rfl sc_3 (Ld.num hrw5 (j := f + r) (by omega))) ?_
            refine L.nil ?_
            refine ⟨fun _ => hS, ?_⟩
            refine D.va 20 rfl (by kernel_rfl) (fun _ _ _ h => h) rfl (fun w' hw => X.index1eI (j := f + r) rfl rfl (by omega) Try.underlying23 sz_3 hA (by omega)) hS ?_
            refine D.one 21 (by kernel_rfl) rfl ?_
            refine L.storeON rfl rfl (by conv => lhs; whnf) sz_3 (hoX) (by omega) ?_
            intro w5 hoX hg2 hb2 hs2
            have hS1 := trivial
            refine L.nil ?_
            refine ⟨fun _ => hS1, ?_⟩
            replace hG := grb_trans hG hg2
            refine D.va 22 rfl (by kernel_rfl) (fun _ _ _ h => h) rfl (fun w' hw => X.index1eI (j := f + j) rfl rfl (by omega) Try.underlying23 sz_3 hA (by omega)) hS1 ?_
            refine D.one 23 (by kernel_rfl) rfl ?_
            refine L.storeON rfl rfl (by conv => lhs; whnf) sz_3 (hoX) (by omega) ?_
            intro w5 hoX hg2 hb2 hs2
            have hS2 := trivial
            refine L.nil ?_
            refine ⟨fun _ => hS2, ?_⟩
            replace hG := grb_trans hG hg2
            refine D.done (by kernel_rfl) ?_
            refine J.region ?_
            refine L.va rfl (X.move (by conv => lhs; whnf)) ?_
            refine L.va rfl (X.assign (by conv => lhs; whnf)) ?_
            refine L.nil ?_
            refine ⟨(j, swp m (f + r) (f + j)), At1 (by first | rfl | exact at_int rfl (by omega) | exact at_slice rfl (by omega) | exact at_int rfl (by simp)), (by (iterate 38 refine Agr.lk rfl ?_); refine Agr.lk rfl ?_; refine Agr.hav rfl ?_; (iterate 7 refine Agr.lk rfl ?_); exact Agr.lk rfl (Agr.hav rfl Agr.rfl')), ?_⟩
            exact ⟨⟨by omega, ⟨hoX, grb_trans M.g (grb_trans (grown_ext (he3.trans hq)) hG), .step M.p ⟨by omega, by omega⟩ ⟨by omega, by omega⟩ (by omega)⟩, hSd.step hj hj0 hjn (by omega) hmx hd⟩, by show hi - j < hi - r; omega⟩
          · refine L.va rfl (X.load rfl sc_3 (Ld.num hrw5 (j := f + r) (by omega))) ?_
            refine L.nil ?_
            refine ⟨fun _ => hS, ?_⟩
            refine D.one 13 (by kernel_rfl) rfl ?_
            refine L.va rfl (X.load rfl sc_3 (Ld.num hrw5 (j := f + j) (by omega))) ?_
            refine L.nil ?_
            refine ⟨fun _ => hS, ?_⟩
            refine D.va 20 rfl (by kernel_rfl) (fun _ _ _ h => h) rfl (fun w' hw => X.index1eI (j := f + r) rfl rfl (by omega) Try.underlying23 sz_3 hA (by omega)) hS ?_
            refine D.one 21 (by kernel_rfl) rfl ?_
            refine L.storeON rfl rfl (by conv => lhs; whnf) sz_3 (hoX) (by omega) ?_
            intro w5 hoX hg2 hb2 hs2
            have hS1 := trivial
            refine L.nil ?_
            refine ⟨fun _ => hS1, ?_⟩
            replace hG := grb_trans hG hg2
            refine D.va 22 rfl (by kernel_rfl) (fun _ _ _ h => h) rfl (fun w' hw => X.index1eI (j := f + j) rfl rfl (by omega) Try.underlying23 sz_3 hA (by omega)) hS1 ?_
            refine D.one 23 (by kernel_rfl) rfl ?_
            refine L.storeON rfl rfl (by conv => lhs; whnf) sz_3 (hoX) (by omega) ?_
            intro w5 hoX hg2 hb2 hs2
            have hS2 := trivial
            refine L.nil ?_
            refine ⟨fun _ => hS2, ?_⟩
            replace hG := grb_trans hG hg2
            refine D.done (by kernel_rfl) ?_
            refine J.region ?_
            refine L.va rfl (X.move (by conv => lhs; whnf)) ?_
            refine L.va rfl (X.assign (by conv => lhs; whnf)) ?_
            refine L.nil ?_
            refine ⟨(j, swp m (f + r) (f + j)), At1 (by first | rfl | exact at_int rfl (by omega) | exact at_slice rfl (by omega) | exact at_int rfl (by simp)), (by (iterate 38 refine Agr.lk rfl ?_); refine Agr.lk rfl ?_; refine Agr.hav rfl ?_; (iterate 7 refine Agr.lk rfl ?_); exact Agr.lk rfl (Agr.hav rfl Agr.rfl')), ?_⟩
            exact ⟨⟨by omega, ⟨hoX, grb_trans M.g (grb_trans (grown_ext (he3.trans hq)) hG), .step M.p ⟨by omega, by omega⟩ ⟨by omega, by omega⟩ (by omega)⟩, hSd.step hj hj0 hjn (by omega) hmx hd⟩, by show hi - j < hi - r; omega⟩
        · rw [decide_eq_false hd]
          refine J.iteT rfl ?_
          refine J.ret ?_
          refine thn_ret <|  inB_ret <|  thn_ret <|  inB_ret <| ?_
          refine fin0 (.inl rfl) ?_
          exact ⟨rfl, m, ⟨ho3.ext hq, grb_trans M.g (grown_ext (he3.trans hq)), M.p⟩, hSd.stop fun k h0 hk hp => by have := hmx k h0 hk hp; omega⟩
theorem hsortI (A : Option Addr) (n c N a h : Nat) (l : List Int) (w : World) (ho : w.ownsRow N 3 1 (.slice A n c) n (nums .i64 l)) (hf : a + h ≤ n) (hn : n ≤ 1000000) (h0 : 0 < h) :
    Calls Try.prog 288 #[.slice A n c, .int .i64 (a : Int), .int .i64 ((a + h : Nat) : Int)] w fun e w' => e = .returned (.tuple #[]) ∧ ∃ l', SwI w w' A n c N a (a + h) l l' ∧ In l' a (a + h) := by
  have hl : l.length = n := by have := ho.1; simpa [nums] using this
  have eh : ((a + h : Nat) : Int) - (a : Int) = (h : Int) := by omega
  refine enter Try.func288 rfl (by kernel_rfl) ?_
  refine J.seq ?_
  refine J.region ?_
  refine L.va rfl (X.move (by conv => lhs; whnf)) ?_
  refine L.va rfl (X.assign (by conv => lhs; whnf)) ?_
  refine L.nil ?_
  refine J.seq ?_
  refine J.region ?_
  refine L.va rfl (X.assign (by conv => lhs; whnf)) ?_
  refine L.nil ?_
  refine J.seq ?_
  refine J.region ?_
  refine L.va rfl (X.move (by conv => lhs; whnf)) ?_
  refine L.va rfl (X.move (by conv => lhs; whnf)) ?_
  refine L.va rfl (X.sub rfl rfl (by omega)) ?_
  refine L.va rfl (X.assign (by conv => lhs; whnf)) ?_
  refine L.nil ?_
  rw [eh]
  refine J.seq ?_
  refine J.seq ?_
  refine J.region ?_
  refine L.va rfl (X.move (by conv => lhs; whnf)) ?_
  refine L.va rfl (X.sub rfl rfl (by omega)) ?_
  refine L.va rfl (X.quo rfl rfl (by omega)) ?_
  refine L.va rfl (X.assign (by conv => lhs; whnf)) ?_
  refine L.nil ?_
  refine J.block ?_
  refine J.loop (X := Int × List Int) [9, 18, 19, 20, 21, 22, 23, 24, 25, 26] (fun (i, m) => [(9, .int .i64 i)]) (fun (i, m) w' => -1 ≤ i ∧ 2 * i < h ∧ SwI w w' A n c N a (a + h) l m ∧ Hpr m a (i + 1).toNat h) (fun (i, _) => (i + 1).toNat) ((((h : Int) - 1) / 2, l)) (At1 (by first | rfl | exact at_int rfl (by omega) | exact at_slice rfl (by omega) | exact at_int rfl (by simp))) ?_ ?_
  · refine ⟨by omega, by omega, ⟨ho, grown_ext (Ext.refl _), .refl _⟩, fun k k0 hk hlo => by omega⟩
  · rintro ⟨i, m⟩ g w2 ⟨h1, h2, M, hH⟩
    have hml : m.length = n := by rw [M.p.len, hl]
    refine J.seq ?_
    refine J.seq ?_
    refine J.region ?_
    refine L.va rfl (X.move (by conv => lhs; whnf)) ?_
    refine L.va rfl (X.geq rfl rfl) ?_
    refine L.nil ?_
    refine J.dec rfl (fun hge => ?_) (fun hge => ?_)
    · obtain ⟨p, rfl⟩ := Int.eq_ofNat_of_zero_le hge
      rw [show ((p : Int) + 1).toNat = p + 1 by omega] at hH
      have c1 := sdownI A n c N p h a m w2 M.o hf hn (by omega) (Sd.start hH)
      refine J.skip ?_
      refine J.seq ?_
      refine J.block ?_
      refine J.region ?_
      refine L.va rfl (X.move (by conv => lhs; whnf)) ?_
      refine L.va rfl (X.move (by conv => lhs; whnf)) ?_
      refine L.va rfl (X.move (by conv => lhs; whnf)) ?_
      refine L.va rfl (X.move (by conv => lhs; whnf)) ?_
      refine L.call rfl en_303 rfl (c1) ?_
      rintro e w3 ⟨rfl, m', M', hH'⟩
      refine ⟨_, rfl, ?_⟩
      refine L.nil ?_
      refine J.region ?_
      refine L.va rfl (X.move (by conv => lhs; whnf)) ?_
      refine L.va rfl (X.sub rfl rfl (by omega)) ?_
      refine L.va rfl (X.assign (by conv => lhs; whnf)) ?_
      refine L.nil ?_
      refine ⟨((p : Int) - 1, m'), At1 (by first | rfl | exact at_int rfl (by omega) | exact at_slice rfl (by omega) | exact at_int rfl (by simp)), (by (iterate 10 refine Agr.lk rfl ?_); exact Agr.lk rfl (Agr.hav rfl Agr.rfl')), ?_⟩
      refine ⟨⟨by omega, by omega, ⟨M'.o, grb_trans M.g M'.g, M.p.trans M'.p⟩, ?_⟩, by show ((p : Int) - 1 + 1).toNat < ((p : Int) + 1).toNat; omega⟩
      rw [show ((p : Int) - 1 + 1).toNat = p by omega]
      exact hH'
    · obtain rfl : i = -1 := by omega
      have hH0 : Hpr m a 0 h := hH
      refine J.exit ?_
      refine J.seq ?_
      refine J.region ?_
      refine L.va rfl (X.move (by conv => lhs; whnf)) ?_
      refine L.va rfl (X.sub rfl rfl (by omega)) ?_
      refine L.va rfl (X.assign (by conv => lhs; whnf)) ?_
      refine L.nil ?_
      refine J.block ?_
      refine J.loop (X := Nat × List Int) [10, 29, 30, 31, 32, 33, 34, 35, 36, 37, 38, 39, 40, 41, 42, 43, 44, 45, 46, 47, 48, 49, 50, 51, 52, 53, 54, 55] (fun (p, m) => [(10, .int .i64 ((p : Int) - 1))]) (fun (p, m) w' => p ≤ h ∧ SwI w w' A n c N a (a + h) l m ∧ Off m a p h) (fun (p, _) => p) ((h, m)) (At1 (by first | rfl | exact at_int rfl (by omega) | exact at_slice rfl (by omega) | exact at_int rfl (by simp))) ?_ ?_
      · exact ⟨Nat.le_refl _, M, ⟨hH0, (fun x y x1 x2 x3 => by omega), (fun x y x1 x2 x3 => by omega)⟩⟩
      · rintro ⟨p, m⟩ g w3 ⟨hp, M, hO⟩
        have hml : m.length = n := by rw [M.p.len, hl]
        refine J.seq ?_
        refine J.seq ?_
        refine J.region ?_
        refine L.va rfl (X.move (by conv => lhs; whnf)) ?_
        refine L.va rfl (X.geq rfl rfl) ?_
        refine L.nil ?_
        refine J.dec rfl (fun hge => ?_) (fun hge => ?_)
        · obtain ⟨p, rfl⟩ : ∃ p', p = p' + 1 := ⟨p - 1, by omega⟩
          have hA := (Reads.of_own M.o).some_ (by omega)
          have ep : ((p + 1 : Nat) : Int) - 1 = (p : Int) := by omega
          have ho4 := M.o
          refine J.skip ?_
          refine J.seq ?_
          refine J.block ?_
          refine J.seq ?_
          refine J.draw (ℓ := 1000000) (S := (fun _ => True)) mixed (fun w5d hSE hS_h => ?_)
          have hS : ((fun _ => True)) w5d := trivial
          have hrw5 := (Reads.of_own ho4).ext hSE
          have hoX := ho4.ext hSE
          have hG : w3.grownBy w5d (Value.ownBlock (.slice A n c)) := grown_ext hSE
          refine D.va 0 rfl (by kernel_rfl) (fun _ _ _ h => h) rfl (fun w' hw => X.move (by conv => lhs; whnf)) hS ?_
          refine D.va 1 rfl (by kernel_rfl) (fun _ _ _ h => h) rfl (fun w' hw => X.move (by conv => lhs; whnf)) hS ?_
          refine D.va 2 rfl (by kernel_rfl) (fun _ _ _ h => h) rfl (fun w' hw => X.move (by conv => lhs; whnf)) hS ?_
          refine D.va 3 rfl (by kernel_rfl) (fun _ _ _ h => h) rfl (fun w' hw => X.move (by conv => lhs; whnf)) hS ?_
          refine D.va 4 rfl (by kernel_rfl) (fun _ _ _ h => h) rfl (fun w' hw => X.move (by conv => lhs; whnf)) hS ?_
          refine D.va 5 rfl (by kernel_rfl) (fun _ _ _ h => h) rfl (fun w' hw => X.add rfl rfl (by omega)) hS ?_
          refine D.va 6 rfl (by kernel_rfl) (fun _ _ _ h => h) rfl (fun w' hw => X.move (by conv => lhs; whnf)) hS ?_
          refine D.va 7 rfl (by kernel_rfl) (fun _ _ _ h => h) rfl (fun w' hw => X.move (by conv => lhs; whnf)) hS ?_
          refine D.va 8 rfl (by kernel_rfl) (fun _ _ _ h => h) rfl (fun w' hw => X.move (by conv => lhs; whnf)) hS ?_
          refine D.va 9 rfl (by kernel_rfl) (fun _ _ _ h => h) rfl (fun w' hw => X.add rfl rfl (by omega)) hS ?_
          refine D.va 10 rfl (by kernel_rfl) (fun _ _ _ h => h) rfl (fun w' hw => X.index1eI (j := a + p) rfl rfl (by omega) Try.underlying23 sz_3 hA (by omega)) hS ?_
          refine D.va 12 rfl (by kernel_rfl) (fun _ _ _ h => h) rfl (fun w' hw => X.move (by conv => lhs; whnf)) hS ?_
          refine D.va 13 rfl (by kernel_rfl) (fun _ _ _ h => h) rfl (fun w' hw => X.move (by conv => lhs; whnf)) hS ?_
          refine D.va 14 rfl (by kernel_rfl) (fun _ _ _ h => h) rfl (fun w' hw => (by first | exact X.index1n rfl rfl Try.underlying23 sz_3 (by first | exact Option.some_ne_none _ | exact hA) (by omega) | exact X.index1 rfl rfl Try.underlying23 sz_3 (by first | exact Option.some_ne_none _ | exact hA) (by omega))) hS ?_
          refine D.two 11 15 (by kernel_rfl) rfl rfl ?_ ?_
          · refine L.va rfl (X.load rfl sc_3 (Ld.num hrw5 (j := a + p) (by omega))) ?_
            refine L.nil ?_
            refine ⟨fun _ => hS, ?_⟩
            refine D.one 15 (by kernel_rfl) rfl ?_
            refine L.va rfl (X.load rfl sc_3 (Ld.num hrw5 (j := a) (by omega))) ?_
            refine L.nil ?_
            refine ⟨fun _ => hS, ?_⟩
            refine D.va 16 rfl (by kernel_rfl) (fun _ _ _ h => h) rfl (fun w' hw => (by first | exact X.index1n rfl rfl Try.underlying23 sz_3 (by first | exact Option.some_ne_none _ | exact hA) (by omega) | exact X.index1 rfl rfl Try.underlying23 sz_3 (by first | exact Option.some_ne_none _ | exact hA) (by omega))) hS ?_
            refine D.one 17 (by kernel_rfl) rfl ?_
            refine L.storeON rfl rfl (by conv => lhs; whnf) sz_3 (hoX) (by omega) ?_
            intro w5 hoX hg2 hb2 hs2
            have hS1 := trivial
            refine L.nil ?_
            refine ⟨fun _ => hS1, ?_⟩
            replace hG := grb_trans hG hg2
            refine D.va 18 rfl (by kernel_rfl) (fun _ _ _ h => h) rfl (fun w' hw => X.index1eI (j := a + p) rfl rfl (by omega) Try.underlying23 sz_3 hA (by omega)) hS1 ?_
            refine D.one 19 (by kernel_rfl) rfl ?_
            refine L.storeON rfl rfl (by conv => lhs; whnf) sz_3 (hoX) (by omega) ?_
            intro w5 hoX hg2 hb2 hs2
            have hS2 := trivial
            refine L.nil ?_
            refine ⟨fun _ => hS2, ?_⟩
            replace hG := grb_trans hG hg2
            refine D.done (by kernel_rfl) ?_
            refine J.region ?_
            refine L.va rfl (X.move (by conv => lhs; whnf)) ?_
            refine L.va rfl (X.move (by conv => lhs; whnf)) ?_
            refine L.va rfl (X.move (by conv => lhs; whnf)) ?_
            refine L.va rfl (X.move (by conv => lhs; whnf)) ?_
            have hsw : Pr a (a + h) m (swp m a (a + p)) := .step (.refl _) ⟨by omega, by omega⟩ ⟨by omega, by omega⟩ (by omega)
            have c2 := sdownI A n c N 0 p a (swp m a (a + p)) w5 hoX (by omega) hn (Nat.zero_le _) (hO.swap (by omega) (by omega))
            rw [← ep] at c2
            refine L.call rfl en_303 rfl (c2) ?_
            rintro e w6 ⟨rfl, m', M', hH'⟩
            refine ⟨_, rfl, ?_⟩
            refine L.nil ?_
            refine J.region ?_
            refine L.va rfl (X.move (by conv => lhs; whnf)) ?_
            refine L.va rfl (X.sub rfl rfl (by omega)) ?_
            refine L.va rfl (X.assign (by conv => lhs; whnf)) ?_
            refine L.nil ?_
            refine ⟨(p, m'), At1 (by first | rfl | exact at_int rfl (by omega) | exact at_slice rfl (by omega) | exact at_int rfl (by simp)), (by (iterate 28 refine Agr.lk rfl ?_); exact Agr.lk rfl (Agr.hav rfl Agr.rfl')), ?_⟩
            exact ⟨⟨by omega, ⟨M'.o, grb_trans (grb_trans M.g hG) M'.g, (M.p.trans hsw).trans (M'.p.wide (Nat.le_refl _) (by omega) (by rw [swp_length]; omega))⟩, hO.next (by omega) (by omega) M'.p hH'⟩, by show p < p + 1; omega⟩
          · refine L.va rfl (X.load rfl sc_3 (Ld.num hrw5 (j := a) (by omega))) ?_
            refine L.nil ?_
            refine ⟨fun _ => hS, ?_⟩
            refine D.one 11 (by kernel_rfl) rfl ?_
            refine L.va rfl (X.load rfl sc_3 (Ld.num hrw5 (j := a + p) (by omega))) ?_
            refine L.nil ?_
            refine ⟨fun _ => hS, ?_⟩
            refine D.va 16 rfl (by kernel_rfl) (fun _ _ _ h => h) rfl (fun w' hw => (by first | exact X.index1n rfl rfl Try.underlying23 sz_3 (by first | exact Option.some_ne_none _ | exact hA) (by omega) | exact X.index1 rfl rfl Try.underlying23 sz_3 (by first | exact Option.some_ne_none _ | exact hA) (by omega))) hS ?_
            refine D.one 17 (by kernel_rfl) rfl ?_
            refine L.storeON rfl rfl (by conv => lhs; whnf) sz_3 (hoX) (by omega) ?_
            intro w5 hoX hg2 hb2 hs2
            have hS1 := trivial
            refine L.nil ?_
            refine ⟨fun _ => hS1, ?_⟩
            replace hG := grb_trans hG hg2
            refine D.va 18 rfl (by kernel_rfl) (fun _ _ _ h => h) rfl (fun w' hw => X.index1eI (j := a + p) rfl rfl (by omega) Try.underlying23 sz_3 hA (by omega)) hS1 ?_
            refine D.one 19 (by kernel_rfl) rfl ?_
            refine L.storeON rfl rfl (by conv => lhs; whnf) sz_3 (hoX) (by omega) ?_
            intro w5 hoX hg2 hb2 hs2
            have hS2 := trivial
            refine L.nil ?_
            refine ⟨fun _ => hS2, ?_⟩
            replace hG := grb_trans hG hg2
            refine D.done (by kernel_rfl) ?_
            refine J.region ?_
            refine L.va rfl (X.move (by conv => lhs; whnf)) ?_
            refine L.va rfl (X.move (by conv => lhs; whnf)) ?_
            refine L.va rfl (X.move (by conv => lhs; whnf)) ?_
            refine L.va rfl (X.move (by conv => lhs; whnf)) ?_
            have hsw : Pr a (a + h) m (swp m a (a + p)) := .step (.refl _) ⟨by omega, by omega⟩ ⟨by omega, by omega⟩ (by omega)
            have c2 := sdownI A n c N 0 p a (swp m a (a + p)) w5 hoX (by omega) hn (Nat.zero_le _) (hO.swap (by omega) (by omega))
            rw [← ep] at c2
            refine L.call rfl en_303 rfl (c2) ?_
            rintro e w6 ⟨rfl, m', M', hH'⟩
            refine ⟨_, rfl, ?_⟩
            refine L.nil ?_
            refine J.region ?_
            refine L.va rfl (X.move (by conv => lhs; whnf)) ?_
            refine L.va rfl (X.sub rfl rfl (by omega)) ?_
            refine L.va rfl (X.assign (by conv => lhs; whnf)) ?_
            refine L.nil ?_
            refine ⟨(p, m'), At1 (by first | rfl | exact at_int rfl (by omega) | exact at_slice rfl (by omega) | exact at_int rfl (by simp)), (by (iterate 28 refine Agr.lk rfl ?_); exact Agr.lk rfl (Agr.hav rfl Agr.rfl')), ?_⟩
            exact ⟨⟨by omega, ⟨M'.o, grb_trans (grb_trans M.g hG) M'.g, (M.p.trans hsw).trans (M'.p.wide (Nat.le_refl _) (by omega) (by rw [swp_length]; omega))⟩, hO.next (by omega) (by omega) M'.p hH'⟩, by show p < p + 1; omega⟩
        · obtain rfl : p = 0 := by omega
          refine J.exit ?_
          refine thn_exit <| thn_exit <| inB_eq ?_
          refine fin0 (.inr rfl) ?_
          exact ⟨rfl, m, M, hO.all⟩
end Go.Proofs.Ytlipeplfjkgamaa
namespace Go.Proofs.Ytlipeplfjkgamaa
set_option maxRecDepth 100000
open Go.RowKit H
set_option linter.unusedVariables false
theorem wrapU (m : Int) (h : 0 ≤ m ∧ m ≤ 18446744073709551615) : IntKind.u64.wrap m = m := by simp [IntKind.wrap, IntKind.bits, IntKind.signed]; omega
theorem wrapU_in (m : Int) : 0 ≤ IntKind.u64.wrap m ∧ IntKind.u64.wrap m ≤ 18446744073709551615 := by simp [IntKind.wrap, IntKind.bits, IntKind.signed]; omega
theorem xorU {x : Nat} {m : Int} (hx : x < 18446744073709551616) (hm : 0 ≤ m ∧ m ≤ 18446744073709551615) : ∃ y : Nat, bits .xor .u64 (x : Int) m = (y : Int) ∧ y < 18446744073709551616 := by
  obtain ⟨k, rfl⟩ := Int.eq_ofNat_of_zero_le hm.1
  exact ⟨x ^^^ k, u64_xor_nat x k hx (by omega), Nat.xor_lt_two_pow (n := 64) hx (by omega)⟩
def Dig (x n : Nat) : Prop := x < 2 ^ n ∧ (x = 0 ∨ 2 ^ n ≤ 2 * x)
theorem Dig.up {x k n : Nat} (h : Dig (x / 2 ^ k) n) (h0 : k = 0 ∨ 0 < x / 2 ^ k) : Dig x (n + k) := by
  have hp : 0 < 2 ^ k := Nat.pow_pos (by decide)
  refine ⟨?_, ?_⟩
  · have := (Nat.div_lt_iff_lt_mul hp).1 h.1
    rwa [← Nat.pow_add] at this
  · rcases h0 with rfl | h0
    · have := h.2
      simpa using this
    · rcases h.2 with h2 | h2
      · omega
      · refine .inr ?_
        have h3 : x / 2 ^ k * 2 ^ k ≤ x := Nat.div_mul_le_self x (2 ^ k)
        have h4 := Nat.mul_le_mul_right (2 ^ k) h2
        rw [← Nat.pow_add, Nat.mul_assoc] at h4
        omega
def tab8 : List Nat := [0, 1, 2, 2, 3, 3, 3, 3, 4, 4, 4, 4, 4, 4, 4, 4, 5, 5, 5, 5, 5, 5, 5, 5, 5, 5, 5, 5, 5, 5, 5, 5] ++ List.replicate 32 6 ++ List.replicate 64 7 ++ List.replicate 128 8
theorem X.tab {P : Program} {w : World} {f : Operand → Value} {x y : Operand} {d : Option Tmp} {t ty : TypeId} {pos : String} {aft : Array Edge} {g : Option (Nat × Bool)} {k : IntKind} {s : ByteArray} {m : Nat} (hx : f x = .string s) (hy : f y = .int k (m : Int)) (ht : P.underlying t = some .string) (hs : s.data.toList.map (fun b => b.toNat) = tab8) (hm : m < 256) : (execOp f ⟨d, .index t x y, ty, pos, aft, g⟩).run P w = .ok (.value (.int .u8 ((tab8.getD m 0 : Nat) : Int))) w := by
  have hl : s.data.toList.length = 256 := by
    have := congrArg List.length hs
    rw [List.length_map] at this
    rw [this]
    rfl
  have hz : s.size = 256 := by rw [← hl]; simp
  have e : (s.data.toList.getD m 0).toNat = tab8.getD m 0 := by
    rw [← hs, List.getD, List.getD, List.getElem?_map, List.getElem?_eq_getElem (by omega)]
    rfl
  have := X.indexStr (P := P) (w := w) (d := d) (ty := ty) (pos := pos) (aft := aft) (g := g) hx hy ht (by omega)
  rw [Int.toNat_natCast, e] at this
  exact this
theorem tab_dig : ∀ x, x < 256 → Dig x (tab8.getD x 0) := by
  unfold Dig
  decide
theorem len64 (x : Nat) (w : World) (hx : x < 18446744073709551616) : Calls Try.prog 249 #[.int .u64 (x : Int)] w fun e w' => ∃ n : Nat, e = .returned (.int .i64 (n : Int)) ∧ n ≤ 70 ∧ Dig x n ∧ w = w' := by
  have e32 : ((x : Int) / 2 ^ min (32 : Int).toNat IntKind.u64.bits) = ((x / 2 ^ 32 : Nat) : Int) := by
    rw [show min (32 : Int).toNat IntKind.u64.bits = 32 from rfl]
    omega
  refine enter Try.func249 rfl (by kernel_rfl) ?_
  refine J.seq ?_
  refine J.region ?_
  refine L.va rfl (X.assign (by conv => lhs; whnf)) ?_
  refine L.nil ?_
  refine J.cut (X := Nat × Nat) [0, 2, 3, 4, 5, 6] (fun (y, k) => [(0, .int .u64 (y : Int)), (2, .int .i64 (k : Int))]) (fun (y, k) w' => w = w' ∧ y = x / 2 ^ k ∧ y < 4294967296 ∧ (k = 0 ∨ 0 < y) ∧ k ≤ 32) ?_ ?_
  · refine J.seq ?_
    refine J.region ?_
    refine L.va rfl (X.move (by conv => lhs; whnf)) ?_
    refine L.va rfl (X.geq rfl rfl) ?_
    refine L.nil ?_
    refine J.dec rfl (fun h => ?_) (fun h => ?_)
    · refine J.seq ?_
      refine J.region ?_
      refine L.va rfl (X.move (by conv => lhs; whnf)) ?_
      refine L.va rfl (X.shr rfl rfl (by omega)) ?_
      refine L.va rfl (X.assign (by conv => lhs; whnf)) ?_
      refine L.nil ?_
      refine J.region ?_
      refine L.va rfl (X.assign (by conv => lhs; whnf)) ?_
      refine L.nil ?_
      refine ⟨(x / 2 ^ 32, 32), At2 (at_int rfl e32) (rfl), (by (iterate 6 refine Agr.lk rfl ?_); exact Agr.rfl'), ?_⟩
      have h2 : (2 : Nat) ^ 32 = 4294967296 := by decide
      rw [h2]
      exact ⟨rfl, rfl, by omega, .inr (by omega), by omega⟩
    · refine J.skip ?_
      refine ⟨(x, 0), At2 (by first | rfl | exact at_int rfl (by omega) | exact at_slice rfl (by omega) | exact at_int rfl (by simp)) (by first | rfl | exact at_int rfl (by omega) | exact at_slice rfl (by omega) | exact at_int rfl (by simp)), (by (iterate 2 refine Agr.lk rfl ?_); exact Agr.rfl'), ?_⟩
      exact ⟨rfl, by simp, by omega, .inl rfl, by omega⟩
  · rintro ⟨y, k⟩ g w1 ⟨rfl, hy, hlt, h0, hk⟩
    have e16 : ((y : Int) / 2 ^ min (16 : Int).toNat IntKind.u64.bits) = ((y / 2 ^ 16 : Nat) : Int) := by
      rw [show min (16 : Int).toNat IntKind.u64.bits = 16 from rfl]
      omega
    refine J.cut (X := Nat × Nat) [0, 2, 7, 8, 9, 10, 11, 12] (fun (y, k) => [(0, .int .u64 (y : Int)), (2, .int .i64 (k : Int))]) (fun (y, k) w' => w = w' ∧ y = x / 2 ^ k ∧ y < 65536 ∧ (k = 0 ∨ 0 < y) ∧ k ≤ 48) ?_ ?_
    · refine J.seq ?_
      refine J.region ?_
      refine L.va rfl (X.move (by conv => lhs; whnf)) ?_
      refine L.va rfl (X.geq rfl rfl) ?_
      refine L.nil ?_
      refine J.dec rfl (fun h => ?_) (fun h => ?_)
      · refine J.seq ?_
        refine J.region ?_
        refine L.va rfl (X.move (by conv => lhs; whnf)) ?_
        refine L.va rfl (X.shr rfl rfl (by omega)) ?_
        refine L.va rfl (X.assign (by conv => lhs; whnf)) ?_
        refine L.nil ?_
        refine J.region ?_
        refine L.va rfl (X.move (by conv => lhs; whnf)) ?_
        refine L.va rfl (X.add rfl rfl (by omega)) ?_
        refine L.va rfl (X.assign (by conv => lhs; whnf)) ?_
        refine L.nil ?_
        refine ⟨(y / 2 ^ 16, k + 16), At2 (at_int rfl e16) (rfl), (by (iterate 8 refine Agr.lk rfl ?_); exact Agr.rfl'), ?_⟩
        have h2 : (2 : Nat) ^ 16 = 65536 := by decide
        refine ⟨rfl, by rw [hy, Nat.div_div_eq_div_mul, ← Nat.pow_add], ?_, .inr ?_, by omega⟩ <;> rw [h2] <;> omega
      · refine J.skip ?_
        refine ⟨(y, k), At2 (by first | rfl | exact at_int rfl (by omega) | exact at_slice rfl (by omega) | exact at_int rfl (by simp)) (by first | rfl | exact at_int rfl (by omega) | exact at_slice rfl (by omega) | exact at_int rfl (by simp)), (by (iterate 2 refine Agr.lk rfl ?_); exact Agr.rfl'), ?_⟩
        exact ⟨rfl, hy, by omega, h0, by omega⟩
    · rintro ⟨y, k⟩ g w1 ⟨rfl, hy, hlt, h0, hk⟩
      have e8 : ((y : Int) / 2 ^ min (8 : Int).toNat IntKind.u64.bits) = ((y / 2 ^ 8 : Nat) : Int) := by
        rw [show min (8 : Int).toNat IntKind.u64.bits = 8 from rfl]
        omega
      refine J.cut (X := Nat × Nat) [0, 2, 13, 14, 15, 16, 17, 18] (fun (y, k) => [(0, .int .u64 (y : Int)), (2, .int .i64 (k : Int))]) (fun (y, k) w' => w = w' ∧ y = x / 2 ^ k ∧ y < 256 ∧ (k = 0 ∨ 0 < y) ∧ k ≤ 56) ?_ ?_
      · refine J.seq ?_
        refine J.region ?_
        refine L.va rfl (X.move (by conv => lhs; whnf)) ?_
        refine L.va rfl (X.geq rfl rfl) ?_
        refine L.nil ?_
        refine J.dec rfl (fun h => ?_) (fun h => ?_)
        · refine J.seq ?_
          refine J.region ?_
          refine L.va rfl (X.move (by conv => lhs; whnf)) ?_
          refine L.va rfl (X.shr rfl rfl (by omega)) ?_
          refine L.va rfl (X.assign (by conv => lhs; whnf)) ?_
          refine L.nil ?_
          refine J.region ?_
          refine L.va rfl (X.move (by conv => lhs; whnf)) ?_
          refine L.va rfl (X.add rfl rfl (by omega)) ?_
          refine L.va rfl (X.assign (by conv => lhs; whnf)) ?_
          refine L.nil ?_
          refine ⟨(y / 2 ^ 8, k + 8), At2 (at_int rfl e8) (rfl), (by (iterate 8 refine Agr.lk rfl ?_); exact Agr.rfl'), ?_⟩
          have h2 : (2 : Nat) ^ 8 = 256 := by decide
          refine ⟨rfl, by rw [hy, Nat.div_div_eq_div_mul, ← Nat.pow_add], ?_, .inr ?_, by omega⟩ <;> rw [h2] <;> omega
        · refine J.skip ?_
          refine ⟨(y, k), At2 (by first | rfl | exact at_int rfl (by omega) | exact at_slice rfl (by omega) | exact at_int rfl (by simp)) (by first | rfl | exact at_int rfl (by omega) | exact at_slice rfl (by omega) | exact at_int rfl (by simp)), (by (iterate 2 refine Agr.lk rfl ?_); exact Agr.rfl'), ?_⟩
          exact ⟨rfl, hy, by omega, h0, by omega⟩
      · rintro ⟨y, k⟩ g w1 ⟨rfl, hy, hlt, h0, hk⟩
        have ht := tab_dig y hlt
        have ht8 : tab8.getD y 0 ≤ 8 := by
          rcases Nat.lt_or_ge 8 (tab8.getD y 0) with h | h
          · have := Nat.pow_le_pow_right (n := 2) (by decide) h
            rcases ht.2 with h2 | h2
            · subst h2; exact absurd h (by decide)
            · have h3 : (2 : Nat) ^ (8 + 1) = 512 := by decide
              omega
          · exact h
        refine J.seq ?_
        refine J.region ?_
        refine L.va rfl (X.move (by conv => lhs; whnf)) ?_
        refine L.va rfl (X.move (by conv => lhs; whnf)) ?_
        refine L.va rfl ((by first | exact X.conv8 rfl is_90 Try.underlying5 (by omega) | exact X.convw rfl is_90 Try.underlying5)) ?_
        refine L.va rfl (X.tab rfl rfl Try.underlying9 rfl hlt) ?_
        refine L.va rfl ((by first | exact X.convI rfl is_5 Try.underlying3 (by omega) | exact X.convw rfl is_5 Try.underlying3)) ?_
        refine L.va rfl (X.add rfl rfl (by omega)) ?_
        refine L.va rfl (X.assign (by conv => lhs; whnf)) ?_
        refine L.nil ?_
        refine J.ret ?_
        refine fin1 ?_
        refine ⟨k + tab8.getD y 0, congrArg (fun z => Ending.returned (.int .i64 z)) (by omega), by omega, ?_, rfl⟩
        rw [Nat.add_comm]
        exact Dig.up (by rw [← hy]; exact ht) (by rw [← hy]; exact h0)
theorem len_ (x : Nat) (w : World) (hx : x < 18446744073709551616) : Calls Try.prog 194 #[.int .u64 (x : Int)] w fun e w' => ∃ n : Nat, e = .returned (.int .i64 (n : Int)) ∧ n ≤ 70 ∧ Dig x n ∧ w = w' := by
  refine enter Try.func194 rfl (by kernel_rfl) ?_
  refine J.seq ?_
  refine J.region ?_
  refine L.va rfl (X.assign (by conv => lhs; whnf)) ?_
  refine L.nil ?_
  refine J.seq ?_
  refine J.iteF rfl ?_
  refine J.skip ?_
  refine J.seq ?_
  refine J.region ?_
  refine L.va rfl (X.move (by conv => lhs; whnf)) ?_
  refine L.call rfl en_249 rfl (len64 x w hx) ?_
  rintro e _ ⟨n, rfl, hn, hd, rfl⟩
  refine ⟨_, rfl, ?_⟩
  refine L.va rfl (X.assign (by conv => lhs; whnf)) ?_
  refine L.nil ?_
  refine J.ret ?_
  refine fin1 ?_
  exact ⟨n, rfl, hn, hd, rfl⟩
theorem nextp (x : Nat) (w : World) (hx : x < 1000000) (h0 : 0 < x) : Calls Try.prog 281 #[.int .i64 (x : Int)] w fun e w' => ∃ m : Nat, e = .returned (.int .u64 (m : Int)) ∧ 0 < m ∧ m ≤ 2 * x ∧ w = w' := by
  refine enter Try.func281 rfl (by kernel_rfl) ?_
  refine J.seq ?_
  refine J.region ?_
  refine L.va rfl (X.assign (by conv => lhs; whnf)) ?_
  refine L.nil ?_
  refine J.seq ?_
  refine J.region ?_
  refine L.va rfl (X.move (by conv => lhs; whnf)) ?_
  refine L.va rfl ((by first | exact X.convU rfl is_3 Try.underlying255 (by omega) | exact X.convw rfl is_3 Try.underlying255)) ?_
  refine L.call rfl en_194 rfl (len_ x w (by omega)) ?_
  rintro e _ ⟨n, rfl, hn, hd, rfl⟩
  refine ⟨_, rfl, ?_⟩
  have hn21 : n ≤ 21 := by
    rcases Nat.lt_or_ge 21 n with h | h
    · have := Nat.pow_le_pow_right (n := 2) (by decide) h
      rcases hd.2 with h2 | h2
      · omega
      · have h3 : (2 : Nat) ^ (21 + 1) = 4194304 := by decide
        omega
    · exact h
  have hp : (2 : Nat) ^ n ≤ 2097152 := by
    have := Nat.pow_le_pow_right (n := 2) (by decide) hn21
    have h3 : (2 : Nat) ^ 21 = 2097152 := by decide
    omega
  have e : IntKind.u64.wrap (1 * 2 ^ min (n : Int).toNat IntKind.u64.bits) = ((2 ^ n : Nat) : Int) := by
    rw [show min (n : Int).toNat IntKind.u64.bits = n by rw [Int.toNat_natCast]; show min n 64 = n; omega]
    have : (1 : Int) * 2 ^ n = ((2 ^ n : Nat) : Int) := by rw [Int.one_mul]; push_cast; rfl
    rw [this]
    exact wrapU _ ⟨Int.natCast_nonneg _, Int.ofNat_le.2 (show 2 ^ n ≤ 18446744073709551615 by omega)⟩
  refine L.va rfl (X.shl rfl rfl (by omega)) ?_
  refine L.va rfl (X.assign (by conv => lhs; whnf)) ?_
  refine L.nil ?_
  refine J.ret ?_
  refine fin1 ?_
  exact ⟨2 ^ n, congrArg (fun z => Ending.returned (.int .u64 z)) e, Nat.pow_pos (by decide), by
    rcases hd.2 with h | h
    · omega
    · exact h, rfl⟩
theorem xnext (rb x : Nat) (w : World) (hb : Blk w rb 329 #[.int .u64 (x : Int)]) (hx : x < 18446744073709551616) : Calls Try.prog 282 #[.pointer (some ⟨rb, 0, none⟩)] w fun e w' => ∃ y : Nat, e = .returned (.int .u64 (y : Int)) ∧ y < 18446744073709551616 ∧ Blk w' rb 329 #[.int .u64 (y : Int)] ∧ w.grownBy w' (some rb) := by
  obtain ⟨x1, e1, h1⟩ := xorU hx (wrapU_in ((x : Int) * 2 ^ min (13 : Int).toNat IntKind.u64.bits))
  obtain ⟨x2, e2, h2⟩ := xorU (x := x1) (m := (x1 : Int) / 2 ^ min (7 : Int).toNat IntKind.u64.bits) h1 (by rw [show min (7 : Int).toNat IntKind.u64.bits = 7 from rfl]; omega)
  obtain ⟨x3, e3, h3⟩ := xorU h2 (wrapU_in ((x2 : Int) * 2 ^ min (17 : Int).toNat IntKind.u64.bits))
  refine enter Try.func282 rfl (by kernel_rfl) ?_
  refine J.seq ?_
  refine J.region ?_
  refine L.va rfl (X.assign (by conv => lhs; whnf)) ?_
  refine L.nil ?_
  refine J.seq ?_
  refine J.draw (ℓ := 9) (S := (fun w' => Blk w' rb 329 #[.int .u64 (x : Int)])) mixed (fun w1 hSE hS_h => ?_)
  have hS : ((fun w' => Blk w' rb 329 #[.int .u64 (x : Int)])) w1 := hb.ext hSE
  have g1 : w.grownBy w1 (some rb) := grown_ext hSE
  refine D.va 0 rfl (by kernel_rfl) (fun _ _ _ h => h) rfl (fun w' hw => X.move (by conv => lhs; whnf)) hS ?_
  refine D.va 1 rfl (by kernel_rfl) (fun _ _ _ h => h) rfl (fun w' hw => X.nilCheck rfl) hS ?_
  refine D.va 2 rfl (by kernel_rfl) (fun _ _ _ h => h) rfl (fun w' hw => X.load rfl sc_329 (by first | exact Ld.blk hw rfl)) hS ?_
  refine D.va 3 rfl (by kernel_rfl) (fun _ _ _ h => h) rfl (fun w' hw => X.move (by conv => lhs; whnf)) hS ?_
  refine D.va 4 rfl (by kernel_rfl) (fun _ _ _ h => h) rfl (fun w' hw => X.nilCheck rfl) hS ?_
  refine D.va 5 rfl (by kernel_rfl) (fun _ _ _ h => h) rfl (fun w' hw => X.load rfl sc_329 (by first | exact Ld.blk hw rfl)) hS ?_
  refine D.va 6 rfl (by kernel_rfl) (fun _ _ _ h => h) rfl (fun w' hw => X.shl rfl rfl (by omega)) hS ?_
  refine D.va 7 rfl (by kernel_rfl) (fun _ _ _ h => h) rfl (fun w' hw => X.xor rfl rfl) hS ?_
  refine D.va 8 rfl (by kernel_rfl) (fun _ _ _ h => h) rfl (fun w' hw => X.nilCheck rfl) hS ?_
  rw [e1]
  refine D.one 9 (by kernel_rfl) rfl ?_
  refine L.store rfl rfl (by conv => lhs; whnf) rfl sz_329 (hS) (by first | decide | exact Nat.le_of_ble_eq_true rfl) ?_
  intro w2 hk2 hg2 hs2
  refine L.nil ?_
  refine ⟨fun h => absurd rfl h, ?_⟩
  have hk2 : Blk w2 rb 329 #[.int .u64 (x1 : Int)] := hk2
  refine D.done (by kernel_rfl) ?_
  refine J.seq ?_
  refine J.draw (ℓ := 9) (S := (fun w' => Blk w' rb 329 #[.int .u64 (x1 : Int)])) mixed (fun w3 hTE hT_h => ?_)
  have hT : ((fun w' => Blk w' rb 329 #[.int .u64 (x1 : Int)])) w3 := hk2.ext hTE
  have g3 : w.grownBy w3 (some rb) := grb_trans (grb_trans g1 hg2) (grown_ext hTE)
  refine D.va 0 rfl (by kernel_rfl) (fun _ _ _ h => h) rfl (fun w' hw => X.move (by conv => lhs; whnf)) hT ?_
  refine D.va 1 rfl (by kernel_rfl) (fun _ _ _ h => h) rfl (fun w' hw => X.nilCheck rfl) hT ?_
  refine D.va 2 rfl (by kernel_rfl) (fun _ _ _ h => h) rfl (fun w' hw => X.load rfl sc_329 (by first | exact Ld.blk hw rfl)) hT ?_
  refine D.va 3 rfl (by kernel_rfl) (fun _ _ _ h => h) rfl (fun w' hw => X.move (by conv => lhs; whnf)) hT ?_
  refine D.va 4 rfl (by kernel_rfl) (fun _ _ _ h => h) rfl (fun w' hw => X.nilCheck rfl) hT ?_
  refine D.va 5 rfl (by kernel_rfl) (fun _ _ _ h => h) rfl (fun w' hw => X.load rfl sc_329 (by first | exact Ld.blk hw rfl)) hT ?_
  refine D.va 6 rfl (by kernel_rfl) (fun _ _ _ h => h) rfl (fun w' hw => X.shr rfl rfl (by omega)) hT ?_
  refine D.va 7 rfl (by kernel_rfl) (fun _ _ _ h => h) rfl (fun w' hw => X.xor rfl rfl) hT ?_
  refine D.va 8 rfl (by kernel_rfl) (fun _ _ _ h => h) rfl (fun w' hw => X.nilCheck rfl) hT ?_
  rw [e2]
  refine D.one 9 (by kernel_rfl) rfl ?_
  refine L.store rfl rfl (by conv => lhs; whnf) rfl sz_329 (hT) (by first | decide | exact Nat.le_of_ble_eq_true rfl) ?_
  intro w4 hk4 hg4 hs4
  refine L.nil ?_
  refine ⟨fun h => absurd rfl h, ?_⟩
  have hk4 : Blk w4 rb 329 #[.int .u64 (x2 : Int)] := hk4
  refine D.done (by kernel_rfl) ?_
  refine J.seq ?_
  refine J.draw (ℓ := 9) (S := (fun w' => Blk w' rb 329 #[.int .u64 (x2 : Int)])) mixed (fun w5 hUE hU_h => ?_)
  have hU : ((fun w' => Blk w' rb 329 #[.int .u64 (x2 : Int)])) w5 := hk4.ext hUE
  have g5 : w.grownBy w5 (some rb) := grb_trans (grb_trans g3 hg4) (grown_ext hUE)
  refine D.va 0 rfl (by kernel_rfl) (fun _ _ _ h => h) rfl (fun w' hw => X.move (by conv => lhs; whnf)) hU ?_
  refine D.va 1 rfl (by kernel_rfl) (fun _ _ _ h => h) rfl (fun w' hw => X.nilCheck rfl) hU ?_
  refine D.va 2 rfl (by kernel_rfl) (fun _ _ _ h => h) rfl (fun w' hw => X.load rfl sc_329 (by first | exact Ld.blk hw rfl)) hU ?_
  refine D.va 3 rfl (by kernel_rfl) (fun _ _ _ h => h) rfl (fun w' hw => X.move (by conv => lhs; whnf)) hU ?_
  refine D.va 4 rfl (by kernel_rfl) (fun _ _ _ h => h) rfl (fun w' hw => X.nilCheck rfl) hU ?_
  refine D.va 5 rfl (by kernel_rfl) (fun _ _ _ h => h) rfl (fun w' hw => X.load rfl sc_329 (by first | exact Ld.blk hw rfl)) hU ?_
  refine D.va 6 rfl (by kernel_rfl) (fun _ _ _ h => h) rfl (fun w' hw => X.shl rfl rfl (by omega)) hU ?_
  refine D.va 7 rfl (by kernel_rfl) (fun _ _ _ h => h) rfl (fun w' hw => X.xor rfl rfl) hU ?_
  refine D.va 8 rfl (by kernel_rfl) (fun _ _ _ h => h) rfl (fun w' hw => X.nilCheck rfl) hU ?_
  rw [e3]
  refine D.one 9 (by kernel_rfl) rfl ?_
  refine L.store rfl rfl (by conv => lhs; whnf) rfl sz_329 (hU) (by first | decide | exact Nat.le_of_ble_eq_true rfl) ?_
  intro w6 hk6 hg6 hs6
  refine L.nil ?_
  refine ⟨fun h => absurd rfl h, ?_⟩
  have hk6 : Blk w6 rb 329 #[.int .u64 (x3 : Int)] := hk6
  refine D.done (by kernel_rfl) ?_
  refine J.seq ?_
  refine J.region ?_
  refine L.va rfl (X.move (by conv => lhs; whnf)) ?_
  refine L.va rfl (X.nilCheck rfl) ?_
  refine L.va rfl (X.load rfl sc_329 (by first | exact Ld.blk hk6 rfl)) ?_
  refine L.va rfl (X.assign (by conv => lhs; whnf)) ?_
  refine L.nil ?_
  refine J.ret ?_
  refine fin1 ?_
  exact ⟨x3, rfl, h3, hk6, grb_trans g5 hg6⟩
end Go.Proofs.Ytlipeplfjkgamaa
namespace Go.Proofs.Ytlipeplfjkgamaa
set_option maxRecDepth 100000
open Go.RowKit H
open Srt
set_option linter.unusedVariables false
theorem grb_newI {a b c : World} {r : Option Nat} {g : Nat} (h : a.grownBy b r) (k : b.grownBy c (some g)) (hg : a.heap.size ≤ g) : a.grownBy c r :=
  ⟨k.os.trans h.os, k.tape.trans h.tape, k.output.trans h.output, Nat.le_trans h.size k.size, fun i hi hne => (k.block i (Nat.lt_of_lt_of_le hi h.size) (fun e => by injection e with e; omega)).trans (h.block i hi hne)⟩
theorem X.andEI {P : Program} {w : World} {f : Operand → Value} {x y : Operand} {d : Option Tmp} {tx tz ty : TypeId} {pos : String} {aft : Array Edge} {g : Option (Nat × Bool)} {k : IntKind} {m n z : Int} (hx : f x = .int k m) (hy : f y = .int k n) (h : bits .and k m n = z) : (execOp f ⟨d, .binOp .and tx x y tz, ty, pos, aft, g⟩).run P w = .ok (.value (.int k z)) w := by
  have := X.and (P := P) (w := w) (d := d) (tx := tx) (tz := tz) (ty := ty) (pos := pos) (aft := aft) (g := g) hx hy
  rw [h] at this
  exact this
theorem breakpI (A : Option Addr) (n c N a h : Nat) (l : List Int) (w : World) (ho : w.ownsRow N 3 1 (.slice A n c) n (nums .i64 l)) (hf : a + h ≤ n) (hn : n ≤ 900000) (h0 : 12 < h) :
    Calls Try.prog 289 #[.slice A n c, .int .i64 (a : Int), .int .i64 ((a + h : Nat) : Int)] w fun e w' => e = .returned (.tuple #[]) ∧ ∃ l', SwI w w' A n c N a (a + h) l l' := by
  have hl : l.length = n := by have := ho.1; simpa [nums] using this
  have eh : ((a + h : Nat) : Int) - (a : Int) = (h : Int) := by omega
  refine enter Try.func289 rfl (by kernel_rfl) ?_
  refine J.seq ?_
  refine J.region ?_
  refine L.va rfl (X.move (by conv => lhs; whnf)) ?_
  refine L.va rfl (X.move (by conv => lhs; whnf)) ?_
  refine L.va rfl (X.sub rfl rfl (by omega)) ?_
  refine L.va rfl (X.assign (by conv => lhs; whnf)) ?_
  refine L.nil ?_
  rw [eh]
  refine J.seq ?_
  refine J.region ?_
  refine L.va rfl (X.move (by conv => lhs; whnf)) ?_
  refine L.va rfl (X.geq rfl rfl) ?_
  refine L.nil ?_
  refine J.decT rfl (by omega) ?_
  refine J.seq ?_
  refine J.region ?_
  refine L.va rfl (X.move (by conv => lhs; whnf)) ?_
  refine L.va rfl ((by first | exact X.convU rfl is_3 Try.underlying329 (by omega) | exact X.convw rfl is_3 Try.underlying329)) ?_
  refine L.alloc rfl zr_329 ?_
  intro b7 w1 hb7 hs7 hk7 he1
  have ho1 := ho.ext he1
  have hne1 : Value.ownBlock (.slice A n c) ≠ some b7 := fun e => by have := (ho.lt b7 e).2; omega
  refine L.store rfl rfl (by conv => lhs; whnf) rfl sz_329 (hk7) (by first | decide | exact Nat.le_of_ble_eq_true rfl) ?_
  intro w2 hk2 hg2 hs2
  have hk2 : Blk w2 b7 329 #[.int .u64 (h : Int)] := hk2
  have ho2 := ho1.kept hg2 (.inr hne1)
  have g2 : w.grownBy w2 (Value.ownBlock (.slice A n c)) := grb_newI (grown_ext he1) hg2 (by omega)
  refine L.nil ?_
  refine J.seq ?_
  refine J.region ?_
  refine L.va rfl (X.move (by conv => lhs; whnf)) ?_
  refine L.call rfl en_281 rfl (nextp h w2 (by omega) (by omega)) ?_
  rintro e _ ⟨m, rfl, hm0, hm, rfl⟩
  refine ⟨_, rfl, ?_⟩
  have hwb : w.heap.size ≤ b7 := by omega
  refine L.va rfl (X.assign (by conv => lhs; whnf)) ?_
  refine L.nil ?_
  refine J.seq ?_
  refine J.region ?_
  refine L.va rfl (X.move (by conv => lhs; whnf)) ?_
  refine L.va rfl (X.move (by conv => lhs; whnf)) ?_
  refine L.va rfl (X.quo rfl rfl (by omega)) ?_
  refine L.va rfl (X.mul rfl rfl (by omega)) ?_
  refine L.va rfl (X.add rfl rfl (by omega)) ?_
  refine L.va rfl (X.sub rfl rfl (by omega)) ?_
  refine L.va rfl (X.assign (by conv => lhs; whnf)) ?_
  refine L.nil ?_
  refine J.block ?_
  refine J.loop (X := Int × Nat × List Int) [9, 10, 26, 27, 28, 29, 30, 31, 32, 33, 34, 35, 36, 37, 38, 39, 40, 41, 42, 43, 44, 45, 46, 47, 48, 49, 50, 51, 52, 53, 54, 55, 56, 57, 58, 59, 60, 61, 62, 63, 64] (fun (i, x, m) => [(9, .int .i64 i)]) (fun (i, x, m) w' => (a : Int) ≤ i ∧ i ≤ a + h / 4 * 2 + 2 ∧ x < 18446744073709551616 ∧ Blk w' b7 329 #[.int .u64 (x : Int)] ∧ SwI w w' A n c N a (a + h) l m) (fun (i, _) => ((a : Int) + h / 4 * 2 + 2 - i).toNat) (((a : Int) + h / 4 * 2 - 1, h, l)) (At1 (by first | rfl | exact at_int rfl (by omega) | exact at_slice rfl (by omega) | exact at_int rfl (by simp))) ?_ ?_
  · exact ⟨by omega, by omega, by omega, hk2, ⟨ho2, g2, .refl _⟩⟩
  · rintro ⟨i, x, q⟩ g w3 ⟨h1, h2, hx, hk, M⟩
    have hml : q.length = n := by rw [M.p.len, hl]
    refine J.seq ?_
    refine J.seq ?_
    refine J.region ?_
    refine L.va rfl (X.move (by conv => lhs; whnf)) ?_
    refine L.va rfl (X.move (by conv => lhs; whnf)) ?_
    refine L.va rfl (X.move (by conv => lhs; whnf)) ?_
    refine L.va rfl (X.quo rfl rfl (by omega)) ?_
    refine L.va rfl (X.mul rfl rfl (by omega)) ?_
    refine L.va rfl (X.add rfl rfl (by omega)) ?_
    refine L.va rfl (X.add rfl rfl (by omega)) ?_
    refine L.va rfl (X.leq rfl rfl) ?_
    refine L.nil ?_
    refine J.dec rfl (fun hle => ?_) (fun hle => ?_)
    · refine J.skip ?_
      refine J.seq ?_
      refine J.block ?_
      refine J.seq ?_
      refine J.region ?_
      refine L.call rfl en_282 rfl (xnext b7 x w3 hk hx) ?_
      rintro e w4 ⟨y, rfl, hy, hk4, hg4⟩
      refine ⟨_, rfl, ?_⟩
      have ho4 := M.o.kept hg4 (.inr hne1)
      have g4 := grb_newI M.g hg4 hwb
      have hand : y &&& (m - 1) ≤ m - 1 := Nat.and_le_right
      obtain ⟨i', rfl⟩ : ∃ i' : Nat, i = (i' : Int) := ⟨i.toNat, by omega⟩
      have hA := (Reads.of_own ho4).some_ (by omega)
      refine L.va rfl (X.move (by conv => lhs; whnf)) ?_
      refine L.va rfl (X.subU rfl rfl (by omega)) ?_
      refine L.va rfl (X.andEI (z := ((y &&& (m - 1) : Nat) : Int)) rfl rfl (by rw [show ((m : Int) - 1) = ((m - 1 : Nat) : Int) by omega]; exact u64_and_nat y (m - 1) hy (by omega))) ?_
      refine L.va rfl ((by first | exact X.convI rfl is_255 Try.underlying3 (by omega) | exact X.convw rfl is_255 Try.underlying3)) ?_
      refine L.va rfl (X.assign (by conv => lhs; whnf)) ?_
      refine L.nil ?_
      refine J.cut (X := Nat) [10, 41, 42, 43, 44, 45, 46] (fun o => [(10, .int .i64 (o : Int))]) (fun o w' => w' = w4 ∧ o < h) ?_ ?_
      · refine J.seq ?_
        refine J.region ?_
        refine L.va rfl (X.move (by conv => lhs; whnf)) ?_
        refine L.va rfl (X.move (by conv => lhs; whnf)) ?_
        refine L.va rfl (X.geq rfl rfl) ?_
        refine L.nil ?_
        refine J.dec rfl (fun hge => ?_) (fun hge => ?_)
        · refine J.region ?_
          refine L.va rfl (X.move (by conv => lhs; whnf)) ?_
          refine L.va rfl (X.move (by conv => lhs; whnf)) ?_
          refine L.va rfl (X.sub rfl rfl (by omega)) ?_
          refine L.va rfl (X.assign (by conv => lhs; whnf)) ?_
          refine L.nil ?_
          refine ⟨(y &&& (m - 1)) - h, At1 (by first | rfl | exact at_int rfl (by omega) | exact at_slice rfl (by omega) | exact at_int rfl (by simp)), (by (iterate 7 refine Agr.lk rfl ?_); exact Agr.rfl'), ?_⟩
          exact ⟨rfl, by omega⟩
        · refine J.skip ?_
          refine ⟨y &&& (m - 1), At1 (by first | rfl | exact at_int rfl (by omega) | exact at_slice rfl (by omega) | exact at_int rfl (by simp)), (by (iterate 3 refine Agr.lk rfl ?_); exact Agr.rfl'), ?_⟩
          exact ⟨rfl, by omega⟩
      · rintro o g w4' ⟨rfl, ho'⟩
        refine J.draw (ℓ := 1000000) (S := (fun _ => True)) mixed (fun w5d hSE hS_h => ?_)
        have hS : ((fun _ => True)) w5d := trivial
        have hrw5 := (Reads.of_own ho4).ext hSE
        have hoX := ho4.ext hSE
        have hG : w4'.grownBy w5d (Value.ownBlock (.slice A n c)) := grown_ext hSE
        refine D.va 0 rfl (by kernel_rfl) (fun _ _ _ h => h) rfl (fun w' hw => X.move (by conv => lhs; whnf)) hS ?_
        refine D.va 1 rfl (by kernel_rfl) (fun _ _ _ h => h) rfl (fun w' hw => X.move (by conv => lhs; whnf)) hS ?_
        refine D.va 2 rfl (by kernel_rfl) (fun _ _ _ h => h) rfl (fun w' hw => X.move (by conv => lhs; whnf)) hS ?_
        refine D.va 3 rfl (by kernel_rfl) (fun _ _ _ h => h) rfl (fun w' hw => X.move (by conv => lhs; whnf)) hS ?_
        refine D.va 4 rfl (by kernel_rfl) (fun _ _ _ h => h) rfl (fun w' hw => X.move (by conv => lhs; whnf)) hS ?_
        refine D.va 5 rfl (by kernel_rfl) (fun _ _ _ h => h) rfl (fun w' hw => X.add rfl rfl (by omega)) hS ?_
        refine D.va 6 rfl (by kernel_rfl) (fun _ _ _ h => h) rfl (fun w' hw => X.move (by conv => lhs; whnf)) hS ?_
        refine D.va 7 rfl (by kernel_rfl) (fun _ _ _ h => h) rfl (fun w' hw => X.move (by conv => lhs; whnf)) hS ?_
        refine D.va 8 rfl (by kernel_rfl) (fun _ _ _ h => h) rfl (fun w' hw => X.move (by conv => lhs; whnf)) hS ?_
        refine D.va 9 rfl (by kernel_rfl) (fun _ _ _ h => h) rfl (fun w' hw => X.add rfl rfl (by omega)) hS ?_
        refine D.va 10 rfl (by kernel_rfl) (fun _ _ _ h => h) rfl (fun w' hw => (by first | exact X.index1n rfl rfl Try.underlying23 sz_3 (by first | exact Option.some_ne_none _ | exact hA) (by omega) | exact X.index1 rfl rfl Try.underlying23 sz_3 (by first | exact Option.some_ne_none _ | exact hA) (by omega))) hS ?_
        refine D.va 12 rfl (by kernel_rfl) (fun _ _ _ h => h) rfl (fun w' hw => X.move (by conv => lhs; whnf)) hS ?_
        refine D.va 13 rfl (by kernel_rfl) (fun _ _ _ h => h) rfl (fun w' hw => X.move (by conv => lhs; whnf)) hS ?_
        refine D.va 14 rfl (by kernel_rfl) (fun _ _ _ h => h) rfl (fun w' hw => (by first | exact X.index1n rfl rfl Try.underlying23 sz_3 (by first | exact Option.some_ne_none _ | exact hA) (by omega) | exact X.index1 rfl rfl Try.underlying23 sz_3 (by first | exact Option.some_ne_none _ | exact hA) (by omega))) hS ?_
        refine D.two 11 15 (by kernel_rfl) rfl rfl ?_ ?_
        · refine L.va rfl (X.load rfl sc_3 (Ld.num hrw5 (j := a + o) (by omega))) ?_
          refine L.nil ?_
          refine ⟨fun _ => hS, ?_⟩
          refine D.one 15 (by kernel_rfl) rfl ?_
          refine L.va rfl (X.load rfl sc_3 (Ld.num hrw5 (j := i') (by omega))) ?_
          refine L.nil ?_
          refine ⟨fun _ => hS, ?_⟩
          refine D.va 16 rfl (by kernel_rfl) (fun _ _ _ h => h) rfl (fun w' hw => (by first | exact X.index1n rfl rfl Try.underlying23 sz_3 (by first | exact Option.some_ne_none _ | exact hA) (by omega) | exact X.index1 rfl rfl Try.underlying23 sz_3 (by first | exact Option.some_ne_none _ | exact hA) (by omega))) hS ?_
          refine D.one 17 (by kernel_rfl) rfl ?_
          refine L.storeON rfl rfl (by conv => lhs; whnf) sz_3 (hoX) (by omega) ?_
          intro w5 hoX hg2 hb2 hs2
          have hS1 := trivial
          refine L.nil ?_
          refine ⟨fun _ => hS1, ?_⟩
          replace hG := grb_trans hG hg2
          refine D.va 18 rfl (by kernel_rfl) (fun _ _ _ h => h) rfl (fun w' hw => (by first | exact X.index1n rfl rfl Try.underlying23 sz_3 (by first | exact Option.some_ne_none _ | exact hA) (by omega) | exact X.index1 rfl rfl Try.underlying23 sz_3 (by first | exact Option.some_ne_none _ | exact hA) (by omega))) hS1 ?_
          refine D.one 19 (by kernel_rfl) rfl ?_
          refine L.storeON rfl rfl (by conv => lhs; whnf) sz_3 (hoX) (by omega) ?_
          intro w5 hoX hg2 hb2 hs2
          have hS2 := trivial
          refine L.nil ?_
          refine ⟨fun _ => hS2, ?_⟩
          replace hG := grb_trans hG hg2
          refine D.done (by kernel_rfl) ?_
          refine J.region ?_
          refine L.va rfl (X.move (by conv => lhs; whnf)) ?_
          refine L.va rfl (X.add rfl rfl (by omega)) ?_
          refine L.va rfl (X.assign (by conv => lhs; whnf)) ?_
          refine L.nil ?_
          have hk5 : Blk w5 b7 329 #[.int .u64 (y : Int)] := hk4.grown hG hne1.symm
          refine ⟨((i' : Int) + 1, y, swp q i' (a + o)), At1 (by first | rfl | exact at_int rfl (by omega) | exact at_slice rfl (by omega) | exact at_int rfl (by simp)), (by (iterate 21 refine Agr.lk rfl ?_); refine Agr.lk rfl ?_; refine Agr.hav rfl ?_; (iterate 14 refine Agr.lk rfl ?_); exact Agr.lk rfl (Agr.hav rfl Agr.rfl')), ?_⟩
          exact ⟨⟨by omega, by omega, hy, hk5, ⟨hoX, grb_trans g4 hG, .step M.p ⟨by omega, by omega⟩ ⟨by omega, by omega⟩ (by omega)⟩⟩, by show ((a : Int) + h / 4 * 2 + 2 - ((i' : Int) + 1)).toNat < ((a : Int) + h / 4 * 2 + 2 - (i' : Int)).toNat; omega⟩
        · refine L.va rfl (X.load rfl sc_3 (Ld.num hrw5 (j := i') (by omega))) ?_
          refine L.nil ?_
          refine ⟨fun _ => hS, ?_⟩
          refine D.one 11 (by kernel_rfl) rfl ?_
          refine L.va rfl (X.load rfl sc_3 (Ld.num hrw5 (j := a + o) (by omega))) ?_
          refine L.nil ?_
          refine ⟨fun _ => hS, ?_⟩
          refine D.va 16 rfl (by kernel_rfl) (fun _ _ _ h => h) rfl (fun w' hw => (by first | exact X.index1n rfl rfl Try.underlying23 sz_3 (by first | exact Option.some_ne_none _ | exact hA) (by omega) | exact X.index1 rfl rfl Try.underlying23 sz_3 (by first | exact Option.some_ne_none _ | exact hA) (by omega))) hS ?_
          refine D.one 17 (by kernel_rfl) rfl ?_
          refine L.storeON rfl rfl (by conv => lhs; whnf) sz_3 (hoX) (by omega) ?_
          intro w5 hoX hg2 hb2 hs2
          have hS1 := trivial
          refine L.nil ?_
          refine ⟨fun _ => hS1, ?_⟩
          replace hG := grb_trans hG hg2
          refine D.va 18 rfl (by kernel_rfl) (fun _ _ _ h => h) rfl (fun w' hw => (by first | exact X.index1n rfl rfl Try.underlying23 sz_3 (by first | exact Option.some_ne_none _ | exact hA) (by omega) | exact X.index1 rfl rfl Try.underlying23 sz_3 (by first | exact Option.some_ne_none _ | exact hA) (by omega))) hS1 ?_
          refine D.one 19 (by kernel_rfl) rfl ?_
          refine L.storeON rfl rfl (by conv => lhs; whnf) sz_3 (hoX) (by omega) ?_
          intro w5 hoX hg2 hb2 hs2
          have hS2 := trivial
          refine L.nil ?_
          refine ⟨fun _ => hS2, ?_⟩
          replace hG := grb_trans hG hg2
          refine D.done (by kernel_rfl) ?_
          refine J.region ?_
          refine L.va rfl (X.move (by conv => lhs; whnf)) ?_
          refine L.va rfl (X.add rfl rfl (by omega)) ?_
          refine L.va rfl (X.assign (by conv => lhs; whnf)) ?_
          refine L.nil ?_
          have hk5 : Blk w5 b7 329 #[.int .u64 (y : Int)] := hk4.grown hG hne1.symm
          refine ⟨((i' : Int) + 1, y, swp q i' (a + o)), At1 (by first | rfl | exact at_int rfl (by omega) | exact at_slice rfl (by omega) | exact at_int rfl (by simp)), (by (iterate 21 refine Agr.lk rfl ?_); refine Agr.lk rfl ?_; refine Agr.hav rfl ?_; (iterate 14 refine Agr.lk rfl ?_); exact Agr.lk rfl (Agr.hav rfl Agr.rfl')), ?_⟩
          exact ⟨⟨by omega, by omega, hy, hk5, ⟨hoX, grb_trans g4 hG, .step M.p ⟨by omega, by omega⟩ ⟨by omega, by omega⟩ (by omega)⟩⟩, by show ((a : Int) + h / 4 * 2 + 2 - ((i' : Int) + 1)).toNat < ((a : Int) + h / 4 * 2 + 2 - (i' : Int)).toNat; omega⟩
    · refine J.exit ?_
      refine thn_exit <| thn_exit <| inB_eq ?_
      refine fin0 (.inr rfl) ?_
      exact ⟨rfl, q, M⟩
theorem reverseI (A : Option Addr) (n c N a h : Nat) (l : List Int) (w : World) (ho : w.ownsRow N 3 1 (.slice A n c) n (nums .i64 l)) (hf : a + h ≤ n) (hn : n ≤ 900000) (h0 : 0 < h) :
    Calls Try.prog 291 #[.slice A n c, .int .i64 (a : Int), .int .i64 ((a + h : Nat) : Int)] w fun e w' => e = .returned (.tuple #[]) ∧ ∃ l', SwI w w' A n c N a (a + h) l l' := by
  have hl : l.length = n := by have := ho.1; simpa [nums] using this
  refine enter Try.func291 rfl (by kernel_rfl) ?_
  refine J.seq ?_
  refine J.region ?_
  refine L.va rfl (X.move (by conv => lhs; whnf)) ?_
  refine L.va rfl (X.assign (by conv => lhs; whnf)) ?_
  refine L.nil ?_
  refine J.seq ?_
  refine J.region ?_
  refine L.va rfl (X.move (by conv => lhs; whnf)) ?_
  refine L.va rfl (X.sub rfl rfl (by omega)) ?_
  refine L.va rfl (X.assign (by conv => lhs; whnf)) ?_
  refine L.nil ?_
  refine J.block ?_
  refine J.loop (X := Nat × Int × List Int) [6, 7, 11, 12, 13, 14, 15, 16, 17, 18, 19, 20, 21, 22, 23, 24, 25, 26, 27, 28, 29, 30, 31] (fun (i, j, m) => [(6, .int .i64 (i : Int)), (7, .int .i64 j)]) (fun (i, j, m) w' => a ≤ i ∧ i ≤ a + h ∧ j < a + h ∧ (a : Int) - 1 ≤ j ∧ SwI w w' A n c N a (a + h) l m) (fun (i, _) => a + h - i) ((a, ((a + h : Nat) : Int) - 1, l)) (At2 (by first | rfl | exact at_int rfl (by omega) | exact at_slice rfl (by omega) | exact at_int rfl (by simp)) (by first | rfl | exact at_int rfl (by omega) | exact at_slice rfl (by omega) | exact at_int rfl (by simp))) ?_ ?_
  · exact ⟨Nat.le_refl _, by omega, by omega, by omega, ⟨ho, grown_ext (Ext.refl _), .refl _⟩⟩
  · rintro ⟨i, j, m⟩ g w2 ⟨h1, h2, h3, h4, M⟩
    have hml : m.length = n := by rw [M.p.len, hl]
    refine J.seq ?_
    refine J.seq ?_
    refine J.region ?_
    refine L.va rfl (X.move (by conv => lhs; whnf)) ?_
    refine L.va rfl (X.move (by conv => lhs; whnf)) ?_
    refine L.va rfl (X.lss rfl rfl) ?_
    refine L.nil ?_
    refine J.dec rfl (fun hlt => ?_) (fun hlt => ?_)
    · obtain ⟨k, rfl⟩ : ∃ k : Nat, j = (k : Int) := ⟨j.toNat, by omega⟩
      have ho2 := M.o
      have hA := (Reads.of_own ho2).some_ (by omega)
      refine J.skip ?_
      refine J.block ?_
      refine J.seq ?_
      refine J.draw (ℓ := 1000000) (S := (fun _ => True)) mixed (fun w5d hSE hS_h => ?_)
      have hS : ((fun _ => True)) w5d := trivial
      have hrw5 := (Reads.of_own ho2).ext hSE
      have hoX := ho2.ext hSE
      have hG : w2.grownBy w5d (Value.ownBlock (.slice A n c)) := grown_ext hSE
      refine D.va 0 rfl (by kernel_rfl) (fun _ _ _ h => h) rfl (fun w' hw => X.move (by conv => lhs; whnf)) hS ?_
      refine D.va 1 rfl (by kernel_rfl) (fun _ _ _ h => h) rfl (fun w' hw => X.move (by conv => lhs; whnf)) hS ?_
      refine D.va 2 rfl (by kernel_rfl) (fun _ _ _ h => h) rfl (fun w' hw => X.move (by conv => lhs; whnf)) hS ?_
      refine D.va 3 rfl (by kernel_rfl) (fun _ _ _ h => h) rfl (fun w' hw => X.move (by conv => lhs; whnf)) hS ?_
      refine D.va 4 rfl (by kernel_rfl) (fun _ _ _ h => h) rfl (fun w' hw => X.move (by conv => lhs; whnf)) hS ?_
      refine D.va 5 rfl (by kernel_rfl) (fun _ _ _ h => h) rfl (fun w' hw => X.move (by conv => lhs; whnf)) hS ?_
      refine D.va 6 rfl (by kernel_rfl) (fun _ _ _ h => h) rfl (fun w' hw => (by first | exact X.index1n rfl rfl Try.underlying23 sz_3 (by first | exact Option.some_ne_none _ | exact hA) (by omega) | exact X.index1 rfl rfl Try.underlying23 sz_3 (by first | exact Option.some_ne_none _ | exact hA) (by omega))) hS ?_
      refine D.va 8 rfl (by kernel_rfl) (fun _ _ _ h => h) rfl (fun w' hw => X.move (by conv => lhs; whnf)) hS ?_
      refine D.va 9 rfl (by kernel_rfl) (fun _ _ _ h => h) rfl (fun w' hw => X.move (by conv => lhs; whnf)) hS ?_
      refine D.va 10 rfl (by kernel_rfl) (fun _ _ _ h => h) rfl (fun w' hw => (by first | exact X.index1n rfl rfl Try.underlying23 sz_3 (by first | exact Option.some_ne_none _ | exact hA) (by omega) | exact X.index1 rfl rfl Try.underlying23 sz_3 (by first | exact Option.some_ne_none _ | exact hA) (by omega))) hS ?_
      refine D.two 7 11 (by kernel_rfl) rfl rfl ?_ ?_
      · refine L.va rfl (X.load rfl sc_3 (Ld.num hrw5 (j := k) (by omega))) ?_
        refine L.nil ?_
        refine ⟨fun _ => hS, ?_⟩
        refine D.one 11 (by kernel_rfl) rfl ?_
        refine L.va rfl (X.load rfl sc_3 (Ld.num hrw5 (j := i) (by omega))) ?_
        refine L.nil ?_
        refine ⟨fun _ => hS, ?_⟩
        refine D.va 12 rfl (by kernel_rfl) (fun _ _ _ h => h) rfl (fun w' hw => (by first | exact X.index1n rfl rfl Try.underlying23 sz_3 (by first | exact Option.some_ne_none _ | exact hA) (by omega) | exact X.index1 rfl rfl Try.underlying23 sz_3 (by first | exact Option.some_ne_none _ | exact hA) (by omega))) hS ?_
        refine D.one 13 (by kernel_rfl) rfl ?_
        refine L.storeON rfl rfl (by conv => lhs; whnf) sz_3 (hoX) (by omega) ?_
        intro w5 hoX hg2 hb2 hs2
        have hS1 := trivial
        refine L.nil ?_
        refine ⟨fun _ => hS1, ?_⟩
        replace hG := grb_trans hG hg2
        refine D.va 14 rfl (by kernel_rfl) (fun _ _ _ h => h) rfl (fun w' hw => (by first | exact X.index1n rfl rfl Try.underlying23 sz_3 (by first | exact Option.some_ne_none _ | exact hA) (by omega) | exact X.index1 rfl rfl Try.underlying23 sz_3 (by first | exact Option.some_ne_none _ | exact hA) (by omega))) hS1 ?_
        refine D.one 15 (by kernel_rfl) rfl ?_
        refine L.storeON rfl rfl (by conv => lhs; whnf) sz_3 (hoX) (by omega) ?_
        intro w5 hoX hg2 hb2 hs2
        have hS2 := trivial
        refine L.nil ?_
        refine ⟨fun _ => hS2, ?_⟩
        replace hG := grb_trans hG hg2
        refine D.done (by kernel_rfl) ?_
        refine J.seq ?_
        refine J.region ?_
        refine L.va rfl (X.move (by conv => lhs; whnf)) ?_
        refine L.va rfl (X.add rfl rfl (by omega)) ?_
        refine L.va rfl (X.assign (by conv => lhs; whnf)) ?_
        refine L.nil ?_
        refine J.region ?_
        refine L.va rfl (X.move (by conv => lhs; whnf)) ?_
        refine L.va rfl (X.sub rfl rfl (by omega)) ?_
        refine L.va rfl (X.assign (by conv => lhs; whnf)) ?_
        refine L.nil ?_
        refine ⟨(i + 1, (k : Int) - 1, swp m i k), At2 (by first | rfl | exact at_int rfl (by omega) | exact at_slice rfl (by omega) | exact at_int rfl (by simp)) (by first | rfl | exact at_int rfl (by omega) | exact at_slice rfl (by omega) | exact at_int rfl (by simp)), (by (iterate 23 refine Agr.lk rfl ?_); exact Agr.lk rfl (Agr.hav rfl Agr.rfl')), ?_⟩
        exact ⟨⟨by omega, by omega, by omega, by omega, ⟨hoX, grb_trans M.g hG, .step M.p ⟨by omega, by omega⟩ ⟨by omega, by omega⟩ (by omega)⟩⟩, by show a + h - (i + 1) < a + h - i; omega⟩
      · refine L.va rfl (X.load rfl sc_3 (Ld.num hrw5 (j := i) (by omega))) ?_
        refine L.nil ?_
        refine ⟨fun _ => hS, ?_⟩
        refine D.one 7 (by kernel_rfl) rfl ?_
        refine L.va rfl (X.load rfl sc_3 (Ld.num hrw5 (j := k) (by omega))) ?_
        refine L.nil ?_
        refine ⟨fun _ => hS, ?_⟩
        refine D.va 12 rfl (by kernel_rfl) (fun _ _ _ h => h) rfl (fun w' hw => (by first | exact X.index1n rfl rfl Try.underlying23 sz_3 (by first | exact Option.some_ne_none _ | exact hA) (by omega) | exact X.index1 rfl rfl Try.underlying23 sz_3 (by first | exact Option.some_ne_none _ | exact hA) (by omega))) hS ?_
        refine D.one 13 (by kernel_rfl) rfl ?_
        refine L.storeON rfl rfl (by conv => lhs; whnf) sz_3 (hoX) (by omega) ?_
        intro w5 hoX hg2 hb2 hs2
        have hS1 := trivial
        refine L.nil ?_
        refine ⟨fun _ => hS1, ?_⟩
        replace hG := grb_trans hG hg2
        refine D.va 14 rfl (by kernel_rfl) (fun _ _ _ h => h) rfl (fun w' hw => (by first | exact X.index1n rfl rfl Try.underlying23 sz_3 (by first | exact Option.some_ne_none _ | exact hA) (by omega) | exact X.index1 rfl rfl Try.underlying23 sz_3 (by first | exact Option.some_ne_none _ | exact hA) (by omega))) hS1 ?_
        refine D.one 15 (by kernel_rfl) rfl ?_
        refine L.storeON rfl rfl (by conv => lhs; whnf) sz_3 (hoX) (by omega) ?_
        intro w5 hoX hg2 hb2 hs2
        have hS2 := trivial
        refine L.nil ?_
        refine ⟨fun _ => hS2, ?_⟩
        replace hG := grb_trans hG hg2
        refine D.done (by kernel_rfl) ?_
        refine J.seq ?_
        refine J.region ?_
        refine L.va rfl (X.move (by conv => lhs; whnf)) ?_
        refine L.va rfl (X.add rfl rfl (by omega)) ?_
        refine L.va rfl (X.assign (by conv => lhs; whnf)) ?_
        refine L.nil ?_
        refine J.region ?_
        refine L.va rfl (X.move (by conv => lhs; whnf)) ?_
        refine L.va rfl (X.sub rfl rfl (by omega)) ?_
        refine L.va rfl (X.assign (by conv => lhs; whnf)) ?_
        refine L.nil ?_
        refine ⟨(i + 1, (k : Int) - 1, swp m i k), At2 (by first | rfl | exact at_int rfl (by omega) | exact at_slice rfl (by omega) | exact at_int rfl (by simp)) (by first | rfl | exact at_int rfl (by omega) | exact at_slice rfl (by omega) | exact at_int rfl (by simp)), (by (iterate 23 refine Agr.lk rfl ?_); exact Agr.lk rfl (Agr.hav rfl Agr.rfl')), ?_⟩
        exact ⟨⟨by omega, by omega, by omega, by omega, ⟨hoX, grb_trans M.g hG, .step M.p ⟨by omega, by omega⟩ ⟨by omega, by omega⟩ (by omega)⟩⟩, by show a + h - (i + 1) < a + h - i; omega⟩
    · refine J.exit ?_
      refine thn_exit <| thn_exit <| inB_eq ?_
      refine fin0 (.inr rfl) ?_
      exact ⟨rfl, m, M⟩
theorem order2I (A : Option Addr) (n c a b sb s : Nat) (l : List Int) (w : World) (hr : Reads w sb 1 A n (nums .i64 l)) (hk : Blk w sb 3 #[.int .i64 (s : Int)]) (hs : s ≤ 1000) (ha : a < n) (hb : b < n) (hn : n ≤ 900000) :
    Calls Try.prog 308 #[.slice A n c, .int .i64 (a : Int), .int .i64 (b : Int), .pointer (some ⟨sb, 0, none⟩)] w fun e w' => ∃ x y s' : Nat, e = .returned (.tuple #[.int .i64 (x : Int), .int .i64 (y : Int)]) ∧ (x = a ∨ x = b) ∧ (y = a ∨ y = b) ∧ s' ≤ s + 1 ∧ Blk w' sb 3 #[.int .i64 (s' : Int)] ∧ Reads w' sb 1 A n (nums .i64 l) ∧ w.grownBy w' (some sb) := by
  have hA := hr.some_ (by omega)
  refine enter Try.func308 rfl (by kernel_rfl) ?_
  refine J.seq ?_
  refine J.region ?_
  refine L.va rfl (X.assign (by conv => lhs; whnf)) ?_
  refine L.va rfl (X.assign (by conv => lhs; whnf)) ?_
  refine L.nil ?_
  refine J.seq ?_
  refine J.seq ?_
  refine J.quiet mixed (by kernel_rfl) ?_
  refine Qt.va rfl (fun w' hw => X.move (by conv => lhs; whnf)) ?_
  refine Qt.va rfl (fun w' hw => X.move (by conv => lhs; whnf)) ?_
  refine Qt.va rfl (fun w' hw => (by first | exact X.index1n rfl rfl Try.underlying23 sz_3 (by first | exact Option.some_ne_none _ | exact hr.some_ (by omega) | exact hA) (by omega) | exact X.index1 rfl rfl Try.underlying23 sz_3 (by first | exact Option.some_ne_none _ | exact hr.some_ (by omega) | exact hA) (by omega))) ?_
  refine Qt.va rfl (fun w' hw => X.load rfl sc_3 (by first | exact Ld.num (hr.ext hw) (by omega) | exact hA)) ?_
  refine Qt.va rfl (fun w' hw => X.move (by conv => lhs; whnf)) ?_
  refine Qt.va rfl (fun w' hw => X.move (by conv => lhs; whnf)) ?_
  refine Qt.va rfl (fun w' hw => (by first | exact X.index1n rfl rfl Try.underlying23 sz_3 (by first | exact Option.some_ne_none _ | exact hr.some_ (by omega) | exact hA) (by omega) | exact X.index1 rfl rfl Try.underlying23 sz_3 (by first | exact Option.some_ne_none _ | exact hr.some_ (by omega) | exact hA) (by omega))) ?_
  refine Qt.va rfl (fun w' hw => X.load rfl sc_3 (by first | exact Ld.num (hr.ext hw) (by omega) | exact hA)) ?_
  refine Qt.call rfl en_293 rfl (fun w' hw => calls_same hw (clessI (l.getD b 0) (l.getD a 0) w')) ?_
  refine Qt.nil (fun w1 hq => ?_)
  have hk1 := hk.ext hq
  have hr1 := hr.ext hq
  refine J.ite rfl (fun hd => ?_) (fun hd => ?_)
  · skip
    refine J.seq ?_
    refine J.region ?_
    refine L.va rfl (X.move (by conv => lhs; whnf)) ?_
    refine L.va rfl (X.nilCheck rfl) ?_
    refine L.va rfl (X.load rfl sc_3 (by first | exact Ld.blk hk1 rfl | exact hA)) ?_
    refine L.va rfl (X.add rfl rfl (by omega)) ?_
    refine L.va rfl (X.nilCheck rfl) ?_
    refine L.store rfl rfl (by conv => lhs; whnf) rfl sz_3 (hk1) (by first | decide | exact Nat.le_of_ble_eq_true rfl) ?_
    intro w2 hk2 hg2 hs2
    have hk2 : Blk w2 sb 3 #[.int .i64 ((s : Int) + 1)] := hk2
    refine L.nil ?_
    refine J.seq ?_
    refine J.region ?_
    refine L.va rfl (X.move (by conv => lhs; whnf)) ?_
    refine L.va rfl (X.move (by conv => lhs; whnf)) ?_
    refine L.va rfl (X.assign (by conv => lhs; whnf)) ?_
    refine L.va rfl (X.assign (by conv => lhs; whnf)) ?_
    refine L.nil ?_
    refine J.ret ?_
    refine thn_ret <| ?_
    refine fin2 ?_
    exact ⟨b, a, s + 1, rfl, .inr rfl, .inl rfl, Nat.le_refl _, hk2, hr1.grown hg2 (Nat.le_of_lt hk1.lt) (fun g hg => by injection hg with hg; omega), grb_trans (grown_ext hq) hg2⟩
  · refine J.skip ?_
    refine J.seq ?_
    refine J.region ?_
    refine L.va rfl (X.move (by conv => lhs; whnf)) ?_
    refine L.va rfl (X.move (by conv => lhs; whnf)) ?_
    refine L.va rfl (X.assign (by conv => lhs; whnf)) ?_
    refine L.va rfl (X.assign (by conv => lhs; whnf)) ?_
    refine L.nil ?_
    refine J.ret ?_
    refine fin2 ?_
    exact ⟨a, b, s, rfl, .inl rfl, .inr rfl, by omega, hk1, hr1, grown_ext hq⟩
theorem medianI (A : Option Addr) (n c a b d sb s : Nat) (l : List Int) (w : World) (hr : Reads w sb 1 A n (nums .i64 l)) (hk : Blk w sb 3 #[.int .i64 (s : Int)]) (hs : s ≤ 900) (ha : a < n) (hb : b < n) (hd : d < n) (hn : n ≤ 900000) :
    Calls Try.prog 305 #[.slice A n c, .int .i64 (a : Int), .int .i64 (b : Int), .int .i64 (d : Int), .pointer (some ⟨sb, 0, none⟩)] w fun e w' => ∃ x s' : Nat, e = .returned (.int .i64 (x : Int)) ∧ (x = a ∨ x = b ∨ x = d) ∧ s' ≤ s + 3 ∧ Blk w' sb 3 #[.int .i64 (s' : Int)] ∧ Reads w' sb 1 A n (nums .i64 l) ∧ w.grownBy w' (some sb) := by
  refine enter Try.func305 rfl (by kernel_rfl) ?_
  refine J.seq ?_
  refine J.region ?_
  refine L.va rfl (X.assign (by conv => lhs; whnf)) ?_
  refine L.nil ?_
  refine J.seq ?_
  refine J.region ?_
  refine L.va rfl (X.move (by conv => lhs; whnf)) ?_
  refine L.va rfl (X.move (by conv => lhs; whnf)) ?_
  refine L.va rfl (X.move (by conv => lhs; whnf)) ?_
  refine L.va rfl (X.move (by conv => lhs; whnf)) ?_
  refine L.call rfl en_308 rfl (order2I A n c a b sb s l w hr hk (by omega) ha hb hn) ?_
  rintro e w1 ⟨x1, y1, s1, rfl, hx1, hy1, hs1, hk1, hr1, hg1⟩
  refine ⟨_, rfl, ?_⟩
  refine L.va rfl (X.move (by conv => lhs; whnf)) ?_
  refine L.va rfl (X.extract rfl rfl) ?_
  refine L.va rfl (X.extract rfl rfl) ?_
  refine L.va rfl (X.assign (by conv => lhs; whnf)) ?_
  refine L.va rfl (X.assign (by conv => lhs; whnf)) ?_
  refine L.nil ?_
  refine J.seq ?_
  refine J.region ?_
  refine L.va rfl (X.move (by conv => lhs; whnf)) ?_
  refine L.va rfl (X.move (by conv => lhs; whnf)) ?_
  refine L.va rfl (X.move (by conv => lhs; whnf)) ?_
  refine L.va rfl (X.move (by conv => lhs; whnf)) ?_
  refine L.call rfl en_308 rfl (order2I A n c y1 d sb s1 l w1 hr1 hk1 (by omega) (by omega) hd hn) ?_
  rintro e w2 ⟨x2, y2, s2, rfl, hx2, hy2, hs2, hk2, hr2, hg2⟩
  refine ⟨_, rfl, ?_⟩
  refine L.va rfl (X.move (by conv => lhs; whnf)) ?_
  refine L.va rfl (X.extract rfl rfl) ?_
  refine L.va rfl (X.extract rfl rfl) ?_
  refine L.va rfl (X.assign (by conv => lhs; whnf)) ?_
  refine L.va rfl (X.assign (by conv => lhs; whnf)) ?_
  refine L.nil ?_
  refine J.seq ?_
  refine J.region ?_
  refine L.va rfl (X.move (by conv => lhs; whnf)) ?_
  refine L.va rfl (X.move (by conv => lhs; whnf)) ?_
  refine L.va rfl (X.move (by conv => lhs; whnf)) ?_
  refine L.va rfl (X.move (by conv => lhs; whnf)) ?_
  refine L.call rfl en_308 rfl (order2I A n c x1 x2 sb s2 l w2 hr2 hk2 (by omega) (by omega) (by omega) hn) ?_
  rintro e w3 ⟨x3, y3, s3, rfl, hx3, hy3, hs3, hk3, hr3, hg3⟩
  refine ⟨_, rfl, ?_⟩
  refine L.va rfl (X.move (by conv => lhs; whnf)) ?_
  refine L.va rfl (X.extract rfl rfl) ?_
  refine L.va rfl (X.extract rfl rfl) ?_
  refine L.va rfl (X.assign (by conv => lhs; whnf)) ?_
  refine L.va rfl (X.assign (by conv => lhs; whnf)) ?_
  refine L.nil ?_
  refine J.seq ?_
  refine J.region ?_
  refine L.va rfl (X.move (by conv => lhs; whnf)) ?_
  refine L.va rfl (X.assign (by conv => lhs; whnf)) ?_
  refine L.nil ?_
  refine J.ret ?_
  refine fin1 ?_
  exact ⟨y3, s3, rfl, by omega, by omega, hk3, hr3, grb_trans (grb_trans hg1 hg2) hg3⟩
theorem medadjI (A : Option Addr) (n c a sb s : Nat) (l : List Int) (w : World) (hr : Reads w sb 1 A n (nums .i64 l)) (hk : Blk w sb 3 #[.int .i64 (s : Int)]) (hs : s ≤ 900) (ha : a + 2 < n) (hn : n ≤ 900000) :
    Calls Try.prog 304 #[.slice A n c, .int .i64 ((a + 1 : Nat) : Int), .pointer (some ⟨sb, 0, none⟩)] w fun e w' => ∃ x s' : Nat, e = .returned (.int .i64 (x : Int)) ∧ a ≤ x ∧ x ≤ a + 2 ∧ s' ≤ s + 3 ∧ Blk w' sb 3 #[.int .i64 (s' : Int)] ∧ Reads w' sb 1 A n (nums .i64 l) ∧ w.grownBy w' (some sb) := by
  have e1 : ((a + 1 : Nat) : Int) - 1 = (a : Int) := by omega
  have e2 : ((a + 1 : Nat) : Int) + 1 = ((a + 2 : Nat) : Int) := by omega
  have c1 := medianI A n c a (a + 1) (a + 2) sb s l w hr hk hs (by omega) (by omega) (by omega) hn
  rw [← e1, ← e2] at c1
  refine enter Try.func304 rfl (by kernel_rfl) ?_
  refine J.seq ?_
  refine J.region ?_
  refine L.va rfl (X.assign (by conv => lhs; whnf)) ?_
  refine L.nil ?_
  refine J.seq ?_
  refine J.region ?_
  refine L.va rfl (X.move (by conv => lhs; whnf)) ?_
  refine L.va rfl (X.move (by conv => lhs; whnf)) ?_
  refine L.va rfl (X.sub rfl rfl (by omega)) ?_
  refine L.va rfl (X.move (by conv => lhs; whnf)) ?_
  refine L.va rfl (X.move (by conv => lhs; whnf)) ?_
  refine L.va rfl (X.add rfl rfl (by omega)) ?_
  refine L.va rfl (X.move (by conv => lhs; whnf)) ?_
  refine L.call rfl en_305 rfl (c1) ?_
  rintro e w1 ⟨x, s', rfl, hx, hs', hk1, hr1, hg1⟩
  refine ⟨_, rfl, ?_⟩
  refine L.va rfl (X.assign (by conv => lhs; whnf)) ?_
  refine L.nil ?_
  refine J.ret ?_
  refine fin1 ?_
  exact ⟨x, s', rfl, by omega, by omega, hs', hk1, hr1, hg1⟩
theorem pivotI (A : Option Addr) (n c N a h : Nat) (l : List Int) (w : World) (ho : w.ownsRow N 3 1 (.slice A n c) n (nums .i64 l)) (hf : a + h ≤ n) (hn : n ≤ 900000) (h0 : 12 < h) :
    Calls Try.prog 290 #[.slice A n c, .int .i64 (a : Int), .int .i64 ((a + h : Nat) : Int)] w fun e w' => ∃ p k : Nat, e = .returned (.tuple #[.int .i64 (p : Int), .int .i64 (k : Int)]) ∧ a ≤ p ∧ p < a + h ∧ k ≤ 2 ∧ Ext w w' := by
  have eh : ((a + h : Nat) : Int) - (a : Int) = (h : Int) := by omega
  have e1 : (a : Int) + (h : Int) / 4 * 1 = ((a + h / 4 : Nat) : Int) := by omega
  have e2 : (a : Int) + (h : Int) / 4 * 2 = ((a + h / 4 * 2 : Nat) : Int) := by omega
  have e3 : (a : Int) + (h : Int) / 4 * 3 = ((a + h / 4 * 3 : Nat) : Int) := by omega
  refine enter Try.func290 rfl (by kernel_rfl) ?_
  refine J.seq ?_
  refine J.region ?_
  refine L.va rfl (X.assign (by conv => lhs; whnf)) ?_
  refine L.va rfl (X.assign (by conv => lhs; whnf)) ?_
  refine L.nil ?_
  refine J.seq ?_
  refine J.region ?_
  refine L.va rfl (X.move (by conv => lhs; whnf)) ?_
  refine L.va rfl (X.move (by conv => lhs; whnf)) ?_
  refine L.va rfl (X.sub rfl rfl (by omega)) ?_
  refine L.va rfl (X.assign (by conv => lhs; whnf)) ?_
  refine L.nil ?_
  rw [eh]
  refine J.seq ?_
  refine J.region ?_
  refine L.alloc rfl zr_3 ?_
  intro sb w1 hsb hs1 hk1 he1
  have hr1 : Reads w1 sb 1 A n (nums .i64 l) := by
    have := (Reads.of_own ho).ext he1
    rwa [← hsb] at this
  have hwb : w.heap.size ≤ sb := by omega
  have hk1 : Blk w1 sb 3 #[.int .i64 ((0 : Nat) : Int)] := hk1
  refine L.nil ?_
  refine J.seq ?_
  refine J.region ?_
  refine L.va rfl (X.move (by conv => lhs; whnf)) ?_
  refine L.va rfl (X.move (by conv => lhs; whnf)) ?_
  refine L.va rfl (X.quo rfl rfl (by omega)) ?_
  refine L.va rfl (X.mul rfl rfl (by omega)) ?_
  refine L.va rfl (X.add rfl rfl (by omega)) ?_
  refine L.va rfl (X.assign (by conv => lhs; whnf)) ?_
  refine L.nil ?_
  rw [e1]
  refine J.seq ?_
  refine J.region ?_
  refine L.va rfl (X.move (by conv => lhs; whnf)) ?_
  refine L.va rfl (X.move (by conv => lhs; whnf)) ?_
  refine L.va rfl (X.quo rfl rfl (by omega)) ?_
  refine L.va rfl (X.mul rfl rfl (by omega)) ?_
  refine L.va rfl (X.add rfl rfl (by omega)) ?_
  refine L.va rfl (X.assign (by conv => lhs; whnf)) ?_
  refine L.nil ?_
  rw [e2]
  refine J.seq ?_
  refine J.region ?_
  refine L.va rfl (X.move (by conv => lhs; whnf)) ?_
  refine L.va rfl (X.move (by conv => lhs; whnf)) ?_
  refine L.va rfl (X.quo rfl rfl (by omega)) ?_
  refine L.va rfl (X.mul rfl rfl (by omega)) ?_
  refine L.va rfl (X.add rfl rfl (by omega)) ?_
  refine L.va rfl (X.assign (by conv => lhs; whnf)) ?_
  refine L.nil ?_
  rw [e3]
  refine J.seq ?_
  refine J.seq ?_
  refine J.region ?_
  refine L.va rfl (X.move (by conv => lhs; whnf)) ?_
  refine L.va rfl (X.geq rfl rfl) ?_
  refine L.nil ?_
  refine J.decT rfl (by omega) ?_
  refine J.cut (X := Nat × Nat × Nat × Nat) [10, 11, 12, 33, 34, 35, 36, 37, 38, 39, 40, 41, 42, 43] (fun (i, j, k, s) => [(10, .int .i64 (i : Int)), (11, .int .i64 (j : Int)), (12, .int .i64 (k : Int))]) (fun (i, j, k, s) w' => a ≤ i ∧ i < a + h ∧ a ≤ j ∧ j < a + h ∧ a ≤ k ∧ k < a + h ∧ s ≤ 9 ∧ Blk w' sb 3 #[.int .i64 (s : Int)] ∧ Reads w' sb 1 A n (nums .i64 l) ∧ w1.grownBy w' (some sb)) ?_ ?_
  · refine J.seq ?_
    refine J.region ?_
    refine L.va rfl (X.move (by conv => lhs; whnf)) ?_
    refine L.va rfl (X.geq rfl rfl) ?_
    refine L.nil ?_
    refine J.dec rfl (fun h50 => ?_) (fun h50 => ?_)
    · have q1 : a + h / 4 = (a + h / 4 - 1) + 1 := by omega
      have q2 : a + h / 4 * 2 = (a + h / 4 * 2 - 1) + 1 := by omega
      have q3 : a + h / 4 * 3 = (a + h / 4 * 3 - 1) + 1 := by omega
      have c1 := medadjI A n c (a + h / 4 - 1) sb 0 l w1 hr1 hk1 (by omega) (by omega) hn
      rw [← q1] at c1
      refine J.seq ?_
      refine J.region ?_
      refine L.va rfl (X.move (by conv => lhs; whnf)) ?_
      refine L.va rfl (X.move (by conv => lhs; whnf)) ?_
      refine L.call rfl en_304 rfl (c1) ?_
      rintro e w2 ⟨x1, s1, rfl, hx1, hy1, hs1, hk2, hr2, hg2⟩
      refine ⟨_, rfl, ?_⟩
      have c2 := medadjI A n c (a + h / 4 * 2 - 1) sb s1 l w2 hr2 hk2 (by omega) (by omega) hn
      rw [← q2] at c2
      refine L.va rfl (X.assign (by conv => lhs; whnf)) ?_
      refine L.nil ?_
      refine J.seq ?_
      refine J.region ?_
      refine L.va rfl (X.move (by conv => lhs; whnf)) ?_
      refine L.va rfl (X.move (by conv => lhs; whnf)) ?_
      refine L.call rfl en_304 rfl (c2) ?_
      rintro e w3 ⟨x2, s2, rfl, hx2, hy2, hs2, hk3, hr3, hg3⟩
      refine ⟨_, rfl, ?_⟩
      have c3 := medadjI A n c (a + h / 4 * 3 - 1) sb s2 l w3 hr3 hk3 (by omega) (by omega) hn
      rw [← q3] at c3
      refine L.va rfl (X.assign (by conv => lhs; whnf)) ?_
      refine L.nil ?_
      refine J.region ?_
      refine L.va rfl (X.move (by conv => lhs; whnf)) ?_
      refine L.va rfl (X.move (by conv => lhs; whnf)) ?_
      refine L.call rfl en_304 rfl (c3) ?_
      rintro e w4 ⟨x3, s3, rfl, hx3, hy3, hs3, hk4, hr4, hg4⟩
      refine ⟨_, rfl, ?_⟩
      refine L.va rfl (X.assign (by conv => lhs; whnf)) ?_
      refine L.nil ?_
      refine ⟨(x1, x2, x3, s3), At3 (by first | rfl | exact at_int rfl (by omega) | exact at_slice rfl (by omega) | exact at_int rfl (by simp)) (by first | rfl | exact at_int rfl (by omega) | exact at_slice rfl (by omega) | exact at_int rfl (by simp)) (by first | rfl | exact at_int rfl (by omega) | exact at_slice rfl (by omega) | exact at_int rfl (by simp)), (by (iterate 14 refine Agr.lk rfl ?_); exact Agr.rfl'), ?_⟩
      exact ⟨by omega, by omega, by omega, by omega, by omega, by omega, by omega, hk4, hr4, grb_trans (grb_trans hg2 hg3) hg4⟩
    · refine J.skip ?_
      refine ⟨(a + h / 4, a + h / 4 * 2, a + h / 4 * 3, 0), At3 (by first | rfl | exact at_int rfl (by omega) | exact at_slice rfl (by omega) | exact at_int rfl (by simp)) (by first | rfl | exact at_int rfl (by omega) | exact at_slice rfl (by omega) | exact at_int rfl (by simp)) (by first | rfl | exact at_int rfl (by omega) | exact at_slice rfl (by omega) | exact at_int rfl (by simp)), (by (iterate 2 refine Agr.lk rfl ?_); exact Agr.rfl'), ?_⟩
      exact ⟨by omega, by omega, by omega, by omega, by omega, by omega, by omega, hk1, hr1, grown_ext (Ext.refl _)⟩
  · rintro ⟨i, j, k, s⟩ g w2 ⟨i1, i2, j1, j2, k1, k2, hs, hk2, hr2, hg2⟩
    refine J.region ?_
    refine L.va rfl (X.move (by conv => lhs; whnf)) ?_
    refine L.va rfl (X.move (by conv => lhs; whnf)) ?_
    refine L.va rfl (X.move (by conv => lhs; whnf)) ?_
    refine L.va rfl (X.move (by conv => lhs; whnf)) ?_
    refine L.call rfl en_305 rfl (medianI A n c i j k sb s l w2 hr2 hk2 (by omega) (by omega) (by omega) (by omega) hn) ?_
    rintro e w3 ⟨x, s', rfl, hx, hs', hk3, hr3, hg3⟩
    refine ⟨_, rfl, ?_⟩
    have hE : Ext w w3 := he1.grw (grb_trans hg2 hg3) (by intro g hg; injection hg with hg; omega)
    refine L.va rfl (X.assign (by conv => lhs; whnf)) ?_
    refine L.nil ?_
    refine J.seq ?_
    refine J.region ?_
    refine L.va rfl (X.load rfl sc_3 (by first | exact Ld.blk hk3 rfl)) ?_
    refine L.nil ?_
    refine J.block ?_
    refine J.seq ?_
    refine J.region ?_
    refine L.va rfl (X.eql rfl rfl) ?_
    refine L.va rfl (X.assign (by conv => lhs; whnf)) ?_
    refine L.nil ?_
    refine J.dec rfl (fun hz => ?_) (fun hz => ?_)
    · refine J.seq ?_
      refine J.region ?_
      refine L.va rfl (X.move (by conv => lhs; whnf)) ?_
      refine L.va rfl (X.assign (by conv => lhs; whnf)) ?_
      refine L.va rfl (X.assign (by conv => lhs; whnf)) ?_
      refine L.nil ?_
      refine J.ret ?_
      refine inB_ret <| ?_
      refine fin2 ?_
      exact ⟨x, 1, rfl, by omega, by omega, by omega, hE⟩
    · refine J.seq ?_
      refine J.region ?_
      refine L.va rfl (X.eql rfl rfl) ?_
      refine L.va rfl (X.assign (by conv => lhs; whnf)) ?_
      refine L.nil ?_
      refine J.dec rfl (fun hz => ?_) (fun hz => ?_)
      · refine J.seq ?_
        refine J.region ?_
        refine L.va rfl (X.move (by conv => lhs; whnf)) ?_
        refine L.va rfl (X.assign (by conv => lhs; whnf)) ?_
        refine L.va rfl (X.assign (by conv => lhs; whnf)) ?_
        refine L.nil ?_
        refine J.ret ?_
        refine inB_ret <| ?_
        refine fin2 ?_
        exact ⟨x, 2, rfl, by omega, by omega, by omega, hE⟩
      · refine J.seq ?_
        refine J.region ?_
        refine L.va rfl (X.move (by conv => lhs; whnf)) ?_
        refine L.va rfl (X.assign (by conv => lhs; whnf)) ?_
        refine L.va rfl (X.assign (by conv => lhs; whnf)) ?_
        refine L.nil ?_
        refine J.ret ?_
        refine inB_ret <| ?_
        refine fin2 ?_
        exact ⟨x, 0, rfl, by omega, by omega, by omega, hE⟩
end Go.Proofs.Ytlipeplfjkgamaa
