import Derived.Test.YtlipeplfjkgamaaZQueryChecks3
/-
  What the law leans on, part 4: WSchG, WFilA, WNrmD, WNrmF, WQryA, WQryB, WDiffC, WQryF, WQryG, WQryH, QryPlain, WQryIn, WNrmG, WQryN, TypChg, WQryO, WQryP, NrmOk.
-/
namespace Go.Proofs.Ytlipeplfjkgamaa
set_option maxRecDepth 100000
open Go.RowKit H
set_option linter.unusedVariables false
structure Sch where
  (Ad : Option Addr) (nd cd : Nat) (A1 : Option Addr) (n1 c1 : Nat) (A2 : Option Addr) (n2 c2 : Nat) (Av : Option Addr) (nv cv : Nat) (ds : List (ByteArray × Int)) (s1 s2 : List ByteArray) (zs : List Int)
namespace Sch
abbrev val (s : Sch) : Value := .agg #[.slice s.Ad s.nd s.cd, .slice s.A1 s.n1 s.c1, .slice s.A2 s.n2 s.c2, .slice s.Av s.nv s.cv]
def code (s : Sch) : Int := chk s.nd s.n1 s.n2 s.nv s.ds s.s1 s.s2 s.zs
def F (s : Sch) : Int := ((2 ^ s.nd - 1 : Nat) : Int)
structure Here (s : Sch) (w : World) : Prop where
  hd : Reads w w.heap.size 2 s.Ad s.nd (dimsV s.ds)
  h1 : Reads w w.heap.size 1 s.A1 s.n1 (strs s.s1)
  h2 : Reads w w.heap.size 1 s.A2 s.n2 (strs s.s2)
  hv : Reads w w.heap.size 1 s.Av s.nv (nums .u32 s.zs)
  hzs : ∀ i, 0 ≤ s.zs.getD i 0 ∧ s.zs.getD i 0 < 4294967296
  hle : s.nd ≤ 100 ∧ s.n1 ≤ 100 ∧ s.n2 ≤ 100 ∧ s.nv ≤ 100
theorem Here.ext {s : Sch} {w w' : World} (h : s.Here w) (he : Ext w w') : s.Here w' :=
  ⟨(h.hd.ext he).here (by decide), (h.h1.ext he).here (by decide), (h.h2.ext he).here (by decide), (h.hv.ext he).here (by decide), h.hzs, h.hle⟩
theorem Here.len {s : Sch} {w : World} (h : s.Here w) : s.ds.length = s.nd := by have := h.hd.1; rw [dimsV_length] at this; omega
theorem Here.check {s : Sch} {w : World} (h : s.Here w) : Calls Try.prog 107 #[s.val] w fun e w' => e = .returned (.int .i64 s.code) ∧ Ext w w' :=
  check_any _ _ _ _ _ _ _ _ _ _ _ _ _ _ _ _ w h.hd h.h1 h.h2 h.hv h.hzs (by have := h.hle; unfold maxLen; omega)
theorem Here.rcheck {s : Sch} {w : World} (h : s.Here w) : Calls Try.prog 97 #[s.val] w fun e w' => e = .returned (.int .i64 s.code) ∧ Ext w w' :=
  rcheck_any _ _ _ _ _ _ _ _ _ _ _ _ _ _ _ _ w h.hd h.h1 h.h2 h.hv h.hzs (by have := h.hle; unfold maxLen; omega)
theorem good {s : Sch} (h : s.code = 0) : (1 ≤ s.nd ∧ s.nd ≤ 6 ∧ s.n1 ≤ 3 ∧ s.n2 ≤ 2 ∧ s.nv ≤ 15) ∧ szB s.ds s.nd = true := ⟨(chk_ok h).1, (chk_ok h).2.1⟩
theorem F_bd {s : Sch} (h : s.code = 0) : 1 ≤ s.F ∧ s.F ≤ 63 := by
  have g := (good h).1
  have hp := pw6 g.2.1
  have h2 : 2 ^ 1 ≤ 2 ^ s.nd := Nat.pow_le_pow_right (by decide) g.1
  unfold F
  omega
theorem Here.rfull {s : Sch} {w : World} (h : s.Here w) (hc : s.code = 0) : Calls Try.prog 51 #[s.val] w fun e w' => e = .returned (.int .u32 s.F) ∧ Ext w w' :=
  rfull_any _ _ _ _ _ _ w (by have := (good hc).1; omega)
theorem Here.full_ok {s : Sch} {w : World} (h : s.Here w) (hc : s.code = 0) : Calls Try.prog 90 #[s.val] w fun e w' => e = .returned (.int .u32 s.F) ∧ Ext w w' := by
  have g := (good hc).1
  have hp := pw6 g.2.1
  have hsl := shl_full g.2.1
  have hF : s.F = ((2 ^ s.nd - 1 : Nat) : Int) := rfl
  have hsub : IntKind.u32.wrap (((2 ^ s.nd : Nat) : Int) - 1) = s.F := by rw [w32 (by omega), hF]; omega
  refine enter Try.func90 rfl (by kernel_rfl) ?_
  refine J.seq ?_
  refine J.region ?_
  refine L.boxA (l := [_, _, _, _]) rfl rfl ?_
  intro b1 w1 hb1 hs1 hk1 he1
  refine L.va rfl (X.assign (by conv => lhs; whnf)) ?_
  refine L.nil ?_
  refine J.seq ?_
  refine J.seq ?_
  refine J.region ?_
  refine L.va rfl ((by first | exact X.loadAgg rfl (range_l hk1) Try.underlying49 rfl (by kernel_rfl) | exact X.loadAgg rfl (range_blk hk1) Try.underlying49 rfl (by kernel_rfl))) ?_
  refine L.call rfl en_107 rfl ((h.ext he1).check) ?_
  rintro e w2 ⟨rfl, he2⟩
  refine ⟨_, rfl, ?_⟩
  have he2 : Ext w1 w2 := he2
  replace hk1 := hk1.ext he2
  refine L.va rfl (X.neq rfl rfl) ?_
  refine L.nil ?_
  rw [hc]
  refine J.iteF rfl ?_
  refine J.skip ?_
  refine J.seq ?_
  refine J.region ?_
  refine L.va rfl (X.fieldAddr rfl Try.underlying49 rfl sz_45 (by decide)) ?_
  refine L.va rfl (X.load rfl sc_45 (by first | exact Ld.blk hk1 rfl)) ?_
  refine L.va rfl (X.len rfl Try.underlying45) ?_
  refine L.va rfl (X.shl rfl rfl (by omega)) ?_
  refine L.va rfl (X.subw rfl rfl) ?_
  refine L.va rfl (X.assign (by conv => lhs; whnf)) ?_
  refine L.nil ?_
  refine J.ret ?_
  refine fin1 ?_
  rw [hsl, hsub]
  exact ⟨rfl, he1.trans he2⟩
theorem Here.full_no {s : Sch} {w : World} (h : s.Here w) (hc : s.code ≠ 0) : Calls Try.prog 90 #[s.val] w fun e w' => e = .returned (.int .u32 0) ∧ Ext w w' := by
  refine enter Try.func90 rfl (by kernel_rfl) ?_
  refine J.seq ?_
  refine J.region ?_
  refine L.boxA (l := [_, _, _, _]) rfl rfl ?_
  intro b1 w1 hb1 hs1 hk1 he1
  refine L.va rfl (X.assign (by conv => lhs; whnf)) ?_
  refine L.nil ?_
  refine J.seq ?_
  refine J.seq ?_
  refine J.region ?_
  refine L.va rfl ((by first | exact X.loadAgg rfl (range_l hk1) Try.underlying49 rfl (by kernel_rfl) | exact X.loadAgg rfl (range_blk hk1) Try.underlying49 rfl (by kernel_rfl))) ?_
  refine L.call rfl en_107 rfl ((h.ext he1).check) ?_
  rintro e w2 ⟨rfl, he2⟩
  refine ⟨_, rfl, ?_⟩
  have he2 : Ext w1 w2 := he2
  replace hk1 := hk1.ext he2
  refine L.va rfl (X.neq rfl rfl) ?_
  refine L.nil ?_
  refine J.ndecT rfl (by exact hc) ?_
  refine J.seq ?_
  refine J.region ?_
  refine L.va rfl (X.assign (by conv => lhs; whnf)) ?_
  refine L.nil ?_
  refine J.ret ?_
  refine thn_ret <| ?_
  refine fin1 ?_
  exact ⟨rfl, he1.trans he2⟩
theorem andNot_full {s : Sch} {m : Nat} (hm : m < 4294967296) (hn : s.nd ≤ 6) : bits .andNot .u32 (m : Int) s.F = 0 ↔ (m : Int) ≤ s.F := by
  have hp := pw6 hn
  unfold F
  rw [u32_andNot_nat m (2 ^ s.nd - 1) hm (by omega)]
  have := Mk.andNot_zero hm (show 2 ^ s.nd - 1 < 4294967296 by omega)
  rw [sb_full hm hn, decide_eq_true_iff] at this
  omega
theorem Here.keys_no {s : Sch} {w : World} (h : s.Here w) {m : Nat} (hm32 : m < 4294967296) (hc : s.code = 0 → ¬ (m : Int) ≤ s.F) : Calls Try.prog 196 #[s.val, .int .u32 (m : Int)] w fun e w' => e = .returned (.tuple #[.int .u64 0, .bool false]) ∧ Ext w w' := by
  refine enter Try.func196 rfl (by kernel_rfl) ?_
  refine J.seq ?_
  refine J.region ?_
  refine L.boxA (l := [_, _, _, _]) rfl rfl ?_
  intro b1 w1 hb1 hs1 hk1 he1
  refine L.va rfl (X.assign (by conv => lhs; whnf)) ?_
  refine L.va rfl (X.assign (by conv => lhs; whnf)) ?_
  refine L.nil ?_
  refine J.seq ?_
  refine J.region ?_
  refine L.va rfl ((by first | exact X.loadAgg rfl (range_l hk1) Try.underlying49 rfl (by kernel_rfl) | exact X.loadAgg rfl (range_blk hk1) Try.underlying49 rfl (by kernel_rfl))) ?_
  by_cases hcc : s.code = 0
  · have g0 := (good hcc).1
    have hF := F_bd hcc
    have han := andNot_full (s := s) hm32 g0.2.1
    have hno := hc hcc
    refine L.call rfl en_90 rfl ((h.ext he1).full_ok hcc) ?_
    rintro e w2 ⟨rfl, he2⟩
    refine ⟨_, rfl, ?_⟩
    have he2 : Ext w1 w2 := he2
    refine L.va rfl (X.assign (by conv => lhs; whnf)) ?_
    refine L.nil ?_
    refine J.seq ?_
    refine J.seq ?_
    refine J.region ?_
    refine L.va rfl (X.move (by conv => lhs; whnf)) ?_
    refine L.va rfl (X.eql rfl rfl) ?_
    refine L.va rfl (X.move (by conv => lhs; whnf)) ?_
    refine L.caseDecF (k := 14) rfl (by omega) ?_
    refine L.va rfl (X.move (by conv => lhs; whnf)) ?_
    refine L.va rfl (X.move (by conv => lhs; whnf)) ?_
    refine L.va rfl (X.andNot rfl rfl) ?_
    refine L.va rfl (X.neq rfl rfl) ?_
    refine L.va rfl (X.pickF rfl (by conv => lhs; whnf)) ?_
    refine L.nil ?_
    refine J.ndecT rfl (by omega) ?_
    refine J.seq ?_
    refine J.region ?_
    refine L.va rfl (X.assign (by conv => lhs; whnf)) ?_
    refine L.va rfl (X.assign (by conv => lhs; whnf)) ?_
    refine L.nil ?_
    refine J.ret ?_
    refine thn_ret <| ?_
    refine fin2 ?_
    exact ⟨rfl, he1.trans he2⟩
  · refine L.call rfl en_90 rfl ((h.ext he1).full_no hcc) ?_
    rintro e w2 ⟨rfl, he2⟩
    refine ⟨_, rfl, ?_⟩
    have he2 : Ext w1 w2 := he2
    refine L.va rfl (X.assign (by conv => lhs; whnf)) ?_
    refine L.nil ?_
    refine J.seq ?_
    refine J.seq ?_
    refine J.region ?_
    refine L.va rfl (X.move (by conv => lhs; whnf)) ?_
    refine L.va rfl (X.eql rfl rfl) ?_
    refine L.va rfl (X.move (by conv => lhs; whnf)) ?_
    refine L.caseDecT (k := 14) rfl (by rfl) ?_
    refine L.no rfl ?_
    refine L.no rfl ?_
    refine L.no rfl ?_
    refine L.no rfl ?_
    refine L.va rfl (X.pickT rfl (by conv => lhs; whnf)) ?_
    refine L.nil ?_
    refine J.iteT rfl ?_
    refine J.seq ?_
    refine J.region ?_
    refine L.va rfl (X.assign (by conv => lhs; whnf)) ?_
    refine L.va rfl (X.assign (by conv => lhs; whnf)) ?_
    refine L.nil ?_
    refine J.ret ?_
    refine thn_ret <| ?_
    refine fin2 ?_
    exact ⟨rfl, he1.trans he2⟩
theorem Here.rsub {s : Sch} {w : World} (hc : s.code = 0) {m : Nat} (hm : m < 4294967296) : Calls Try.prog 98 #[.int .u32 (m : Int), .int .u32 s.F] w fun e w' => e = .returned (.bool (decide ((m : Int) ≤ s.F))) ∧ w = w' :=
  rsub_full _ _ s.nd w (by omega) (good hc).1.2.1 rfl
structure Any (s : Sch) (w : World) : Prop where
  hd : Reads w w.heap.size 2 s.Ad s.nd (dimsV s.ds)
  h1 : Reads w w.heap.size 1 s.A1 s.n1 (strs s.s1)
  h2 : Reads w w.heap.size 1 s.A2 s.n2 (strs s.s2)
  hv : Reads w w.heap.size 1 s.Av s.nv (nums .u32 s.zs)
  hzs : ∀ i, 0 ≤ s.zs.getD i 0 ∧ s.zs.getD i 0 < 4294967296
theorem Any.ext {s : Sch} {w w' : World} (h : s.Any w) (he : Ext w w') : s.Any w' :=
  ⟨(h.hd.ext he).here (by decide), (h.h1.ext he).here (by decide), (h.h2.ext he).here (by decide), (h.hv.ext he).here (by decide), h.hzs⟩
theorem Any.here {s : Sch} {w : World} (h : s.Any w) (hle : s.nd ≤ 100 ∧ s.n1 ≤ 100 ∧ s.n2 ≤ 100 ∧ s.nv ≤ 100) : s.Here w := ⟨h.hd, h.h1, h.h2, h.hv, h.hzs, hle⟩
theorem Any.light {s : Sch} {w : World} (h : s.Any w) : Calls Try.prog 29 #[s.val] w fun e w' => ∃ b, e = .returned (.bool b) ∧ (b = true → s.nd ≤ 100 ∧ s.n1 ≤ 100 ∧ s.n2 ≤ 100 ∧ s.nv ≤ 100) ∧ Ext w w' :=
  light11 _ _ _ _ _ _ _ _ _ _ _ _ s.ds s.s1 s.s2 w h.hd h.h1 h.h2
end Sch
theorem sch_of {w : World} {vs : List Value} {x : (List (Str × Nm .i64)) × List Str × List Str × List (Nm .u32)} (h : Lay.lies w w.heap.size vs x) :
    ∃ s : Sch, vs = [.slice s.Ad s.nd s.cd, .slice s.A1 s.n1 s.c1, .slice s.A2 s.n2 s.c2, .slice s.Av s.nv s.cv] ∧ s.Any w := by
  obtain ⟨Ad, nd, cd, A1, n1, c1, A2, n2, c2, Av, nv, cv, rfl, g1, g2, g3, g4, hd, h1, h2, hv⟩ := schema4 h
  refine ⟨⟨Ad, nd, cd, A1, n1, c1, A2, n2, c2, Av, nv, cv, _, _, _, zsOf x.2.2.2⟩, rfl, hd, h1, h2, hv, fun i => ?_⟩
  obtain ⟨vs, hvz, hvs⟩ := u32_list x.2.2.2
  show 0 ≤ (zsOf x.2.2.2).getD i 0 ∧ (zsOf x.2.2.2).getD i 0 < 4294967296
  rw [hvz, zl_getD]
  have h3 : vs.getD i 0 < 4294967296 := by
    rcases Nat.lt_or_ge i vs.length with h | h
    · rw [List.getD, List.getElem?_eq_getElem h]; exact hvs _ (List.getElem_mem h)
    · rw [List.getD, List.getElem?_eq_none h]; decide
  omega
def aA : ByteArray := { data := #[97] }
end Go.Proofs.Ytlipeplfjkgamaa
namespace Go.Proofs.Ytlipeplfjkgamaa
set_option maxRecDepth 100000
open Go.RowKit H
set_option linter.unusedVariables false
def fst' {α : Type} (g : α → Int) : List α → Int
  | [] => 0
  | x :: t => if g x ≠ 0 then g x else fst' g t
theorem fst_at {α : Type} {g : α → Int} {d : α} : ∀ {l : List α} {i : Nat}, i < l.length → (∀ j, j < i → g (l.getD j d) = 0) → g (l.getD i d) ≠ 0 → fst' g l = g (l.getD i d)
  | [], i, h, _, _ => absurd h (by simp)
  | x :: t, 0, _, _, h => by
    have h : g x ≠ 0 := h
    show (if g x ≠ 0 then g x else fst' g t) = g x
    rw [if_pos h]
  | x :: t, i + 1, h, hP, he => by
    have h0 : g x = 0 := hP 0 (by omega)
    show (if g x ≠ 0 then g x else fst' g t) = g ((x :: t).getD (i + 1) d)
    rw [if_neg (fun k => k h0)]
    exact fst_at (l := t) (i := i) (by simpa using h) (fun j hj => hP (j + 1) (by omega)) he
theorem fst_0 {α : Type} {g : α → Int} {d : α} : ∀ {l : List α}, (∀ j, j < l.length → g (l.getD j d) = 0) → fst' g l = 0
  | [], _ => rfl
  | x :: t, hP => by
    have h0 : g x = 0 := hP 0 (by simp)
    show (if g x ≠ 0 then g x else fst' g t) = 0
    rw [if_neg (fun k => k h0)]
    exact fst_0 (l := t) fun j hj => hP (j + 1) (by simpa using hj)
theorem fst_ok {α : Type} {g : α → Int} {d : α} : ∀ {l : List α}, fst' g l = 0 → ∀ j, j < l.length → g (l.getD j d) = 0
  | [], _, j, hj => absurd hj (by simp)
  | x :: t, h, j, hj => by
    have h : (if g x ≠ 0 then g x else fst' g t) = 0 := h
    by_cases h0 : g x = 0
    · rw [if_neg (fun k => k h0)] at h
      cases j with
      | zero => exact h0
      | succ j => exact fst_ok (l := t) h j (by simpa using hj)
    · rw [if_pos h0] at h; exact absurd h h0
structure Fi where
  (d : Int) (A : Option Addr) (n c : Nat) (l : List Int)
namespace Fi
abbrev vs (f : Fi) : List Value := [.int .i64 f.d, .slice f.A f.n f.c]
abbrev val (f : Fi) : Value := .agg f.vs.toArray
structure At (f : Fi) (N : Nat) (w : World) : Prop where
  r : Reads w N 1 f.A f.n (nums .i64 f.l)
  m : f.n ≤ maxLen
theorem At.ext {f : Fi} {N : Nat} {w w' : World} (h : f.At N w) (he : Ext w w') : f.At N w' := ⟨h.r.ext he, h.m⟩
theorem At.low {f : Fi} {N B : Nat} {w w' : World} (h : f.At N w) (he : Below B w w') (hB : N ≤ B) : f.At N w' := ⟨h.r.low he hB, h.m⟩
theorem At.more {f : Fi} {N N' : Nat} {w : World} (h : f.At N w) (hN : N ≤ N') : f.At N' w := ⟨h.r.more hN, h.m⟩
theorem At.len {f : Fi} {N : Nat} {w : World} (h : f.At N w) : f.l.length = f.n := by have := h.r.1; simpa [nums] using this
end Fi
def fi0 : Fi := ⟨0, none, 0, 0, []⟩
theorem fi_len (f : Fi) : f.vs.length = 2 := rfl
theorem gtF {l : List Fi} {i : Nat} (h : i < l.length) : l[i]? = some (l.getD i fi0) := by rw [List.getD, List.getElem?_eq_getElem h]; rfl
theorem memF {l : List Fi} {i : Nat} (h : i < l.length) : l.getD i fi0 ∈ l := by rw [List.getD, List.getElem?_eq_getElem h]; exact List.getElem_mem _
structure Fis where
  (A : Option Addr) (n c : Nat) (l : List Fi)
namespace Fis
abbrev val (s : Fis) : Value := .slice s.A s.n s.c
structure At (s : Fis) (N : Nat) (w : World) : Prop where
  r : Reads w N 2 s.A s.n (s.l.flatMap Fi.vs)
  h : ∀ x ∈ s.l, x.At N w
  l : s.l.length = s.n
  m : s.n ≤ maxLen
theorem At.ext {s : Fis} {N : Nat} {w w' : World} (h : s.At N w) (he : Ext w w') : s.At N w' := ⟨h.r.ext he, fun x hx => (h.h x hx).ext he, h.l, h.m⟩
theorem At.low {s : Fis} {N B : Nat} {w w' : World} (h : s.At N w) (he : Below B w w') (hB : N ≤ B) : s.At N w' := ⟨h.r.low he hB, fun x hx => (h.h x hx).low he hB, h.l, h.m⟩
theorem At.more {s : Fis} {N N' : Nat} {w : World} (h : s.At N w) (hN : N ≤ N') : s.At N' w := ⟨h.r.more hN, fun x hx => (h.h x hx).more hN, h.l, h.m⟩
theorem At.one {s : Fis} {N : Nat} {w : World} (h : s.At N w) {i : Nat} (hi : i < s.n) : (s.l.getD i fi0).At N w := h.h _ (memF (by rw [h.l]; exact hi))
end Fis
abbrev cOk (s : Sch) (d : Int) (c : Int) : Prop := 0 ≤ c ∧ c < (s.ds.getD d.toNat d0).2
def fE (s : Sch) (f : Fi) : Int := if f.d < 0 ∨ (s.nd : Int) ≤ f.d then 11 else if 4096 < f.n then 3 else if ∃ i, i < f.n ∧ ¬ cOk s f.d (f.l.getD i 0) then 2 else 0
def fcode (s : Sch) (f : Fis) : Int := if s.code ≠ 0 then 1 else if 20 < f.n then 3 else fst' (fE s) f.l
theorem fE_11 {s : Sch} {f : Fi} (h : f.d < 0 ∨ (s.nd : Int) ≤ f.d) : fE s f = 11 := by unfold fE; rw [if_pos h]
theorem fE_3 {s : Sch} {f : Fi} (h : ¬ (f.d < 0 ∨ (s.nd : Int) ≤ f.d)) (h2 : 4096 < f.n) : fE s f = 3 := by unfold fE; rw [if_neg h, if_pos h2]
theorem fE_2 {s : Sch} {f : Fi} (h : ¬ (f.d < 0 ∨ (s.nd : Int) ≤ f.d)) (h2 : ¬ 4096 < f.n) {i : Nat} (hi : i < f.n) (h3 : ¬ cOk s f.d (f.l.getD i 0)) : fE s f = 2 := by unfold fE; rw [if_neg h, if_neg h2, if_pos ⟨i, hi, h3⟩]
theorem fE_0 {s : Sch} {f : Fi} (h : ¬ (f.d < 0 ∨ (s.nd : Int) ≤ f.d)) (h2 : ¬ 4096 < f.n) (h3 : ∀ i, i < f.n → cOk s f.d (f.l.getD i 0)) : fE s f = 0 := by
  unfold fE; rw [if_neg h, if_neg h2, if_neg]; rintro ⟨i, hi, k⟩; exact k (h3 i hi)
theorem fcheck {s : Sch} {f : Fis} {w : World} (H : s.Here w) (hf : f.At w.heap.size w) : Calls Try.prog 91 #[s.val, f.val] w fun e w' => e = .returned (.int .i64 (fcode s f)) ∧ Ext w w' := by
  have hl := hf.l
  have hm := hf.m
  have hle := H.hle
  unfold maxLen at hm
  refine enter Try.func91 rfl (by kernel_rfl) ?_
  refine J.seq ?_
  refine J.region ?_
  refine L.boxA (l := [_, _, _, _]) rfl rfl ?_
  intro b1 w1 hb1 hs1 hk1 he1
  have H1 := H.ext he1
  refine L.va rfl (X.assign (by conv => lhs; whnf)) ?_
  refine L.nil ?_
  refine J.seq ?_
  refine J.seq ?_
  refine J.region ?_
  refine L.va rfl ((by first | exact X.loadAgg rfl (range_l hk1) Try.underlying49 rfl (by kernel_rfl) | exact X.loadAgg rfl (range_blk hk1) Try.underlying49 rfl (by kernel_rfl))) ?_
  refine L.call rfl en_107 rfl (H1.check) ?_
  rintro e w2 ⟨rfl, he2⟩
  refine ⟨_, rfl, ?_⟩
  have he02 := he1.trans he2
  replace hk1 := hk1.ext he2
  refine L.va rfl (X.neq rfl rfl) ?_
  refine L.nil ?_
  refine J.ndec rfl (fun h1 => ?_) (fun h1 => ?_)
  · have e : fcode s f = 1 := by unfold fcode; rw [if_pos h1]
    rw [e]
    refine J.seq ?_
    refine J.region ?_
    refine L.va rfl (X.assign (by conv => lhs; whnf)) ?_
    refine L.nil ?_
    refine J.ret ?_
    refine thn_ret <| ?_
    refine fin1 ?_
    exact ⟨rfl, he02⟩
  refine J.skip ?_
  refine J.seq ?_
  refine J.seq ?_
  refine J.region ?_
  refine L.va rfl (X.move (by conv => lhs; whnf)) ?_
  refine L.va rfl (X.len rfl Try.underlying51) ?_
  refine L.va rfl (X.gtr rfl rfl) ?_
  refine L.nil ?_
  refine J.dec rfl (fun h2 => ?_) (fun h2 => ?_)
  · have e : fcode s f = 3 := by unfold fcode; rw [if_neg (fun h => h h1), if_pos (by omega)]
    rw [e]
    refine J.seq ?_
    refine J.region ?_
    refine L.va rfl (X.assign (by conv => lhs; whnf)) ?_
    refine L.nil ?_
    refine J.ret ?_
    refine thn_ret <| ?_
    refine fin1 ?_
    exact ⟨rfl, he02⟩
  have e : fcode s f = fst' (fE s) f.l := by unfold fcode; rw [if_neg (fun h => h h1), if_neg (by omega)]
  rw [e]
  have z2 := he02.le
  have H2 := H.ext he02
  refine J.skip ?_
  refine J.seq ?_
  refine J.seq ?_
  refine J.region ?_
  refine L.va rfl (X.move (by conv => lhs; whnf)) ?_
  refine L.va rfl (X.len rfl Try.underlying51) ?_
  refine L.va rfl (X.move (by conv => lhs; whnf)) ?_
  refine L.nil ?_
  refine J.block ?_
  refine J.loop (X := Nat) [4, 6, 8, 17, 18, 19, 20, 21, 22, 23, 24, 25, 26, 27, 28, 29, 30, 31, 32, 33, 34, 35, 36, 37, 38, 39, 40, 41, 42, 43, 44, 45, 46, 47, 48, 49, 50, 51, 52, 53, 54, 55, 56, 57] (fun i => [(17, .int .i64 (i : Int))]) (fun i w' => i ≤ f.n ∧ (∀ j, j < i → fE s (f.l.getD j fi0) = 0) ∧ Ext w2 w') (fun i => f.n - i) (0) (At1 (by first | rfl | exact at_int rfl (by omega) | exact at_slice rfl (by omega) | exact at_int rfl (by simp))) ?_ ?_
  · exact ⟨Nat.zero_le _, fun j hj => absurd hj (by omega), Ext.refl _⟩
  · rintro i g w3 ⟨hi, hP, he3⟩
    have z3 := he3.le
    have he03 := he02.trans he3
    have hf3 := hf.ext he03
    have hk3 := hk1.ext he3
    have H3 := H2.ext he3
    refine J.seq ?_
    refine J.region ?_
    refine L.va rfl (X.lss rfl rfl) ?_
    refine L.nil ?_
    refine J.seq ?_
    refine J.dec rfl (fun hlt => ?_) (fun hlt => ?_)
    · have hin : i < f.n := by omega
      have hA := hf3.r.some_ (by omega)
      obtain ⟨x, hx⟩ : ∃ x, x = f.l.getD i fi0 := ⟨_, rfl⟩
      have hX := hf3.one hin
      have hgt := gtF (l := f.l) (i := i) (by omega)
      rw [← hx] at hX hgt
      refine J.skip ?_
      refine J.seq ?_
      refine J.block ?_
      refine J.seq ?_
      refine J.region ?_
      refine L.va rfl ((by first | exact X.indexAddrn rfl rfl Try.underlying51 sz_150 (by first | exact Option.some_ne_none _ | exact hA) (by omega) | exact X.indexAddr rfl rfl Try.underlying51 sz_150 (by first | exact Option.some_ne_none _ | exact hA) (by omega))) ?_
      refine L.va rfl (X.loadRow (cs := x.vs) rfl hf3.r (fun r u hu => flat_row fi_len hgt r u hu) (Nat.zero_lt_succ _) Try.underlying150 rfl (by kernel_rfl)) ?_
      refine L.alloc rfl zr_150 ?_
      intro b4 w4 hb4 hs4 hk4 he4
      refine L.storeAgg (vs := [_, _]) rfl rfl rfl rfl sz_150 (hk4) rfl ?_
      intro w5 hk5 hg5 hs5
      have he35 : Ext w3 w5 := he4.grw hg5 (by intro g hg; injection hg with hg; omega)
      have hk5 : Blk w5 b4 150 x.vs.toArray := hk5
      have he05 := he03.trans he35
      have he25 := he3.trans he35
      have hk15 := hk3.ext he35
      have hX5 := hX.ext he35
      have H5 := H3.ext he35
      have hxl := hX5.len
      have hxm := hX5.m
      unfold maxLen at hxm
      have z5 := he25.le
      refine L.nil ?_
      refine J.seq ?_
      refine J.seq ?_
      refine J.region ?_
      refine L.va rfl (X.fieldAddr rfl Try.underlying150 rfl sz_3 (by decide)) ?_
      refine L.va rfl (X.load rfl sc_3 (by first | exact Ld.blk hk5 rfl | exact Ld.blk hk15 rfl | exact hA)) ?_
      refine L.va rfl (X.lss rfl rfl) ?_
      refine L.va rfl (X.move (by conv => lhs; whnf)) ?_
      refine L.caseDec (k := 24) rfl (fun h3 => ?_) (fun h3 => ?_)
      · refine L.no rfl ?_
        refine L.no rfl ?_
        refine L.no rfl ?_
        refine L.no rfl ?_
        refine L.no rfl ?_
        refine L.no rfl ?_
        refine L.va rfl (X.pickT rfl (by conv => lhs; whnf)) ?_
        refine L.nil ?_
        refine J.iteT rfl ?_
        rw [fst_at (d := fi0) (i := i) (by omega) hP (by rw [← hx, fE_11 (by omega)]; decide), ← hx, fE_11 (by omega)]
        refine J.seq ?_
        refine J.region ?_
        refine L.va rfl (X.assign (by conv => lhs; whnf)) ?_
        refine L.nil ?_
        refine J.ret ?_
        refine thn_ret <|  inB_ret <|  thn_ret <|  thn_ret <|  inB_ret <|  thn_ret <| ?_
        refine fin1 ?_
        exact ⟨rfl, he05⟩
      refine L.va rfl (X.fieldAddr rfl Try.underlying150 rfl sz_3 (by decide)) ?_
      refine L.va rfl (X.load rfl sc_3 (by first | exact Ld.blk hk5 rfl | exact Ld.blk hk15 rfl | exact hA)) ?_
      refine L.va rfl (X.fieldAddr rfl Try.underlying49 rfl sz_45 (by decide)) ?_
      refine L.va rfl (X.load rfl sc_45 (by first | exact Ld.blk hk5 rfl | exact Ld.blk hk15 rfl | exact hA)) ?_
      refine L.va rfl (X.len rfl Try.underlying45) ?_
      refine L.va rfl (X.geq rfl rfl) ?_
      refine L.va rfl (X.pickF rfl (by conv => lhs; whnf)) ?_
      refine L.nil ?_
      refine J.dec rfl (fun h4 => ?_) (fun h4 => ?_)
      · rw [fst_at (d := fi0) (i := i) (by omega) hP (by rw [← hx, fE_11 (by omega)]; decide), ← hx, fE_11 (by omega)]
        refine J.seq ?_
        refine J.region ?_
        refine L.va rfl (X.assign (by conv => lhs; whnf)) ?_
        refine L.nil ?_
        refine J.ret ?_
        refine thn_ret <|  inB_ret <|  thn_ret <|  thn_ret <|  inB_ret <|  thn_ret <| ?_
        refine fin1 ?_
        exact ⟨rfl, he05⟩
      refine J.skip ?_
      refine J.seq ?_
      refine J.seq ?_
      refine J.region ?_
      refine L.va rfl (X.fieldAddr rfl Try.underlying150 rfl sz_23 (by decide)) ?_
      refine L.va rfl (X.load rfl sc_23 (by first | exact Ld.blk hk5 rfl | exact Ld.blk hk15 rfl | exact hA)) ?_
      refine L.va rfl (X.len rfl Try.underlying23) ?_
      refine L.va rfl (X.gtr rfl rfl) ?_
      refine L.nil ?_
      refine J.dec rfl (fun h5 => ?_) (fun h5 => ?_)
      · rw [fst_at (d := fi0) (i := i) (by omega) hP (by rw [← hx, fE_3 (by omega) (by omega)]; decide), ← hx, fE_3 (by omega) (by omega)]
        refine J.seq ?_
        refine J.region ?_
        refine L.va rfl (X.assign (by conv => lhs; whnf)) ?_
        refine L.nil ?_
        refine J.ret ?_
        refine thn_ret <|  inB_ret <|  thn_ret <|  thn_ret <|  inB_ret <|  thn_ret <| ?_
        refine fin1 ?_
        exact ⟨rfl, he05⟩
      obtain ⟨dn, hdn⟩ : ∃ dn : Nat, x.d = (dn : Int) := ⟨x.d.toNat, by omega⟩
      have hdlt : dn < s.nd := by omega
      refine J.skip ?_
      refine J.seq ?_
      refine J.region ?_
      refine L.va rfl (X.fieldAddr rfl Try.underlying150 rfl sz_23 (by decide)) ?_
      refine L.va rfl (X.load rfl sc_23 (by first | exact Ld.blk hk5 rfl | exact Ld.blk hk15 rfl | exact hA)) ?_
      refine L.va rfl (X.len rfl Try.underlying23) ?_
      refine L.va rfl (X.move (by conv => lhs; whnf)) ?_
      refine L.nil ?_
      refine J.block ?_
      refine J.loop (X := Nat) [4, 8, 39, 40, 41, 42, 43, 44, 45, 46, 47, 48, 49, 50, 51, 52, 53, 54, 55, 56] (fun k => [(39, .int .i64 (k : Int))]) (fun k w' => k ≤ x.n ∧ (∀ j, j < k → cOk s x.d (x.l.getD j 0)) ∧ Ext w5 w') (fun k => x.n - k) (0) (At1 (by first | rfl | exact at_int rfl (by omega) | exact at_slice rfl (by omega) | exact at_int rfl (by simp))) ?_ ?_
      · exact ⟨Nat.zero_le _, fun j hj => absurd hj (by omega), Ext.refl _⟩
      · rintro k g w6 ⟨hk, hQ, he6⟩
        have hk6 := hk5.ext he6
        have hk16 := hk15.ext he6
        have r6 := hX5.r.ext he6
        have hd6 := (H5.ext he6).hd
        refine J.seq ?_
        refine J.region ?_
        refine L.va rfl (X.lss rfl rfl) ?_
        refine L.nil ?_
        refine J.seq ?_
        refine J.dec rfl (fun hlt2 => ?_) (fun hlt2 => ?_)
        · have hkn : k < x.n := by omega
          have hA1 := r6.some_ (by omega)
          have hA2 := hd6.some_ (by omega)
          refine J.skip ?_
          refine J.seq ?_
          refine J.block ?_
          refine J.seq ?_
          refine J.region ?_
          refine L.va rfl ((by first | exact X.index1n rfl rfl Try.underlying23 sz_3 (by first | exact Option.some_ne_none _ | exact r6.some_ (by omega) | exact hd6.some_ (by omega) | exact hA1 | exact hA2) (by omega) | exact X.index1 rfl rfl Try.underlying23 sz_3 (by first | exact Option.some_ne_none _ | exact r6.some_ (by omega) | exact hd6.some_ (by omega) | exact hA1 | exact hA2) (by omega))) ?_
          refine L.va rfl (X.load rfl sc_3 (by first | exact Ld.blk hk6 rfl | exact Ld.blk hk16 rfl | exact Ld.num r6 (by omega) | exact Ld.dimS hd6 (by omega) | exact Ld.dimN hd6 (by omega) | exact hA1 | exact hA2)) ?_
          refine L.va rfl (X.assign (by conv => lhs; whnf)) ?_
          refine L.nil ?_
          refine J.seq ?_
          refine J.region ?_
          refine L.va rfl (X.move (by conv => lhs; whnf)) ?_
          refine L.va rfl (X.lss rfl rfl) ?_
          refine L.va rfl (X.move (by conv => lhs; whnf)) ?_
          refine L.caseDec (k := 45) rfl (fun h6 => ?_) (fun h6 => ?_)
          · refine L.no rfl ?_
            refine L.no rfl ?_
            refine L.no rfl ?_
            refine L.no rfl ?_
            refine L.no rfl ?_
            refine L.no rfl ?_
            refine L.no rfl ?_
            refine L.no rfl ?_
            refine L.no rfl ?_
            refine L.va rfl (X.pickT rfl (by conv => lhs; whnf)) ?_
            refine L.nil ?_
            refine J.iteT rfl ?_
            rw [fst_at (d := fi0) (i := i) (by omega) hP (by rw [← hx, fE_2 (by omega) (by omega) hkn (by unfold cOk; omega)]; decide), ← hx, fE_2 (by omega) (by omega) hkn (by unfold cOk; omega)]
            refine J.seq ?_
            refine J.region ?_
            refine L.va rfl (X.assign (by conv => lhs; whnf)) ?_
            refine L.nil ?_
            refine J.ret ?_
            refine inB_ret <|  thn_ret <|  thn_ret <|  inB_ret <|  inB_ret <|  thn_ret <|  thn_ret <|  inB_ret <|  thn_ret <| ?_
            refine fin1 ?_
            exact ⟨rfl, he05.trans he6⟩
          refine L.va rfl (X.move (by conv => lhs; whnf)) ?_
          refine L.va rfl (X.fieldAddr rfl Try.underlying49 rfl sz_45 (by decide)) ?_
          refine L.va rfl (X.load rfl sc_45 (by first | exact Ld.blk hk6 rfl | exact Ld.blk hk16 rfl | exact Ld.num r6 (by omega) | exact Ld.dimS hd6 (by omega) | exact Ld.dimN hd6 (by omega) | exact hA1 | exact hA2)) ?_
          refine L.va rfl (X.fieldAddr rfl Try.underlying150 rfl sz_3 (by decide)) ?_
          refine L.va rfl (X.load rfl sc_3 (by first | exact Ld.blk hk6 rfl | exact Ld.blk hk16 rfl | exact Ld.num r6 (by omega) | exact Ld.dimS hd6 (by omega) | exact Ld.dimN hd6 (by omega) | exact hA1 | exact hA2)) ?_
          refine L.va rfl ((by first | exact X.indexAddrn rfl rfl Try.underlying45 sz_128 (by first | exact Option.some_ne_none _ | exact r6.some_ (by omega) | exact hd6.some_ (by omega) | exact hA1 | exact hA2) (by omega) | exact X.indexAddr rfl rfl Try.underlying45 sz_128 (by first | exact Option.some_ne_none _ | exact r6.some_ (by omega) | exact hd6.some_ (by omega) | exact hA1 | exact hA2) (by omega))) ?_
          refine L.va rfl (X.fieldP rfl Try.underlying128 rfl sz_3 (by decide) (by first | exact Option.some_ne_none _ | exact r6.some_ (by omega) | exact hd6.some_ (by omega) | exact hA1 | exact hA2)) ?_
          refine L.va rfl (X.load rfl sc_3 (by first | exact Ld.blk hk6 rfl | exact Ld.blk hk16 rfl | exact Ld.num r6 (by omega) | exact Ld.dimS hd6 (by omega) | exact Ld.dimN hd6 (by omega) | exact hA1 | exact hA2)) ?_
          refine L.va rfl (X.geq rfl rfl) ?_
          refine L.va rfl (X.pickF rfl (by conv => lhs; whnf)) ?_
          refine L.nil ?_
          refine J.dec rfl (fun h7 => ?_) (fun h7 => ?_)
          · rw [fst_at (d := fi0) (i := i) (by omega) hP (by rw [← hx, fE_2 (by omega) (by omega) hkn (by unfold cOk; omega)]; decide), ← hx, fE_2 (by omega) (by omega) hkn (by unfold cOk; omega)]
            refine J.seq ?_
            refine J.region ?_
            refine L.va rfl (X.assign (by conv => lhs; whnf)) ?_
            refine L.nil ?_
            refine J.ret ?_
            refine inB_ret <|  thn_ret <|  thn_ret <|  inB_ret <|  inB_ret <|  thn_ret <|  thn_ret <|  inB_ret <|  thn_ret <| ?_
            refine fin1 ?_
            exact ⟨rfl, he05.trans he6⟩
          refine J.skip ?_
          refine J.region ?_
          refine L.va rfl (X.add rfl rfl (by omega)) ?_
          refine L.va rfl (X.move (by conv => lhs; whnf)) ?_
          refine L.nil ?_
          refine ⟨k + 1, At1 (by first | rfl | exact at_int rfl (by omega) | exact at_slice rfl (by omega) | exact at_int rfl (by simp)), (by (iterate 20 refine Agr.lk rfl ?_); exact Agr.lk rfl (Agr.hav rfl Agr.rfl')), ?_⟩
          refine ⟨⟨by omega, fun j hj => ?_, he6⟩, by omega⟩
          rcases Nat.lt_or_ge j k with h | h
          · exact hQ j h
          · obtain rfl : j = k := by omega
            exact ⟨by omega, by omega⟩
        · have e0 : fE s x = 0 := fE_0 (by omega) (by omega) (fun j hj => hQ j (by omega))
          refine J.exit ?_
          refine J.region ?_
          refine L.va rfl (X.add rfl rfl (by omega)) ?_
          refine L.va rfl (X.move (by conv => lhs; whnf)) ?_
          refine L.nil ?_
          refine ⟨i + 1, At1 (by first | rfl | exact at_int rfl (by omega) | exact at_slice rfl (by omega) | exact at_int rfl (by simp)), (by (iterate 3 refine Agr.lk rfl ?_); refine Agr.lk rfl ?_; refine Agr.hav rfl ?_; (iterate 24 refine Agr.lk rfl ?_); exact Agr.lk rfl (Agr.hav rfl Agr.rfl')), ?_⟩
          refine ⟨⟨by omega, fun j hj => ?_, he25.trans he6⟩, by omega⟩
          rcases Nat.lt_or_ge j i with h | h
          · exact hP j h
          · obtain rfl : j = i := by omega
            rw [← hx]; exact e0
    · rw [fst_0 (d := fi0) (fun j hj => hP j (by omega))]
      refine J.exit ?_
      refine J.seq ?_
      refine J.region ?_
      refine L.va rfl (X.assign (by conv => lhs; whnf)) ?_
      refine L.nil ?_
      refine J.ret ?_
      refine fin1 ?_
      exact ⟨rfl, he02.trans he3⟩
theorem rfcheck {s : Sch} {f : Fis} {w : World} (H : s.Here w) (hf : f.At w.heap.size w) : Calls Try.prog 99 #[s.val, f.val] w fun e w' => e = .returned (.int .i64 (fcode s f)) ∧ Ext w w' := by
  have hl := hf.l
  have hm := hf.m
  have hle := H.hle
  unfold maxLen at hm
  refine enter Try.func99 rfl (by kernel_rfl) ?_
  refine J.seq ?_
  refine J.region ?_
  refine L.boxA (l := [_, _, _, _]) rfl rfl ?_
  intro b1 w1 hb1 hs1 hk1 he1
  have H1 := H.ext he1
  refine L.va rfl (X.assign (by conv => lhs; whnf)) ?_
  refine L.nil ?_
  refine J.seq ?_
  refine J.seq ?_
  refine J.region ?_
  refine L.va rfl ((by first | exact X.loadAgg rfl (range_l hk1) Try.underlying49 rfl (by kernel_rfl) | exact X.loadAgg rfl (range_blk hk1) Try.underlying49 rfl (by kernel_rfl))) ?_
  refine L.call rfl en_97 rfl (H1.rcheck) ?_
  rintro e w2 ⟨rfl, he2⟩
  refine ⟨_, rfl, ?_⟩
  have he02 := he1.trans he2
  replace hk1 := hk1.ext he2
  refine L.va rfl (X.neq rfl rfl) ?_
  refine L.nil ?_
  refine J.ndec rfl (fun h1 => ?_) (fun h1 => ?_)
  · have e : fcode s f = 1 := by unfold fcode; rw [if_pos h1]
    rw [e]
    refine J.seq ?_
    refine J.region ?_
    refine L.va rfl (X.assign (by conv => lhs; whnf)) ?_
    refine L.nil ?_
    refine J.ret ?_
    refine thn_ret <| ?_
    refine fin1 ?_
    exact ⟨rfl, he02⟩
  refine J.skip ?_
  refine J.seq ?_
  refine J.seq ?_
  refine J.region ?_
  refine L.va rfl (X.move (by conv => lhs; whnf)) ?_
  refine L.va rfl (X.len rfl Try.underlying51) ?_
  refine L.va rfl (X.gtr rfl rfl) ?_
  refine L.nil ?_
  refine J.dec rfl (fun h2 => ?_) (fun h2 => ?_)
  · have e : fcode s f = 3 := by unfold fcode; rw [if_neg (fun h => h h1), if_pos (by omega)]
    rw [e]
    refine J.seq ?_
    refine J.region ?_
    refine L.va rfl (X.assign (by conv => lhs; whnf)) ?_
    refine L.nil ?_
    refine J.ret ?_
    refine thn_ret <| ?_
    refine fin1 ?_
    exact ⟨rfl, he02⟩
  have e : fcode s f = fst' (fE s) f.l := by unfold fcode; rw [if_neg (fun h => h h1), if_neg (by omega)]
  rw [e]
  have z2 := he02.le
  have H2 := H.ext he02
  refine J.skip ?_
  refine J.seq ?_
  refine J.seq ?_
  refine J.region ?_
  refine L.va rfl (X.assign (by conv => lhs; whnf)) ?_
  refine L.nil ?_
  refine J.block ?_
  refine J.loop (X := Nat) [4, 5, 6, 7, 14, 15, 16, 17, 18, 19, 20, 21, 22, 23, 24, 25, 26, 27, 28, 29, 30, 31, 32, 33, 34, 35, 36, 37, 38, 39, 40, 41, 42, 43, 44, 45, 46, 47, 48, 49, 50, 51, 52, 53, 54, 55, 56, 57, 58, 59, 60, 61, 62, 63, 64, 65, 66] (fun i => [(5, .int .i64 (i : Int))]) (fun i w' => i ≤ f.n ∧ (∀ j, j < i → fE s (f.l.getD j fi0) = 0) ∧ Ext w2 w') (fun i => f.n - i) (0) (At1 (by first | rfl | exact at_int rfl (by omega) | exact at_slice rfl (by omega) | exact at_int rfl (by simp))) ?_ ?_
  · exact ⟨Nat.zero_le _, fun j hj => absurd hj (by omega), Ext.refl _⟩
  · rintro i g w3 ⟨hi, hP, he3⟩
    have z3 := he3.le
    have he03 := he02.trans he3
    have hf3 := hf.ext he03
    have hk3 := hk1.ext he3
    have H3 := H2.ext he3
    refine J.seq ?_
    refine J.seq ?_
    refine J.region ?_
    refine L.va rfl (X.move (by conv => lhs; whnf)) ?_
    refine L.va rfl (X.move (by conv => lhs; whnf)) ?_
    refine L.va rfl (X.len rfl Try.underlying51) ?_
    refine L.va rfl (X.lss rfl rfl) ?_
    refine L.nil ?_
    refine J.dec rfl (fun hlt => ?_) (fun hlt => ?_)
    · have hin : i < f.n := by omega
      have hA := hf3.r.some_ (by omega)
      obtain ⟨x, hx⟩ : ∃ x, x = f.l.getD i fi0 := ⟨_, rfl⟩
      have hX := hf3.one hin
      have hgt := gtF (l := f.l) (i := i) (by omega)
      rw [← hx] at hX hgt
      refine J.skip ?_
      refine J.seq ?_
      refine J.block ?_
      refine J.seq ?_
      refine J.region ?_
      refine L.va rfl (X.move (by conv => lhs; whnf)) ?_
      refine L.va rfl (X.move (by conv => lhs; whnf)) ?_
      refine L.va rfl ((by first | exact X.indexAddrn rfl rfl Try.underlying51 sz_150 (by first | exact Option.some_ne_none _ | exact hA) (by omega) | exact X.indexAddr rfl rfl Try.underlying51 sz_150 (by first | exact Option.some_ne_none _ | exact hA) (by omega))) ?_
      refine L.va rfl (X.loadRow (cs := x.vs) rfl hf3.r (fun r u hu => flat_row fi_len hgt r u hu) (Nat.zero_lt_succ _) Try.underlying150 rfl (by kernel_rfl)) ?_
      refine L.alloc rfl zr_150 ?_
      intro b4 w4 hb4 hs4 hk4 he4
      refine L.storeAgg (vs := [_, _]) rfl rfl rfl rfl sz_150 (hk4) rfl ?_
      intro w5 hk5 hg5 hs5
      have he35 : Ext w3 w5 := he4.grw hg5 (by intro g hg; injection hg with hg; omega)
      have hk5 : Blk w5 b4 150 x.vs.toArray := hk5
      have he05 := he03.trans he35
      have he25 := he3.trans he35
      have hk15 := hk3.ext he35
      have hX5 := hX.ext he35
      have H5 := H3.ext he35
      have hxl := hX5.len
      have hxm := hX5.m
      unfold maxLen at hxm
      have z5 := he25.le
      refine L.nil ?_
      refine J.seq ?_
      refine J.seq ?_
      refine J.region ?_
      refine L.va rfl (X.fieldAddr rfl Try.underlying150 rfl sz_3 (by decide)) ?_
      refine L.va rfl (X.load rfl sc_3 (by first | exact Ld.blk hk5 rfl | exact Ld.blk hk15 rfl | exact hA)) ?_
      refine L.va rfl (X.lss rfl rfl) ?_
      refine L.va rfl (X.move (by conv => lhs; whnf)) ?_
      refine L.caseDec (k := 27) rfl (fun h3 => ?_) (fun h3 => ?_)
      · refine L.no rfl ?_
        refine L.no rfl ?_
        refine L.no rfl ?_
        refine L.no rfl ?_
        refine L.no rfl ?_
        refine L.no rfl ?_
        refine L.va rfl (X.pickT rfl (by conv => lhs; whnf)) ?_
        refine L.nil ?_
        refine J.iteT rfl ?_
        rw [fst_at (d := fi0) (i := i) (by omega) hP (by rw [← hx, fE_11 (by omega)]; decide), ← hx, fE_11 (by omega)]
        refine J.seq ?_
        refine J.region ?_
        refine L.va rfl (X.assign (by conv => lhs; whnf)) ?_
        refine L.nil ?_
        refine J.ret ?_
        refine thn_ret <|  inB_ret <|  thn_ret <|  thn_ret <|  inB_ret <|  thn_ret <| ?_
        refine fin1 ?_
        exact ⟨rfl, he05⟩
      refine L.va rfl (X.fieldAddr rfl Try.underlying150 rfl sz_3 (by decide)) ?_
      refine L.va rfl (X.load rfl sc_3 (by first | exact Ld.blk hk5 rfl | exact Ld.blk hk15 rfl | exact hA)) ?_
      refine L.va rfl (X.fieldAddr rfl Try.underlying49 rfl sz_45 (by decide)) ?_
      refine L.va rfl (X.load rfl sc_45 (by first | exact Ld.blk hk5 rfl | exact Ld.blk hk15 rfl | exact hA)) ?_
      refine L.va rfl (X.len rfl Try.underlying45) ?_
      refine L.va rfl (X.geq rfl rfl) ?_
      refine L.va rfl (X.pickF rfl (by conv => lhs; whnf)) ?_
      refine L.nil ?_
      refine J.dec rfl (fun h4 => ?_) (fun h4 => ?_)
      · rw [fst_at (d := fi0) (i := i) (by omega) hP (by rw [← hx, fE_11 (by omega)]; decide), ← hx, fE_11 (by omega)]
        refine J.seq ?_
        refine J.region ?_
        refine L.va rfl (X.assign (by conv => lhs; whnf)) ?_
        refine L.nil ?_
        refine J.ret ?_
        refine thn_ret <|  inB_ret <|  thn_ret <|  thn_ret <|  inB_ret <|  thn_ret <| ?_
        refine fin1 ?_
        exact ⟨rfl, he05⟩
      refine J.skip ?_
      refine J.seq ?_
      refine J.seq ?_
      refine J.region ?_
      refine L.va rfl (X.fieldAddr rfl Try.underlying150 rfl sz_23 (by decide)) ?_
      refine L.va rfl (X.load rfl sc_23 (by first | exact Ld.blk hk5 rfl | exact Ld.blk hk15 rfl | exact hA)) ?_
      refine L.va rfl (X.len rfl Try.underlying23) ?_
      refine L.va rfl (X.gtr rfl rfl) ?_
      refine L.nil ?_
      refine J.dec rfl (fun h5 => ?_) (fun h5 => ?_)
      · rw [fst_at (d := fi0) (i := i) (by omega) hP (by rw [← hx, fE_3 (by omega) (by omega)]; decide), ← hx, fE_3 (by omega) (by omega)]
        refine J.seq ?_
        refine J.region ?_
        refine L.va rfl (X.assign (by conv => lhs; whnf)) ?_
        refine L.nil ?_
        refine J.ret ?_
        refine thn_ret <|  inB_ret <|  thn_ret <|  thn_ret <|  inB_ret <|  thn_ret <| ?_
        refine fin1 ?_
        exact ⟨rfl, he05⟩
      have hdlt : x.d.toNat < s.nd := by omega
      refine J.skip ?_
      refine J.seq ?_
      refine J.region ?_
      refine L.va rfl (X.assign (by conv => lhs; whnf)) ?_
      refine L.nil ?_
      refine J.block ?_
      refine J.loop (X := Nat) [4, 7, 39, 40, 41, 42, 43, 44, 45, 46, 47, 48, 49, 50, 51, 52, 53, 54, 55, 56, 57, 58, 59, 60, 61, 62, 63, 64, 65, 66] (fun k => [(7, .int .i64 (k : Int))]) (fun k w' => k ≤ x.n ∧ (∀ j, j < k → cOk s x.d (x.l.getD j 0)) ∧ Ext w5 w') (fun k => x.n - k) (0) (At1 (by first | rfl | exact at_int rfl (by omega) | exact at_slice rfl (by omega) | exact at_int rfl (by simp))) ?_ ?_
      · exact ⟨Nat.zero_le _, fun j hj => absurd hj (by omega), Ext.refl _⟩
      · rintro k g w6 ⟨hk, hQ, he6⟩
        have hk6 := hk5.ext he6
        have hk16 := hk15.ext he6
        have r6 := hX5.r.ext he6
        have hd6 := (H5.ext he6).hd
        refine J.seq ?_
        refine J.seq ?_
        refine J.region ?_
        refine L.va rfl (X.move (by conv => lhs; whnf)) ?_
        refine L.va rfl (X.fieldAddr rfl Try.underlying150 rfl sz_23 (by decide)) ?_
        refine L.va rfl (X.load rfl sc_23 (by first | exact Ld.blk hk6 rfl | exact Ld.blk hk16 rfl | exact Ld.num r6 (by omega) | exact Ld.dimS hd6 (by omega) | exact Ld.dimN hd6 (by omega) | exact hA)) ?_
        refine L.va rfl (X.len rfl Try.underlying23) ?_
        refine L.va rfl (X.lss rfl rfl) ?_
        refine L.nil ?_
        refine J.dec rfl (fun hlt2 => ?_) (fun hlt2 => ?_)
        · have hkn : k < x.n := by omega
          have hA1 := r6.some_ (by omega)
          have hA2 := hd6.some_ (by omega)
          refine J.skip ?_
          refine J.seq ?_
          refine J.block ?_
          refine J.seq ?_
          refine J.quiet mixed (by kernel_rfl) ?_
          refine Qt.va rfl (fun w' hw => X.fieldAddr rfl Try.underlying150 rfl sz_23 (by decide)) ?_
          refine Qt.va rfl (fun w' hw => X.load rfl sc_23 (by first | exact Ld.blk (hk6.ext hw) rfl | exact Ld.blk (hk16.ext hw) rfl | exact Ld.num (r6.ext hw) (by omega) | exact Ld.dimS (hd6.ext hw) (by omega) | exact Ld.dimN (hd6.ext hw) (by omega) | exact hA1 | exact hA2)) ?_
          refine Qt.va rfl (fun w' hw => X.move (by conv => lhs; whnf)) ?_
          refine Qt.va rfl (fun w' hw => (by first | exact X.index1n rfl rfl Try.underlying23 sz_3 (by first | exact Option.some_ne_none _ | exact r6.some_ (by omega) | exact hd6.some_ (by omega) | exact hA1 | exact hA2) (by omega) | exact X.index1 rfl rfl Try.underlying23 sz_3 (by first | exact Option.some_ne_none _ | exact r6.some_ (by omega) | exact hd6.some_ (by omega) | exact hA1 | exact hA2) (by omega))) ?_
          refine Qt.va rfl (fun w' hw => X.load rfl sc_3 (by first | exact Ld.blk (hk6.ext hw) rfl | exact Ld.blk (hk16.ext hw) rfl | exact Ld.num (r6.ext hw) (by omega) | exact Ld.dimS (hd6.ext hw) (by omega) | exact Ld.dimN (hd6.ext hw) (by omega) | exact hA1 | exact hA2)) ?_
          refine Qt.va rfl (fun w' hw => X.lss rfl rfl) ?_
          refine Qt.va rfl (fun w' hw => X.move (by conv => lhs; whnf)) ?_
          refine Qt.caseDec (k := 52) rfl (fun h6 => ?_) (fun h6 => ?_)
          · refine Qt.no rfl ?_
            refine Qt.no rfl ?_
            refine Qt.no rfl ?_
            refine Qt.no rfl ?_
            refine Qt.no rfl ?_
            refine Qt.no rfl ?_
            refine Qt.no rfl ?_
            refine Qt.no rfl ?_
            refine Qt.no rfl ?_
            refine Qt.no rfl ?_
            refine Qt.no rfl ?_
            refine Qt.no rfl ?_
            refine Qt.no rfl ?_
            refine Qt.va rfl (fun w' hw => X.pickT rfl (by conv => lhs; whnf)) ?_
            refine Qt.nil (fun w7 hq => ?_)
            replace hk6 := hk6.ext hq
            replace hk16 := hk16.ext hq
            replace r6 := r6.ext hq
            replace hd6 := hd6.ext hq
            refine J.iteT rfl ?_
            rw [fst_at (d := fi0) (i := i) (by omega) hP (by rw [← hx, fE_2 (by omega) (by omega) hkn (by unfold cOk; omega)]; decide), ← hx, fE_2 (by omega) (by omega) hkn (by unfold cOk; omega)]
            refine J.seq ?_
            refine J.region ?_
            refine L.va rfl (X.assign (by conv => lhs; whnf)) ?_
            refine L.nil ?_
            refine J.ret ?_
            refine inB_ret <|  thn_ret <|  thn_ret <|  inB_ret <|  inB_ret <|  thn_ret <|  thn_ret <|  inB_ret <|  thn_ret <| ?_
            refine fin1 ?_
            exact ⟨rfl, he05.trans (he6.trans hq)⟩
          refine Qt.va rfl (fun w' hw => X.fieldAddr rfl Try.underlying150 rfl sz_23 (by decide)) ?_
          refine Qt.va rfl (fun w' hw => X.load rfl sc_23 (by first | exact Ld.blk (hk6.ext hw) rfl | exact Ld.blk (hk16.ext hw) rfl | exact Ld.num (r6.ext hw) (by omega) | exact Ld.dimS (hd6.ext hw) (by omega) | exact Ld.dimN (hd6.ext hw) (by omega) | exact hA1 | exact hA2)) ?_
          refine Qt.va rfl (fun w' hw => X.move (by conv => lhs; whnf)) ?_
          refine Qt.va rfl (fun w' hw => (by first | exact X.index1n rfl rfl Try.underlying23 sz_3 (by first | exact Option.some_ne_none _ | exact r6.some_ (by omega) | exact hd6.some_ (by omega) | exact hA1 | exact hA2) (by omega) | exact X.index1 rfl rfl Try.underlying23 sz_3 (by first | exact Option.some_ne_none _ | exact r6.some_ (by omega) | exact hd6.some_ (by omega) | exact hA1 | exact hA2) (by omega))) ?_
          refine Qt.va rfl (fun w' hw => X.load rfl sc_3 (by first | exact Ld.blk (hk6.ext hw) rfl | exact Ld.blk (hk16.ext hw) rfl | exact Ld.num (r6.ext hw) (by omega) | exact Ld.dimS (hd6.ext hw) (by omega) | exact Ld.dimN (hd6.ext hw) (by omega) | exact hA1 | exact hA2)) ?_
          refine Qt.va rfl (fun w' hw => X.fieldAddr rfl Try.underlying49 rfl sz_45 (by decide)) ?_
          refine Qt.va rfl (fun w' hw => X.load rfl sc_45 (by first | exact Ld.blk (hk6.ext hw) rfl | exact Ld.blk (hk16.ext hw) rfl | exact Ld.num (r6.ext hw) (by omega) | exact Ld.dimS (hd6.ext hw) (by omega) | exact Ld.dimN (hd6.ext hw) (by omega) | exact hA1 | exact hA2)) ?_
          refine Qt.va rfl (fun w' hw => X.fieldAddr rfl Try.underlying150 rfl sz_3 (by decide)) ?_
          refine Qt.va rfl (fun w' hw => X.load rfl sc_3 (by first | exact Ld.blk (hk6.ext hw) rfl | exact Ld.blk (hk16.ext hw) rfl | exact Ld.num (r6.ext hw) (by omega) | exact Ld.dimS (hd6.ext hw) (by omega) | exact Ld.dimN (hd6.ext hw) (by omega) | exact hA1 | exact hA2)) ?_
          refine Qt.va rfl (fun w' hw => (by first | exact X.indexAddrn rfl rfl Try.underlying45 sz_128 (by first | exact Option.some_ne_none _ | exact r6.some_ (by omega) | exact hd6.some_ (by omega) | exact hA1 | exact hA2) (by omega) | exact X.indexAddr rfl rfl Try.underlying45 sz_128 (by first | exact Option.some_ne_none _ | exact r6.some_ (by omega) | exact hd6.some_ (by omega) | exact hA1 | exact hA2) (by omega))) ?_
          refine Qt.va rfl (fun w' hw => X.fieldP rfl Try.underlying128 rfl sz_3 (by decide) (by first | exact Option.some_ne_none _ | exact r6.some_ (by omega) | exact hd6.some_ (by omega) | exact hA1 | exact hA2)) ?_
          refine Qt.va rfl (fun w' hw => X.load rfl sc_3 (by first | exact Ld.blk (hk6.ext hw) rfl | exact Ld.blk (hk16.ext hw) rfl | exact Ld.num (r6.ext hw) (by omega) | exact Ld.dimS (hd6.ext hw) (by omega) | exact Ld.dimN (hd6.ext hw) (by omega) | exact hA1 | exact hA2)) ?_
          refine Qt.va rfl (fun w' hw => X.geq rfl rfl) ?_
          refine Qt.va rfl (fun w' hw => X.pickF rfl (by conv => lhs; whnf)) ?_
          refine Qt.nil (fun w7 hq => ?_)
          replace hk6 := hk6.ext hq
          replace hk16 := hk16.ext hq
          replace r6 := r6.ext hq
          replace hd6 := hd6.ext hq
          refine J.dec rfl (fun h7 => ?_) (fun h7 => ?_)
          · rw [fst_at (d := fi0) (i := i) (by omega) hP (by rw [← hx, fE_2 (by omega) (by omega) hkn (by unfold cOk; omega)]; decide), ← hx, fE_2 (by omega) (by omega) hkn (by unfold cOk; omega)]
            refine J.seq ?_
            refine J.region ?_
            refine L.va rfl (X.assign (by conv => lhs; whnf)) ?_
            refine L.nil ?_
            refine J.ret ?_
            refine inB_ret <|  thn_ret <|  thn_ret <|  inB_ret <|  inB_ret <|  thn_ret <|  thn_ret <|  inB_ret <|  thn_ret <| ?_
            refine fin1 ?_
            exact ⟨rfl, he05.trans (he6.trans hq)⟩
          refine J.skip ?_
          refine J.region ?_
          refine L.va rfl (X.move (by conv => lhs; whnf)) ?_
          refine L.va rfl (X.add rfl rfl (by omega)) ?_
          refine L.va rfl (X.assign (by conv => lhs; whnf)) ?_
          refine L.nil ?_
          refine ⟨k + 1, At1 (by first | rfl | exact at_int rfl (by omega) | exact at_slice rfl (by omega) | exact at_int rfl (by simp)), (by (iterate 30 refine Agr.lk rfl ?_); exact Agr.lk rfl (Agr.hav rfl Agr.rfl')), ?_⟩
          refine ⟨⟨by omega, fun j hj => ?_, he6.trans hq⟩, by omega⟩
          rcases Nat.lt_or_ge j k with h | h
          · exact hQ j h
          · obtain rfl : j = k := by omega
            exact ⟨by omega, by omega⟩
        · have e0 : fE s x = 0 := fE_0 (by omega) (by omega) (fun j hj => hQ j (by omega))
          refine J.exit ?_
          refine J.region ?_
          refine L.va rfl (X.move (by conv => lhs; whnf)) ?_
          refine L.va rfl (X.add rfl rfl (by omega)) ?_
          refine L.va rfl (X.assign (by conv => lhs; whnf)) ?_
          refine L.nil ?_
          refine ⟨i + 1, At1 (by first | rfl | exact at_int rfl (by omega) | exact at_slice rfl (by omega) | exact at_int rfl (by simp)), (by (iterate 8 refine Agr.lk rfl ?_); refine Agr.lk rfl ?_; refine Agr.hav rfl ?_; (iterate 26 refine Agr.lk rfl ?_); exact Agr.lk rfl (Agr.hav rfl Agr.rfl')), ?_⟩
          refine ⟨⟨by omega, fun j hj => ?_, he25.trans he6⟩, by omega⟩
          rcases Nat.lt_or_ge j i with h | h
          · exact hP j h
          · obtain rfl : j = i := by omega
            rw [← hx]; exact e0
    · rw [fst_0 (d := fi0) (fun j hj => hP j (by omega))]
      refine J.exit ?_
      refine J.seq ?_
      refine J.region ?_
      refine L.va rfl (X.assign (by conv => lhs; whnf)) ?_
      refine L.nil ?_
      refine J.ret ?_
      refine fin1 ?_
      exact ⟨rfl, he02.trans he3⟩
end Go.Proofs.Ytlipeplfjkgamaa
namespace Go.Proofs.Ytlipeplfjkgamaa
set_option maxRecDepth 100000
open Go.RowKit H
open Nrm (Up sel mem_sel eq_sel up_sel kp sm nrm nf take_next)
set_option linter.unusedVariables false
def szN (s : Sch) (i : Nat) : Nat := (s.ds.getD i d0).2.toNat
def szs (s : Sch) (n : Nat) : List Nat := (List.range n).map (szN s)
theorem szs_next (s : Sch) (n : Nat) : szs s (n + 1) = szs s n ++ [szN s n] := by unfold szs; rw [List.range_succ, List.map_append]; rfl
theorem szs_len (s : Sch) (n : Nat) : (szs s n).length = n := by simp [szs]
theorem szs_at (s : Sch) {n i : Nat} (h : i < n) : (szs s n).getD i 0 = szN s i := by
  unfold szs
  rw [List.getD, List.getElem?_map, List.getElem?_range h]
  rfl
abbrev Fi.key (f : Fi) : Int × List Int := (f.d, f.l)
theorem key_at {l : List Fi} {i : Nat} (h : i < l.length) : (l.map Fi.key).take (i + 1) = (l.map Fi.key).take i ++ [(l.getD i fi0).key] := by
  rw [take_next _ (0, []) (by rw [List.length_map]; exact h)]
  congr 2
  rw [List.getD, List.getElem?_map, gtF h]
  rfl
structure FOk (s : Sch) (f : Fis) : Prop where
  c : s.code = 0
  n : f.n ≤ 20
  d : ∀ i, i < f.n → 0 ≤ (f.l.getD i fi0).d ∧ (f.l.getD i fi0).d < s.nd
  m : ∀ i, i < f.n → (f.l.getD i fi0).n ≤ 4096
  k : ∀ i j, i < f.n → j < (f.l.getD i fi0).n → cOk s (f.l.getD i fi0).d ((f.l.getD i fi0).l.getD j 0)
theorem fE_ok {s : Sch} {x : Fi} (h : fE s x = 0) : (0 ≤ x.d ∧ x.d < s.nd) ∧ x.n ≤ 4096 ∧ ∀ j, j < x.n → cOk s x.d (x.l.getD j 0) := by
  unfold fE at h
  by_cases h1 : x.d < 0 ∨ (s.nd : Int) ≤ x.d
  · rw [if_pos h1] at h; exact absurd h (by decide)
  · rw [if_neg h1] at h
    by_cases h2 : 4096 < x.n
    · rw [if_pos h2] at h; exact absurd h (by decide)
    · rw [if_neg h2] at h
      by_cases h3 : ∃ i, i < x.n ∧ ¬ cOk s x.d (x.l.getD i 0)
      · rw [if_pos h3] at h; exact absurd h (by decide)
      · refine ⟨by omega, by omega, fun j hj => Decidable.byContradiction fun hn => h3 ⟨j, hj, hn⟩⟩
theorem fok {s : Sch} {f : Fis} (hl : f.l.length = f.n) (h : fcode s f = 0) : FOk s f := by
  unfold fcode at h
  by_cases h1 : s.code = 0
  · rw [if_neg (fun k => k h1)] at h
    by_cases h2 : 20 < f.n
    · rw [if_pos h2] at h; exact absurd h (by decide)
    · rw [if_neg h2] at h
      have := fst_ok (d := fi0) h
      exact ⟨h1, by omega, fun i hi => (fE_ok (this i (by omega))).1, fun i hi => (fE_ok (this i (by omega))).2.1, fun i j hi hj => (fE_ok (this i (by omega))).2.2 j hj⟩
  · rw [if_pos h1] at h; exact absurd h (by decide)
def FiOwn (x : Fi) (N : Nat) (w : World) : Prop := w.ownsRow N 3 1 (.slice x.A x.n x.c) x.n (nums .i64 x.l)
theorem FiOwn.at {x : Fi} {N : Nat} {w : World} (h : FiOwn x N w) : x.At w.heap.size w := ⟨Reads.of_own h, own_max h⟩
structure FisOwn (f : Fis) (N : Nat) (w : World) : Prop where
  o : w.ownsRow N 150 2 (.slice f.A f.n f.c) f.n (f.l.flatMap Fi.vs)
  h : ∀ x, x ∈ f.l → FiOwn x N w
  l : f.l.length = f.n
theorem FisOwn.at {f : Fis} {N : Nat} {w : World} (h : FisOwn f N w) : f.At w.heap.size w := ⟨Reads.of_own h.o, fun x hx => (h.h x hx).at, h.l, own_max h.o⟩
theorem FisOwn.ext {f : Fis} {N : Nat} {w w' : World} (h : FisOwn f N w) (he : Ext w w') : FisOwn f N w' := ⟨h.o.ext he, fun x hx => World.ownsRow.ext (h.h x hx) he, h.l⟩
theorem FisOwn.lower {f : Fis} {N N' : Nat} {w : World} (h : FisOwn f N w) (hb : N' ≤ N) : FisOwn f N' w := ⟨own_lower h.o hb, fun x hx => own_lower (h.h x hx) hb, h.l⟩
theorem fnorm_ok {s : Sch} {f : Fis} {w : World} (H : s.Here w) (hf : f.At w.heap.size w) (hc : fcode s f = 0) : Calls Try.prog 87 #[s.val, f.val] w fun e w' => ∃ r : Fis, e = .returned (.tuple #[r.val, .int .i64 0]) ∧ FisOwn r w.heap.size w' ∧ r.l.map Fi.key = nrm (f.l.map Fi.key) 0 (szs s s.nd) ∧ Ext w w' := by
  have K := fok hf.l hc
  have hl := hf.l
  have hsl := H.len
  have G := Sch.good K.c
  have hnd := G.1
  have hfn := K.n
  obtain ⟨ky, eky⟩ : ∃ ky, ky = f.l.map Fi.key := ⟨_, rfl⟩
  refine enter Try.func87 rfl (by kernel_rfl) ?_
  refine J.seq ?_
  refine J.region ?_
  refine L.boxA (l := [_, _, _, _]) rfl rfl ?_
  intro b1 w1 hb1 hs1 hk1 he1
  refine L.va rfl (X.assign (by conv => lhs; whnf)) ?_
  refine L.va rfl (X.assign (by conv => lhs; whnf)) ?_
  refine L.nil ?_
  refine J.seq ?_
  refine J.seq ?_
  refine J.region ?_
  refine L.va rfl ((by first | exact X.loadAgg rfl (range_l hk1) Try.underlying49 rfl (by kernel_rfl) | exact X.loadAgg rfl (range_blk hk1) Try.underlying49 rfl (by kernel_rfl))) ?_
  refine L.va rfl (X.move (by conv => lhs; whnf)) ?_
  refine L.call rfl en_91 rfl (fcheck (H.ext he1) ((hf.ext he1).more he1.le)) ?_
  rintro e w2 ⟨rfl, he2⟩
  refine ⟨_, rfl, ?_⟩
  rw [hc]
  have he02 := he1.trans he2
  replace hk1 := hk1.ext he2
  refine L.va rfl (X.assign (by conv => lhs; whnf)) ?_
  refine L.nil ?_
  refine J.seq ?_
  refine J.region ?_
  refine L.va rfl (X.move (by conv => lhs; whnf)) ?_
  refine L.va rfl (X.neq rfl rfl) ?_
  refine L.nil ?_
  refine J.iteF rfl ?_
  refine J.skip ?_
  refine J.seq ?_
  refine J.region ?_
  refine L.va rfl (X.assign (by conv => lhs; whnf)) ?_
  refine L.nil ?_
  refine J.seq ?_
  refine J.seq ?_
  refine J.region ?_
  refine L.va rfl (X.fieldAddr rfl Try.underlying49 rfl sz_45 (by decide)) ?_
  refine L.va rfl (X.load rfl sc_45 (by first | exact Ld.blk hk1 rfl)) ?_
  refine L.va rfl (X.len rfl Try.underlying45) ?_
  refine L.va rfl (X.move (by conv => lhs; whnf)) ?_
  refine L.nil ?_
  refine J.block ?_
  refine J.loop (X := Nat × Fis) [7, 8, 9, 10, 11, 13, 23, 24, 25, 26, 27, 28, 29, 30, 31, 32, 33, 34, 35, 36, 37, 38, 39, 40, 41, 42, 43, 44, 45, 46, 47, 48, 49, 50, 51, 52, 53, 54, 55, 56, 57, 58, 59, 60, 61, 62] (fun (i, r) => [(23, .int .i64 (i : Int)), (7, r.val)]) (fun (i, r) w' => i ≤ s.nd ∧ FisOwn r w.heap.size w' ∧ r.l.map Fi.key = nrm ky 0 (szs s i) ∧ Ext w w') (fun (i, _) => s.nd - i) ((0, ⟨none, 0, 0, []⟩)) (At2 (by first | rfl | exact at_int rfl (by omega) | exact at_slice rfl (by omega) | exact at_int rfl (by simp)) (by first | rfl | exact at_int rfl (by omega) | exact at_slice rfl (by omega) | exact at_int rfl (by simp))) ?_ ?_
  · exact ⟨Nat.zero_le _, ⟨own_nil _ _ _ _, (fun x hx => by cases hx), rfl⟩, rfl, he02⟩
  · rintro ⟨i, r⟩ g w3 ⟨hi, hr, hrk, he3⟩
    have hd3 := (H.ext he3).hd
    have z3 := he3.le
    refine J.seq ?_
    refine J.region ?_
    refine L.va rfl (X.lss rfl rfl) ?_
    refine L.nil ?_
    refine J.seq ?_
    refine J.dec rfl (fun hlt => ?_) (fun hlt => ?_)
    · have hil : i < s.nd := by omega
      have hA := hd3.some_ (by omega)
      have hrow := dims_row (l := s.ds) (i := i) (by omega)
      have hbd := szB_at (mono_b (szB_s s.ds) (by omega : i + 1 ≤ s.nd) G.2)
      have hn : ((szN s i : Nat) : Int) = (s.ds.getD i d0).2 := by unfold szN; omega
      refine J.skip ?_
      refine J.seq ?_
      refine J.block ?_
      refine J.seq ?_
      refine J.region ?_
      refine L.va rfl (X.move (by conv => lhs; whnf)) ?_
      refine L.va rfl ((by first | exact X.indexAddrn rfl rfl Try.underlying45 sz_128 (by first | exact Option.some_ne_none _ | exact hA) (by omega) | exact X.indexAddr rfl rfl Try.underlying45 sz_128 (by first | exact Option.some_ne_none _ | exact hA) (by omega))) ?_
      refine L.va rfl (X.loadRow (cs := [.string (s.ds.getD i d0).1, .int .i64 (s.ds.getD i d0).2]) rfl hd3 hrow (Nat.zero_lt_succ _) Try.underlying128 rfl (by kernel_rfl)) ?_
      refine L.alloc rfl zr_128 ?_
      intro b4 w4 hb4 hs4 hk4 he4
      refine L.va rfl (X.assign (by conv => lhs; whnf)) ?_
      refine L.storeAgg (vs := [_, _]) rfl rfl rfl rfl sz_128 (hk4) rfl ?_
      intro w5 hk5 hg5 hs5
      have hk5 : Blk w5 b4 128 #[.string (s.ds.getD i d0).1, .int .i64 (s.ds.getD i d0).2] := hk5
      have he35 : Ext w3 w5 := he4.grw hg5 (by intro g hg; injection hg with hg; omega)
      have he5 := he3.trans he35
      have hr5 := hr.ext he35
      have z5 := he5.le
      rw [← hn] at hk5
      refine L.nil ?_
      refine J.seq ?_
      refine J.region ?_
      refine L.va rfl (X.assign (by conv => lhs; whnf)) ?_
      refine L.nil ?_
      refine J.seq ?_
      refine J.region ?_
      refine L.va rfl (X.assign (by conv => lhs; whnf)) ?_
      refine L.nil ?_
      refine J.seq ?_
      refine J.seq ?_
      refine J.region ?_
      refine L.va rfl (X.move (by conv => lhs; whnf)) ?_
      refine L.va rfl (X.len rfl Try.underlying51) ?_
      refine L.va rfl (X.move (by conv => lhs; whnf)) ?_
      refine L.nil ?_
      refine J.block ?_
      refine J.loop (X := Nat × Bool × Cs) [10, 11, 13, 30, 31, 32, 33, 34, 35, 36, 37, 38, 39, 40, 41, 42, 43, 44, 45, 46, 47] (fun (j, b, cs) => [(30, .int .i64 (j : Int)), (10, .bool b), (11, cs.val)]) (fun (j, b, cs) w' => j ≤ f.n ∧ b = sm (ky.take j) i ∧ (b = true → cs.l = sel (szN s i) (kp (ky.take j) i)) ∧ w'.ownsRow w.heap.size 3 1 cs.val cs.n (nums .i64 cs.l) ∧ Ext w5 w') (fun (j, _) => f.n - j) ((0, false, ⟨none, 0, 0, []⟩)) (At3 (by first | rfl | exact at_int rfl (by omega) | exact at_slice rfl (by omega) | exact at_int rfl (by simp)) (by first | rfl | exact at_int rfl (by omega) | exact at_slice rfl (by omega) | exact at_int rfl (by simp)) (by first | rfl | exact at_int rfl (by omega) | exact at_slice rfl (by omega) | exact at_int rfl (by simp))) ?_ ?_
      · exact ⟨Nat.zero_le _, rfl, (fun h => by cases h), own_nilN _ _ _ _, Ext.refl _⟩
      · rintro ⟨j, b, cs⟩ g w6 ⟨hj, hb, hcs, hoc, he6⟩
        have hk6 := hk5.ext he6
        have he06 := he5.trans he6
        have z6 := he06.le
        have hf6 := hf.ext he06
        refine J.seq ?_
        refine J.region ?_
        refine L.va rfl (X.lss rfl rfl) ?_
        refine L.nil ?_
        refine J.seq ?_
        refine J.dec rfl (fun hlt2 => ?_) (fun hlt2 => ?_)
        · have hjn : j < f.n := by omega
          have hA2 := hf6.r.some_ (by omega)
          obtain ⟨x, hx⟩ : ∃ x, x = f.l.getD j fi0 := ⟨_, rfl⟩
          have hX := hf6.one hjn
          have hgt := gtF (l := f.l) (i := j) (by omega)
          have hxm := K.m j hjn
          have hxk := K.k j
          have hnk := key_at (l := f.l) (i := j) (by omega)
          rw [← hx] at hX hgt hxm hxk hnk
          rw [← eky] at hnk
          have hxl := hX.len
          refine J.skip ?_
          refine J.seq ?_
          refine J.block ?_
          refine J.seq ?_
          refine J.region ?_
          refine L.va rfl ((by first | exact X.indexAddrn rfl rfl Try.underlying51 sz_150 (by first | exact Option.some_ne_none _ | exact hA2) (by omega) | exact X.indexAddr rfl rfl Try.underlying51 sz_150 (by first | exact Option.some_ne_none _ | exact hA2) (by omega))) ?_
          refine L.va rfl (X.loadRow (cs := x.vs) rfl hf6.r (fun r u hu => flat_row fi_len hgt r u hu) (Nat.zero_lt_succ _) Try.underlying150 rfl (by kernel_rfl)) ?_
          refine L.alloc rfl zr_150 ?_
          intro b7 w7 hb7 hs7 hk7 he7
          refine L.storeAgg (vs := [_, _]) rfl rfl rfl rfl sz_150 (hk7) rfl ?_
          intro w8 hk8 hg8 hs8
          have he68 : Ext w6 w8 := he7.grw hg8 (by intro g hg; injection hg with hg; omega)
          have hk8 : Blk w8 b7 150 x.vs.toArray := hk8
          have hX8 := hX.ext he68
          have hoc8 := hoc.ext he68
          have he58 := he6.trans he68
          have he08 := he06.trans he68
          refine L.nil ?_
          refine J.seq ?_
          refine J.seq ?_
          refine J.region ?_
          refine L.va rfl (X.fieldAddr rfl Try.underlying150 rfl sz_3 (by decide)) ?_
          refine L.va rfl (X.load rfl sc_3 (by first | exact Ld.blk hk1 rfl | exact Ld.blk hk8 rfl | exact hA2)) ?_
          refine L.va rfl (X.move (by conv => lhs; whnf)) ?_
          refine L.va rfl (X.neq rfl rfl) ?_
          refine L.nil ?_
          refine J.ndec rfl (fun hne => ?_) (fun hne => ?_)
          · skip
            refine J.exit ?_
            refine J.region ?_
            refine L.va rfl (X.add rfl rfl (by omega)) ?_
            refine L.va rfl (X.move (by conv => lhs; whnf)) ?_
            refine L.nil ?_
            refine ⟨(j + 1, b, cs), At3 (by first | rfl | exact at_int rfl (by omega) | exact at_slice rfl (by omega) | exact at_int rfl (by simp)) (by first | rfl | exact at_int rfl (by omega) | exact at_slice rfl (by omega) | exact at_int rfl (by simp)) (by first | rfl | exact at_int rfl (by omega) | exact at_slice rfl (by omega) | exact at_int rfl (by simp)), (by (iterate 10 refine Agr.lk rfl ?_); exact Agr.lk rfl (Agr.hav rfl Agr.rfl')), ?_⟩
            have e1 : decide (x.d = (i : Int)) = false := by simpa using hne
            refine ⟨⟨by omega, ?_, fun h => ?_, hoc8, he58⟩, by show f.n - (j + 1) < f.n - j; omega⟩
            · rw [hnk, Nrm.sm_next, e1, Bool.or_false]; exact hb
            · rw [hcs h, hnk]
              refine Nrm.sel_congr fun c _ _ => ?_
              rw [Nrm.kp_next, e1]
              simp
          · have hxd : x.d = (i : Int) := by simpa using hne
            have e1 : decide (x.d = (i : Int)) = true := by simpa using hxd
            have hsm : sm (ky.take (j + 1)) i = true := by rw [hnk, Nrm.sm_next, e1, Bool.or_true]
            have hrng : ∀ c, c ∈ x.l → 0 ≤ c ∧ c < (szN s i : Int) := by
              intro c hcx
              obtain ⟨q, hq, rfl⟩ := List.getElem_of_mem hcx
              have := hxk q hjn (by omega)
              rw [List.getD, List.getElem?_eq_getElem hq, hxd] at this
              rw [hn]
              exact this
            have c1 := fun (w' : World) (h : x.At w'.heap.size w') => plainI x.A x.n x.c x.l w' h.r (by omega)
            refine J.skip ?_
            refine J.seq ?_
            refine J.region ?_
            refine L.va rfl (X.move (by conv => lhs; whnf)) ?_
            refine L.nil ?_
            cases b
            · refine J.iteF rfl ?_
              refine J.region ?_
              refine L.va rfl (X.fieldAddr rfl Try.underlying150 rfl sz_23 (by decide)) ?_
              refine L.va rfl (X.load rfl sc_23 (by first | exact Ld.blk hk1 rfl | exact Ld.blk hk8 rfl | exact hA2)) ?_
              refine L.call rfl en_175 rfl ((c1 w8 (hX8.more he08.le))) ?_
              rintro e w9 ⟨cs2, rfl, ho9, he9, hu9, hm9⟩
              refine ⟨_, rfl, ?_⟩
              refine L.va rfl (X.assign (by conv => lhs; whnf)) ?_
              refine L.va rfl (X.assign (by conv => lhs; whnf)) ?_
              refine L.nil ?_
              refine J.region ?_
              refine L.va rfl (X.add rfl rfl (by omega)) ?_
              refine L.va rfl (X.move (by conv => lhs; whnf)) ?_
              refine L.nil ?_
              refine ⟨(j + 1, true, cs2), At3 (by first | rfl | exact at_int rfl (by omega) | exact at_slice rfl (by omega) | exact at_int rfl (by simp)) (by first | rfl | exact at_int rfl (by omega) | exact at_slice rfl (by omega) | exact at_int rfl (by simp)) (by first | rfl | exact at_int rfl (by omega) | exact at_slice rfl (by omega) | exact at_int rfl (by simp)), (by (iterate 16 refine Agr.lk rfl ?_); exact Agr.lk rfl (Agr.hav rfl Agr.rfl')), ?_⟩
              refine ⟨⟨by omega, hsm.symm, fun _ => ?_, own_lower ho9 he08.le, he58.trans he9⟩, by show f.n - (j + 1) < f.n - j; omega⟩
              refine eq_sel hu9 fun c => ?_
              rw [hm9, hnk, Nrm.kp_next, Nrm.kp_none hb.symm, e1]
              constructor
              · intro h; exact ⟨hrng c h, by simpa using h⟩
              · rintro ⟨_, h⟩; simpa using h
            · refine J.iteT rfl ?_
              refine J.region ?_
              refine L.va rfl (X.move (by conv => lhs; whnf)) ?_
              refine L.va rfl (X.fieldAddr rfl Try.underlying150 rfl sz_23 (by decide)) ?_
              refine L.va rfl (X.load rfl sc_23 (by first | exact Ld.blk hk1 rfl | exact Ld.blk hk8 rfl | exact hA2)) ?_
              refine L.call rfl en_175 rfl ((c1 w8 (hX8.more he08.le))) ?_
              rintro e w9 ⟨cs2, rfl, ho9, he9, hu9, hm9⟩
              refine ⟨_, rfl, ?_⟩
              have hoc9 := hoc8.ext he9
              have hcs' := hcs rfl
              have hcn : cs.n ≤ 5000 := by
                have h1 := (Cs.At.own hoc9).len
                have h2 := Nrm.sel_le (szN s i) (kp (ky.take j) i)
                rw [← hcs'] at h2
                have h1 : cs.l.length = cs.n := h1
                omega
              refine L.call rfl en_174 rfl (commonI cs cs2 w9 (.own hoc9) (.own ho9) (by rw [hcs']; exact up_sel _ _) hu9 hcn) ?_
              rintro e wa ⟨cs3, rfl, hoa, hea, hua, hma⟩
              refine ⟨_, rfl, ?_⟩
              refine L.va rfl (X.assign (by conv => lhs; whnf)) ?_
              refine L.nil ?_
              refine J.region ?_
              refine L.va rfl (X.add rfl rfl (by omega)) ?_
              refine L.va rfl (X.move (by conv => lhs; whnf)) ?_
              refine L.nil ?_
              have he0a := he08.trans he9
              refine ⟨(j + 1, true, cs3), At3 (by first | rfl | exact at_int rfl (by omega) | exact at_slice rfl (by omega) | exact at_int rfl (by simp)) (by first | rfl | exact at_int rfl (by omega) | exact at_slice rfl (by omega) | exact at_int rfl (by simp)) (by first | rfl | exact at_int rfl (by omega) | exact at_slice rfl (by omega) | exact at_int rfl (by simp)), (by (iterate 17 refine Agr.lk rfl ?_); exact Agr.lk rfl (Agr.hav rfl Agr.rfl')), ?_⟩
              refine ⟨⟨by omega, hsm.symm, fun _ => ?_, own_lower hoa he0a.le, (he58.trans he9).trans hea⟩, by show f.n - (j + 1) < f.n - j; omega⟩
              refine eq_sel hua fun c => ?_
              rw [hma, hcs', mem_sel, hm9, hnk, Nrm.kp_next, e1, Bool.and_eq_true]
              constructor
              · rintro ⟨⟨h1, h2⟩, h3⟩; exact ⟨h1, h2, by simpa using h3⟩
              · rintro ⟨h1, h2, h3⟩; exact ⟨⟨h1, h2⟩, by simpa using h3⟩
        · obtain rfl : j = f.n := by omega
          have hky : ky.take f.n = ky := List.take_of_length_le (by rw [eky, List.length_map]; omega)
          rw [hky] at hb hcs
          have hr6 := hr5.ext he6
          have hrl := hr6.l
          have hrn : r.n ≤ i := by
            have h1 := congrArg List.length hrk
            rw [List.length_map] at h1
            have h2 := Nrm.nrm_len ky (szs s i) 0
            rw [szs_len] at h2
            omega
          have hnx : nrm ky 0 (szs s (i + 1)) = nrm ky 0 (szs s i) ++ nf ky i (szN s i) := by
            rw [szs_next, Nrm.nrm_snoc, szs_len, Nat.zero_add]
          refine J.exit ?_
          refine J.seq ?_
          refine J.region ?_
          refine L.va rfl (X.move (by conv => lhs; whnf)) ?_
          refine L.va rfl (X.move (by conv => lhs; whnf)) ?_
          cases b
          · refine L.caseBF (k := 49) rfl (by rfl) ?_
            refine L.no rfl ?_
            refine L.no rfl ?_
            refine L.no rfl ?_
            refine L.no rfl ?_
            refine L.no rfl ?_
            refine L.va rfl (X.pickF rfl (by conv => lhs; whnf)) ?_
            refine L.nil ?_
            refine J.iteF rfl ?_
            refine J.skip ?_
            refine J.region ?_
            refine L.va rfl (X.add rfl rfl (by omega)) ?_
            refine L.va rfl (X.move (by conv => lhs; whnf)) ?_
            refine L.nil ?_
            refine ⟨(i + 1, r), At2 (by first | rfl | exact at_int rfl (by omega) | exact at_slice rfl (by omega) | exact at_int rfl (by simp)) (by first | rfl | exact at_int rfl (by omega) | exact at_slice rfl (by omega) | exact at_int rfl (by simp)), (by (iterate 12 refine Agr.lk rfl ?_); refine Agr.lk rfl ?_; refine Agr.hav rfl ?_; (iterate 11 refine Agr.lk rfl ?_); exact Agr.lk rfl (Agr.hav rfl Agr.rfl')), ?_⟩
            refine ⟨⟨by omega, hr6, ?_, he06⟩, by show s.nd - (i + 1) < s.nd - i; omega⟩
            rw [hnx, Nrm.nf_none hb.symm, List.append_nil]
            exact hrk
          · have hcs' := hcs rfl
            have hcl : cs.l.length = cs.n := (Cs.At.own hoc).len
            refine L.caseBT (k := 49) rfl (by rfl) ?_
            refine L.va rfl (X.move (by conv => lhs; whnf)) ?_
            refine L.va rfl (X.len rfl Try.underlying23) ?_
            refine L.va rfl (X.fieldAddr rfl Try.underlying128 rfl sz_3 (by decide)) ?_
            refine L.va rfl (X.load rfl sc_3 (by first | exact Ld.blk hk1 rfl | exact Ld.blk hk6 rfl | exact hA)) ?_
            refine L.va rfl (X.lss rfl rfl) ?_
            refine L.va rfl (X.pickT rfl (by conv => lhs; whnf)) ?_
            refine L.nil ?_
            refine J.dec rfl (fun hlt3 => ?_) (fun hlt3 => ?_)
            · refine J.region ?_
              refine L.va rfl (X.move (by conv => lhs; whnf)) ?_
              refine L.va rfl (X.move (by conv => lhs; whnf)) ?_
              refine L.va rfl (X.move (by conv => lhs; whnf)) ?_
              refine L.va rfl (X.build (l := [_, _]) (Evs.cons (by conv => lhs; whnf) (Evs.cons (by conv => lhs; whnf) Evs.nil)) (bld_run Try.underlying150 (bp_150 Try.underlying150) zr_150 rfl)) ?_
              refine L.bslice1 (l := [_, _]) rfl rfl rfl Try.underlying51 sz_150 zr_150 rfl ?_
              intro b8 w8 hb8 hs8 hk8 he8
              have hoX := hr6.o.ext he8
              refine L.appendV (q := r.n + 1) (ys := ((r.l ++ [Fi.mk i cs.A cs.n cs.c cs.l]).flatMap Fi.vs)) rfl rfl rfl Try.underlying51 el_150 (hoX) ((blk_readsN (sz := 2) (q := 1) (l := (Fi.mk i cs.A cs.n cs.c cs.l).vs) hk8 hk8.lt rfl)) (by first | rfl | exact strs_ones _ | assumption) (by omega) (by simp) (by unfold maxLen; omega) (by omega) ?_
              intro A9 c9 w9 ho9 hg9 hb9 hor9
              refine L.va rfl (X.assign (by conv => lhs; whnf)) ?_
              refine L.nil ?_
              refine J.region ?_
              refine L.va rfl (X.add rfl rfl (by omega)) ?_
              refine L.va rfl (X.move (by conv => lhs; whnf)) ?_
              refine L.nil ?_
              refine ⟨(i + 1, ⟨A9, r.n + 1, c9, r.l ++ [Fi.mk i cs.A cs.n cs.c cs.l]⟩), At2 (by first | rfl | exact at_int rfl (by omega) | exact at_slice rfl (by omega) | exact at_int rfl (by simp)) (by first | rfl | exact at_int rfl (by omega) | exact at_slice rfl (by omega) | exact at_int rfl (by simp)), (by (iterate 19 refine Agr.lk rfl ?_); refine Agr.lk rfl ?_; refine Agr.hav rfl ?_; (iterate 11 refine Agr.lk rfl ?_); exact Agr.lk rfl (Agr.hav rfl Agr.rfl')), ?_⟩
              have he08 := he06.trans he8
              refine ⟨⟨by omega, ⟨ho9, fun y hy => ?_, by show (r.l ++ [_]).length = r.n + 1; rw [List.length_append, hrl]; rfl⟩, ?_, he08.low hb9 (Nat.le_refl _)⟩, by show s.nd - (i + 1) < s.nd - i; omega⟩
              · rcases List.mem_append.1 hy with hy | hy
                · exact World.ownsRow.kept (World.ownsRow.ext (hr6.h y hy) he8) hg9 (own_or (World.ownsRow.ext (hr6.h y hy) he8) hoX (by decide))
                · rw [List.mem_singleton] at hy
                  subst hy
                  exact (hoc.ext he8).kept hg9 (own_or (hoc.ext he8) hoX (by decide))
              · show (r.l ++ [Fi.mk i cs.A cs.n cs.c cs.l]).map Fi.key = _
                rw [List.map_append, hrk, hnx]
                congr 1
                unfold nf
                rw [← hcs', if_pos (by omega)]
                rfl
            · skip
              refine J.skip ?_
              refine J.region ?_
              refine L.va rfl (X.add rfl rfl (by omega)) ?_
              refine L.va rfl (X.move (by conv => lhs; whnf)) ?_
              refine L.nil ?_
              refine ⟨(i + 1, r), At2 (by first | rfl | exact at_int rfl (by omega) | exact at_slice rfl (by omega) | exact at_int rfl (by simp)) (by first | rfl | exact at_int rfl (by omega) | exact at_slice rfl (by omega) | exact at_int rfl (by simp)), (by (iterate 12 refine Agr.lk rfl ?_); refine Agr.lk rfl ?_; refine Agr.hav rfl ?_; (iterate 11 refine Agr.lk rfl ?_); exact Agr.lk rfl (Agr.hav rfl Agr.rfl')), ?_⟩
              refine ⟨⟨by omega, hr6, ?_, he06⟩, by show s.nd - (i + 1) < s.nd - i; omega⟩
              rw [hnx]
              unfold nf
              rw [← hcs', if_neg (by omega), List.append_nil]
              exact hrk
    · obtain rfl : i = s.nd := by omega
      refine J.exit ?_
      refine J.seq ?_
      refine J.region ?_
      refine L.va rfl (X.move (by conv => lhs; whnf)) ?_
      refine L.va rfl (X.assign (by conv => lhs; whnf)) ?_
      refine L.va rfl (X.assign (by conv => lhs; whnf)) ?_
      refine L.nil ?_
      refine J.ret ?_
      refine fin2 ?_
      rw [eky] at hrk
      exact ⟨r, rfl, hr, hrk, he3⟩
end Go.Proofs.Ytlipeplfjkgamaa
namespace Go.Proofs.Ytlipeplfjkgamaa
set_option maxRecDepth 100000
open Go.RowKit H
open Nrm (Up sel mem_sel eq_sel up_sel kp sm nrm nf take_next)
set_option linter.unusedVariables false
theorem keys_no {a b : List Fi} {i : Nat} (ha : i < a.length) (hb : i < b.length) (h : (a.getD i fi0).key ≠ (b.getD i fi0).key) : decide (a.map Fi.key = b.map Fi.key) = false := by
  refine decide_eq_false fun e => h ?_
  have := congrArg (fun l : List (Int × List Int) => l[i]?) e
  simp only [List.getElem?_map, gtF ha, gtF hb, Option.map_some, Option.some.injEq] at this
  exact this
theorem keys_all {a b : List Fi} (hl : a.length = b.length) (h : ∀ i, i < a.length → (a.getD i fi0).key = (b.getD i fi0).key) : decide (a.map Fi.key = b.map Fi.key) = true := by
  refine decide_eq_true (List.ext_getElem (by simp [hl]) fun i h1 h2 => ?_)
  rw [List.length_map] at h1 h2
  have := h i h1
  rw [List.getD, List.getD, List.getElem?_eq_getElem h1, List.getElem?_eq_getElem h2] at this
  simpa using this
theorem rsame28 {a b : Fis} {w : World} (ha : a.At w.heap.size w) (hb : b.At w.heap.size w) : Calls Try.prog 101 #[a.val, b.val] w fun e w' => e = .returned (.bool (decide (a.l.map Fi.key = b.l.map Fi.key))) ∧ Ext w w' := by
  have la := ha.l
  have lb := hb.l
  have ma := ha.m
  have mb := hb.m
  unfold maxLen at ma mb
  refine enter Try.func101 rfl (by kernel_rfl) ?_
  refine J.seq ?_
  refine J.region ?_
  refine L.va rfl (X.assign (by conv => lhs; whnf)) ?_
  refine L.nil ?_
  refine J.seq ?_
  refine J.seq ?_
  refine J.region ?_
  refine L.va rfl (X.move (by conv => lhs; whnf)) ?_
  refine L.va rfl (X.len rfl Try.underlying51) ?_
  refine L.va rfl (X.move (by conv => lhs; whnf)) ?_
  refine L.va rfl (X.len rfl Try.underlying51) ?_
  refine L.va rfl (X.neq rfl rfl) ?_
  refine L.nil ?_
  refine J.ndec rfl (fun h1 => ?_) (fun h1 => ?_)
  · have e : decide (a.l.map Fi.key = b.l.map Fi.key) = false := decide_eq_false fun e => by
      have := congrArg List.length e
      rw [List.length_map, List.length_map] at this
      omega
    rw [e]
    refine J.seq ?_
    refine J.region ?_
    refine L.va rfl (X.assign (by conv => lhs; whnf)) ?_
    refine L.nil ?_
    refine J.ret ?_
    refine thn_ret <| ?_
    refine fin1 ?_
    exact ⟨rfl, Ext.refl _⟩
  · refine J.skip ?_
    refine J.seq ?_
    refine J.seq ?_
    refine J.region ?_
    refine L.va rfl (X.assign (by conv => lhs; whnf)) ?_
    refine L.nil ?_
    refine J.block ?_
    refine J.loop (X := Nat) [4, 5, 6, 12, 13, 14, 15, 16, 17, 18, 19, 20, 21, 22, 23, 24, 25, 26, 27, 28, 29, 30, 31, 32, 33, 34, 35, 36, 37, 38, 39, 40, 41, 42, 43, 44, 45, 46, 47, 48, 49, 50, 51, 52, 53, 54, 55, 56, 57, 58, 59, 60, 61, 62, 63, 64, 65, 66, 67, 68, 69, 70] (fun i => [(5, .int .i64 (i : Int))]) (fun i w' => i ≤ a.n ∧ (∀ j, j < i → (a.l.getD j fi0).key = (b.l.getD j fi0).key) ∧ Ext w w') (fun i => a.n - i) (0) (At1 (by first | rfl | exact at_int rfl (by omega) | exact at_slice rfl (by omega) | exact at_int rfl (by simp))) ?_ ?_
    · exact ⟨Nat.zero_le _, fun j hj => absurd hj (by omega), Ext.refl _⟩
    · rintro i g w3 ⟨hi, hP, he3⟩
      have z3 := he3.le
      have ha3 := ha.ext he3
      have hb3 := hb.ext he3
      refine J.seq ?_
      refine J.seq ?_
      refine J.region ?_
      refine L.va rfl (X.move (by conv => lhs; whnf)) ?_
      refine L.va rfl (X.move (by conv => lhs; whnf)) ?_
      refine L.va rfl (X.len rfl Try.underlying51) ?_
      refine L.va rfl (X.lss rfl rfl) ?_
      refine L.nil ?_
      refine J.dec rfl (fun hlt => ?_) (fun hlt => ?_)
      · have hin : i < a.n := by omega
        have hA := ha3.r.some_ (by omega)
        have hB := hb3.r.some_ (by omega)
        have hbad := keys_no (a := a.l) (b := b.l) (i := i) (by omega) (by omega)
        obtain ⟨x, hx⟩ : ∃ x, x = a.l.getD i fi0 := ⟨_, rfl⟩
        obtain ⟨y, hy⟩ : ∃ y, y = b.l.getD i fi0 := ⟨_, rfl⟩
        have hX := ha3.one hin
        have hY := hb3.one (i := i) (by omega)
        have gx := gtF (l := a.l) (i := i) (by omega)
        have gy := gtF (l := b.l) (i := i) (by omega)
        rw [← hx] at hX gx hbad
        rw [← hy] at hY gy hbad
        have mx := hX.m
        have my := hY.m
        have lx := hX.len
        have ly := hY.len
        unfold maxLen at mx my
        refine J.skip ?_
        refine J.seq ?_
        refine J.block ?_
        refine J.seq ?_
        refine J.seq ?_
        refine J.quiet mixed (by kernel_rfl) ?_
        refine Qt.va rfl (fun w' hw => X.move (by conv => lhs; whnf)) ?_
        refine Qt.va rfl (fun w' hw => X.move (by conv => lhs; whnf)) ?_
        refine Qt.va rfl (fun w' hw => (by first | exact X.indexAddrn rfl rfl Try.underlying51 sz_150 (by first | exact Option.some_ne_none _ | exact hA | exact hB) (by omega) | exact X.indexAddr rfl rfl Try.underlying51 sz_150 (by first | exact Option.some_ne_none _ | exact hA | exact hB) (by omega))) ?_
        refine Qt.va rfl (fun w' hw => X.fieldP rfl Try.underlying150 rfl sz_3 (by decide) (by first | exact Option.some_ne_none _ | exact hA | exact hB)) ?_
        refine Qt.va rfl (fun w' hw => X.load rfl sc_3 (by first | exact hA | exact hB | exact Ld.flat2 fi_len (ha3.r.ext hw) gx (r := 0) rfl | exact Ld.flat2 fi_len (ha3.r.ext hw) gx (r := 1) rfl | exact Ld.flat2 fi_len (hb3.r.ext hw) gy (r := 0) rfl | exact Ld.flat2 fi_len (hb3.r.ext hw) gy (r := 1) rfl)) ?_
        refine Qt.va rfl (fun w' hw => X.move (by conv => lhs; whnf)) ?_
        refine Qt.va rfl (fun w' hw => X.move (by conv => lhs; whnf)) ?_
        refine Qt.va rfl (fun w' hw => (by first | exact X.indexAddrn rfl rfl Try.underlying51 sz_150 (by first | exact Option.some_ne_none _ | exact hA | exact hB) (by omega) | exact X.indexAddr rfl rfl Try.underlying51 sz_150 (by first | exact Option.some_ne_none _ | exact hA | exact hB) (by omega))) ?_
        refine Qt.va rfl (fun w' hw => X.fieldP rfl Try.underlying150 rfl sz_3 (by decide) (by first | exact Option.some_ne_none _ | exact hA | exact hB)) ?_
        refine Qt.va rfl (fun w' hw => X.load rfl sc_3 (by first | exact hA | exact hB | exact Ld.flat2 fi_len (ha3.r.ext hw) gx (r := 0) rfl | exact Ld.flat2 fi_len (ha3.r.ext hw) gx (r := 1) rfl | exact Ld.flat2 fi_len (hb3.r.ext hw) gy (r := 0) rfl | exact Ld.flat2 fi_len (hb3.r.ext hw) gy (r := 1) rfl)) ?_
        refine Qt.va rfl (fun w' hw => X.neq rfl rfl) ?_
        refine Qt.va rfl (fun w' hw => X.move (by conv => lhs; whnf)) ?_
        refine Qt.caseNdec (k := 29) rfl (fun h2 => ?_) (fun h2 => ?_)
        · refine Qt.no rfl ?_
          refine Qt.no rfl ?_
          refine Qt.no rfl ?_
          refine Qt.no rfl ?_
          refine Qt.no rfl ?_
          refine Qt.no rfl ?_
          refine Qt.no rfl ?_
          refine Qt.no rfl ?_
          refine Qt.no rfl ?_
          refine Qt.no rfl ?_
          refine Qt.no rfl ?_
          refine Qt.no rfl ?_
          refine Qt.no rfl ?_
          refine Qt.va rfl (fun w' hw => X.pickT rfl (by conv => lhs; whnf)) ?_
          refine Qt.nil (fun w4 hq => ?_)
          refine J.iteT rfl ?_
          rw [hbad (fun e => by
            have e1 : x.d = y.d := congrArg Prod.fst e
            have e2 : x.l = y.l := congrArg Prod.snd e
            rw [e2] at lx
            omega)]
          refine J.seq ?_
          refine J.region ?_
          refine L.va rfl (X.assign (by conv => lhs; whnf)) ?_
          refine L.nil ?_
          refine J.ret ?_
          refine thn_ret <|  inB_ret <|  thn_ret <|  thn_ret <|  inB_ret <|  thn_ret <| ?_
          refine fin1 ?_
          exact ⟨rfl, he3.trans hq⟩
        refine Qt.va rfl (fun w' hw => X.move (by conv => lhs; whnf)) ?_
        refine Qt.va rfl (fun w' hw => X.move (by conv => lhs; whnf)) ?_
        refine Qt.va rfl (fun w' hw => (by first | exact X.indexAddrn rfl rfl Try.underlying51 sz_150 (by first | exact Option.some_ne_none _ | exact hA | exact hB) (by omega) | exact X.indexAddr rfl rfl Try.underlying51 sz_150 (by first | exact Option.some_ne_none _ | exact hA | exact hB) (by omega))) ?_
        refine Qt.va rfl (fun w' hw => X.fieldP rfl Try.underlying150 rfl sz_23 (by decide) (by first | exact Option.some_ne_none _ | exact hA | exact hB)) ?_
        refine Qt.va rfl (fun w' hw => X.load rfl sc_23 (by first | exact hA | exact hB | exact Ld.flat2 fi_len (ha3.r.ext hw) gx (r := 0) rfl | exact Ld.flat2 fi_len (ha3.r.ext hw) gx (r := 1) rfl | exact Ld.flat2 fi_len (hb3.r.ext hw) gy (r := 0) rfl | exact Ld.flat2 fi_len (hb3.r.ext hw) gy (r := 1) rfl)) ?_
        refine Qt.va rfl (fun w' hw => X.len rfl Try.underlying23) ?_
        refine Qt.va rfl (fun w' hw => X.move (by conv => lhs; whnf)) ?_
        refine Qt.va rfl (fun w' hw => X.move (by conv => lhs; whnf)) ?_
        refine Qt.va rfl (fun w' hw => (by first | exact X.indexAddrn rfl rfl Try.underlying51 sz_150 (by first | exact Option.some_ne_none _ | exact hA | exact hB) (by omega) | exact X.indexAddr rfl rfl Try.underlying51 sz_150 (by first | exact Option.some_ne_none _ | exact hA | exact hB) (by omega))) ?_
        refine Qt.va rfl (fun w' hw => X.fieldP rfl Try.underlying150 rfl sz_23 (by decide) (by first | exact Option.some_ne_none _ | exact hA | exact hB)) ?_
        refine Qt.va rfl (fun w' hw => X.load rfl sc_23 (by first | exact hA | exact hB | exact Ld.flat2 fi_len (ha3.r.ext hw) gx (r := 0) rfl | exact Ld.flat2 fi_len (ha3.r.ext hw) gx (r := 1) rfl | exact Ld.flat2 fi_len (hb3.r.ext hw) gy (r := 0) rfl | exact Ld.flat2 fi_len (hb3.r.ext hw) gy (r := 1) rfl)) ?_
        refine Qt.va rfl (fun w' hw => X.len rfl Try.underlying23) ?_
        refine Qt.va rfl (fun w' hw => X.neq rfl rfl) ?_
        refine Qt.va rfl (fun w' hw => X.pickF rfl (by conv => lhs; whnf)) ?_
        refine Qt.nil (fun w4 hq => ?_)
        refine J.ndec rfl (fun h3 => ?_) (fun h3 => ?_)
        · rw [hbad (fun e => by
            have e1 : x.d = y.d := congrArg Prod.fst e
            have e2 : x.l = y.l := congrArg Prod.snd e
            rw [e2] at lx
            omega)]
          refine J.seq ?_
          refine J.region ?_
          refine L.va rfl (X.assign (by conv => lhs; whnf)) ?_
          refine L.nil ?_
          refine J.ret ?_
          refine thn_ret <|  inB_ret <|  thn_ret <|  thn_ret <|  inB_ret <|  thn_ret <| ?_
          refine fin1 ?_
          exact ⟨rfl, he3.trans hq⟩
        have he4 := he3.trans hq
        have z4 := he4.le
        refine J.skip ?_
        refine J.seq ?_
        refine J.region ?_
        refine L.va rfl (X.assign (by conv => lhs; whnf)) ?_
        refine L.nil ?_
        refine J.block ?_
        refine J.loop (X := Nat) [4, 6, 44, 45, 46, 47, 48, 49, 50, 51, 52, 53, 54, 55, 56, 57, 58, 59, 60, 61, 62, 63, 64, 65, 66, 67, 68, 69, 70] (fun k => [(6, .int .i64 (k : Int))]) (fun k w' => k ≤ x.n ∧ (∀ j, j < k → x.l.getD j 0 = y.l.getD j 0) ∧ Ext w4 w') (fun k => x.n - k) (0) (At1 (by first | rfl | exact at_int rfl (by omega) | exact at_slice rfl (by omega) | exact at_int rfl (by simp))) ?_ ?_
        · exact ⟨Nat.zero_le _, fun j hj => absurd hj (by omega), Ext.refl _⟩
        · rintro k g w5 ⟨hk, hQ, he5⟩
          have ha5 := (ha3.ext hq).ext he5
          have hb5 := (hb3.ext hq).ext he5
          have r5 := (hX.ext hq).ext he5 |>.r
          have s5 := (hY.ext hq).ext he5 |>.r
          refine J.seq ?_
          refine J.seq ?_
          refine J.region ?_
          refine L.va rfl (X.move (by conv => lhs; whnf)) ?_
          refine L.va rfl (X.move (by conv => lhs; whnf)) ?_
          refine L.va rfl (X.move (by conv => lhs; whnf)) ?_
          refine L.va rfl ((by first | exact X.indexAddrn rfl rfl Try.underlying51 sz_150 (by first | exact Option.some_ne_none _ | exact r5.some_ (by omega) | exact s5.some_ (by omega) | exact hA | exact hB) (by omega) | exact X.indexAddr rfl rfl Try.underlying51 sz_150 (by first | exact Option.some_ne_none _ | exact r5.some_ (by omega) | exact s5.some_ (by omega) | exact hA | exact hB) (by omega))) ?_
          refine L.va rfl (X.fieldP rfl Try.underlying150 rfl sz_23 (by decide) (by first | exact Option.some_ne_none _ | exact r5.some_ (by omega) | exact s5.some_ (by omega) | exact hA | exact hB)) ?_
          refine L.va rfl (X.load rfl sc_23 (by first | exact Ld.num r5 (by omega) | exact Ld.num s5 (by omega) | exact hA | exact hB | exact Ld.flat2 fi_len ha5.r gx (r := 0) rfl | exact Ld.flat2 fi_len ha5.r gx (r := 1) rfl | exact Ld.flat2 fi_len hb5.r gy (r := 0) rfl | exact Ld.flat2 fi_len hb5.r gy (r := 1) rfl)) ?_
          refine L.va rfl (X.len rfl Try.underlying23) ?_
          refine L.va rfl (X.lss rfl rfl) ?_
          refine L.nil ?_
          refine J.dec rfl (fun hlt2 => ?_) (fun hlt2 => ?_)
          · have hA1 := r5.some_ (by omega)
            have hB1 := s5.some_ (by omega)
            refine J.skip ?_
            refine J.seq ?_
            refine J.block ?_
            refine J.seq ?_
            refine J.quiet mixed (by kernel_rfl) ?_
            refine Qt.va rfl (fun w' hw => X.move (by conv => lhs; whnf)) ?_
            refine Qt.va rfl (fun w' hw => X.move (by conv => lhs; whnf)) ?_
            refine Qt.va rfl (fun w' hw => (by first | exact X.indexAddrn rfl rfl Try.underlying51 sz_150 (by first | exact Option.some_ne_none _ | exact r5.some_ (by omega) | exact s5.some_ (by omega) | exact hA | exact hB | exact hA1 | exact hB1) (by omega) | exact X.indexAddr rfl rfl Try.underlying51 sz_150 (by first | exact Option.some_ne_none _ | exact r5.some_ (by omega) | exact s5.some_ (by omega) | exact hA | exact hB | exact hA1 | exact hB1) (by omega))) ?_
            refine Qt.va rfl (fun w' hw => X.fieldP rfl Try.underlying150 rfl sz_23 (by decide) (by first | exact Option.some_ne_none _ | exact r5.some_ (by omega) | exact s5.some_ (by omega) | exact hA | exact hB | exact hA1 | exact hB1)) ?_
            refine Qt.va rfl (fun w' hw => X.load rfl sc_23 (by first | exact Ld.num (r5.ext hw) (by omega) | exact Ld.num (s5.ext hw) (by omega) | exact hA | exact hB | exact hA1 | exact hB1 | exact Ld.flat2 fi_len (ha5.r.ext hw) gx (r := 1) rfl | exact Ld.flat2 fi_len (hb5.r.ext hw) gy (r := 1) rfl)) ?_
            refine Qt.va rfl (fun w' hw => X.move (by conv => lhs; whnf)) ?_
            refine Qt.va rfl (fun w' hw => (by first | exact X.index1n rfl rfl Try.underlying23 sz_3 (by first | exact Option.some_ne_none _ | exact r5.some_ (by omega) | exact s5.some_ (by omega) | exact hA | exact hB | exact hA1 | exact hB1) (by omega) | exact X.index1 rfl rfl Try.underlying23 sz_3 (by first | exact Option.some_ne_none _ | exact r5.some_ (by omega) | exact s5.some_ (by omega) | exact hA | exact hB | exact hA1 | exact hB1) (by omega))) ?_
            refine Qt.va rfl (fun w' hw => X.load rfl sc_3 (by first | exact Ld.num (r5.ext hw) (by omega) | exact Ld.num (s5.ext hw) (by omega) | exact hA | exact hB | exact hA1 | exact hB1 | exact Ld.flat2 fi_len (ha5.r.ext hw) gx (r := 1) rfl | exact Ld.flat2 fi_len (hb5.r.ext hw) gy (r := 1) rfl)) ?_
            refine Qt.va rfl (fun w' hw => X.move (by conv => lhs; whnf)) ?_
            refine Qt.va rfl (fun w' hw => X.move (by conv => lhs; whnf)) ?_
            refine Qt.va rfl (fun w' hw => (by first | exact X.indexAddrn rfl rfl Try.underlying51 sz_150 (by first | exact Option.some_ne_none _ | exact r5.some_ (by omega) | exact s5.some_ (by omega) | exact hA | exact hB | exact hA1 | exact hB1) (by omega) | exact X.indexAddr rfl rfl Try.underlying51 sz_150 (by first | exact Option.some_ne_none _ | exact r5.some_ (by omega) | exact s5.some_ (by omega) | exact hA | exact hB | exact hA1 | exact hB1) (by omega))) ?_
            refine Qt.va rfl (fun w' hw => X.fieldP rfl Try.underlying150 rfl sz_23 (by decide) (by first | exact Option.some_ne_none _ | exact r5.some_ (by omega) | exact s5.some_ (by omega) | exact hA | exact hB | exact hA1 | exact hB1)) ?_
            refine Qt.va rfl (fun w' hw => X.load rfl sc_23 (by first | exact Ld.num (r5.ext hw) (by omega) | exact Ld.num (s5.ext hw) (by omega) | exact hA | exact hB | exact hA1 | exact hB1 | exact Ld.flat2 fi_len (ha5.r.ext hw) gx (r := 1) rfl | exact Ld.flat2 fi_len (hb5.r.ext hw) gy (r := 1) rfl)) ?_
            refine Qt.va rfl (fun w' hw => X.move (by conv => lhs; whnf)) ?_
            refine Qt.va rfl (fun w' hw => (by first | exact X.index1n rfl rfl Try.underlying23 sz_3 (by first | exact Option.some_ne_none _ | exact r5.some_ (by omega) | exact s5.some_ (by omega) | exact hA | exact hB | exact hA1 | exact hB1) (by omega) | exact X.index1 rfl rfl Try.underlying23 sz_3 (by first | exact Option.some_ne_none _ | exact r5.some_ (by omega) | exact s5.some_ (by omega) | exact hA | exact hB | exact hA1 | exact hB1) (by omega))) ?_
            refine Qt.va rfl (fun w' hw => X.load rfl sc_3 (by first | exact Ld.num (r5.ext hw) (by omega) | exact Ld.num (s5.ext hw) (by omega) | exact hA | exact hB | exact hA1 | exact hB1 | exact Ld.flat2 fi_len (ha5.r.ext hw) gx (r := 1) rfl | exact Ld.flat2 fi_len (hb5.r.ext hw) gy (r := 1) rfl)) ?_
            refine Qt.va rfl (fun w' hw => X.neq rfl rfl) ?_
            refine Qt.nil (fun w6 hq6 => ?_)
            replace r5 := r5.ext hq6
            replace s5 := s5.ext hq6
            refine J.ndec rfl (fun hne => ?_) (fun hne => ?_)
            · rw [hbad (fun e => hne (by have e2 : x.l = y.l := congrArg Prod.snd e; rw [e2]))]
              refine J.seq ?_
              refine J.region ?_
              refine L.va rfl (X.assign (by conv => lhs; whnf)) ?_
              refine L.nil ?_
              refine J.ret ?_
              refine inB_ret <|  thn_ret <|  thn_ret <|  inB_ret <|  inB_ret <|  thn_ret <|  thn_ret <|  inB_ret <|  thn_ret <| ?_
              refine fin1 ?_
              exact ⟨rfl, (he4.trans he5).trans hq6⟩
            · skip
              refine J.skip ?_
              refine J.region ?_
              refine L.va rfl (X.move (by conv => lhs; whnf)) ?_
              refine L.va rfl (X.add rfl rfl (by omega)) ?_
              refine L.va rfl (X.assign (by conv => lhs; whnf)) ?_
              refine L.nil ?_
              refine ⟨k + 1, At1 (by first | rfl | exact at_int rfl (by omega) | exact at_slice rfl (by omega) | exact at_int rfl (by simp)), (by (iterate 28 refine Agr.lk rfl ?_); exact Agr.lk rfl (Agr.hav rfl Agr.rfl')), ?_⟩
              refine ⟨⟨by omega, fun j hj => ?_, he5.trans hq6⟩, by omega⟩
              rcases Nat.lt_or_ge j k with h | h
              · exact hQ j h
              · obtain rfl : j = k := by omega
                exact hne
          · skip
            refine J.exit ?_
            refine J.region ?_
            refine L.va rfl (X.move (by conv => lhs; whnf)) ?_
            refine L.va rfl (X.add rfl rfl (by omega)) ?_
            refine L.va rfl (X.assign (by conv => lhs; whnf)) ?_
            refine L.nil ?_
            refine ⟨i + 1, At1 (by first | rfl | exact at_int rfl (by omega) | exact at_slice rfl (by omega) | exact at_int rfl (by simp)), (by (iterate 11 refine Agr.lk rfl ?_); refine Agr.lk rfl ?_; refine Agr.hav rfl ?_; (iterate 32 refine Agr.lk rfl ?_); exact Agr.lk rfl (Agr.hav rfl Agr.rfl')), ?_⟩
            refine ⟨⟨by omega, fun j hj => ?_, he4.trans he5⟩, by omega⟩
            rcases Nat.lt_or_ge j i with h | h
            · exact hP j h
            · obtain rfl : j = i := by omega
              rw [← hx, ← hy]
              have e1 : x.d = y.d := by omega
              have e2 : x.l = y.l := List.ext_getElem (by omega) fun q h1 h2 => by
                have := hQ q (by omega)
                rw [List.getD, List.getD, List.getElem?_eq_getElem h1, List.getElem?_eq_getElem h2] at this
                exact this
              show (x.d, x.l) = (y.d, y.l)
              rw [e1, e2]
      · rw [keys_all (by omega) (fun j hj => hP j (by omega))]
        refine J.exit ?_
        refine J.seq ?_
        refine J.region ?_
        refine L.va rfl (X.assign (by conv => lhs; whnf)) ?_
        refine L.nil ?_
        refine J.ret ?_
        refine fin1 ?_
        exact ⟨rfl, he3⟩
theorem kp_part {l : Nrm.Ks} {j : Nat} {d c : Int} (h : kp (l.take j) d c = false) : kp l d c = false := by
  cases hk : kp l d c
  · rfl
  · rw [Nrm.kp_iff] at hk
    have : kp (l.take j) d c = true := Nrm.kp_iff.2 fun f hf => hk f (List.mem_of_mem_take hf)
    rw [h] at this
    cases this
theorem rnorm28 {s : Sch} {f : Fis} {w : World} (H : s.Here w) (hf : f.At w.heap.size w) (hc : s.code = 0) : Calls Try.prog 102 #[s.val, f.val] w fun e w' => ∃ r : Fis, e = .returned r.val ∧ FisOwn r w.heap.size w' ∧ r.l.map Fi.key = nrm (f.l.map Fi.key) 0 (szs s s.nd) ∧ Ext w w' := by
  have hl := hf.l
  have hfm := hf.m
  unfold maxLen at hfm
  have hsl := H.len
  have G := Sch.good hc
  have hnd := G.1
  obtain ⟨ky, eky⟩ : ∃ ky, ky = f.l.map Fi.key := ⟨_, rfl⟩
  have hkl : ky.length = f.n := by rw [eky, List.length_map, hl]
  refine enter Try.func102 rfl (by kernel_rfl) ?_
  refine J.seq ?_
  refine J.region ?_
  refine L.boxA (l := [_, _, _, _]) rfl rfl ?_
  intro b1 w1 hb1 hs1 hk1 he1
  have z1 := he1.le
  refine L.va rfl (X.assign (by conv => lhs; whnf)) ?_
  refine L.nil ?_
  refine J.seq ?_
  refine J.region ?_
  refine L.va rfl (X.assign (by conv => lhs; whnf)) ?_
  refine L.nil ?_
  refine J.seq ?_
  refine J.seq ?_
  refine J.region ?_
  refine L.va rfl (X.assign (by conv => lhs; whnf)) ?_
  refine L.nil ?_
  refine J.block ?_
  refine J.loop (X := Nat × Fis) [5, 6, 7, 8, 9, 10, 11, 12, 13, 14, 15, 16, 17, 18, 19, 20, 21, 22, 23, 24, 25, 26, 27, 28, 29, 30, 31, 32, 33, 34, 35, 36, 37, 38, 39, 40, 41, 42, 43, 44, 45, 46, 47, 48, 49, 50, 51, 52, 53, 54, 55, 56, 57, 58, 59, 60, 61, 62, 63, 64, 65, 66, 67, 68, 69, 70, 71, 72, 73, 74, 75] (fun (i, r) => [(6, .int .i64 (i : Int)), (5, r.val)]) (fun (i, r) w' => i ≤ s.nd ∧ FisOwn r w1.heap.size w' ∧ r.l.map Fi.key = nrm ky 0 (szs s i) ∧ Ext w1 w') (fun (i, _) => s.nd - i) ((0, ⟨none, 0, 0, []⟩)) (At2 (by first | rfl | exact at_int rfl (by omega) | exact at_slice rfl (by omega) | exact at_int rfl (by simp)) (by first | rfl | exact at_int rfl (by omega) | exact at_slice rfl (by omega) | exact at_int rfl (by simp))) ?_ ?_
  · exact ⟨Nat.zero_le _, ⟨own_nil _ _ _ _, (fun x hx => by cases hx), rfl⟩, rfl, Ext.refl _⟩
  · rintro ⟨i, r⟩ g w3 ⟨hi, hr, hrk, he3⟩
    have hk3 := hk1.ext he3
    have he03 := he1.trans he3
    have z3 := he03.le
    have y3 := he3.le
    refine J.seq ?_
    refine J.seq ?_
    refine J.region ?_
    refine L.va rfl (X.move (by conv => lhs; whnf)) ?_
    refine L.va rfl (X.fieldAddr rfl Try.underlying49 rfl sz_45 (by decide)) ?_
    refine L.va rfl (X.load rfl sc_45 (by first | exact Ld.blk hk3 rfl)) ?_
    refine L.va rfl (X.len rfl Try.underlying45) ?_
    refine L.va rfl (X.lss rfl rfl) ?_
    refine L.nil ?_
    refine J.dec rfl (fun hlt => ?_) (fun hlt => ?_)
    · have hil : i < s.nd := by omega
      have hbd := szB_at (mono_b (szB_s s.ds) (by omega : i + 1 ≤ s.nd) G.2)
      have hn : (s.ds.getD i d0).2 = ((szN s i : Nat) : Int) := by unfold szN; omega
      have hn5 : szN s i ≤ 4096 := by omega
      refine J.skip ?_
      refine J.seq ?_
      refine J.block ?_
      refine J.seq ?_
      refine J.region ?_
      refine L.va rfl (X.move (by conv => lhs; whnf)) ?_
      refine L.va rfl (X.build (l := [_, _]) (Evs.cons (by conv => lhs; whnf) Evs.nil) (bld_run Try.underlying150 (bp_150 Try.underlying150) zr_150 rfl)) ?_
      refine L.alloc rfl zr_150 ?_
      intro b4 w4 hb4 hs4 hk4 he4
      refine L.storeAgg (vs := [_, _]) rfl rfl rfl rfl sz_150 (hk4) rfl ?_
      intro w5 hk5 hg5 hs5
      have he35 : Ext w3 w5 := he4.grw hg5 (by intro g hg; injection hg with hg; omega)
      have hk5 : Blk w5 b4 150 #[.int .i64 (i : Int), .slice none 0 0] := hk5
      have he5 := he03.trans he35
      have hk15 := hk3.ext he35
      have z5 := he5.le
      refine L.nil ?_
      refine J.seq ?_
      refine J.seq ?_
      refine J.region ?_
      refine L.va rfl (X.assign (by conv => lhs; whnf)) ?_
      refine L.nil ?_
      refine J.block ?_
      refine J.loop (X := Nat × Cs) [8, 9, 10, 20, 21, 22, 23, 24, 25, 26, 27, 28, 29, 30, 31, 32, 33, 34, 35, 36, 37, 38, 39, 40, 41, 42, 43, 44, 45, 46, 47, 48, 49, 50, 51, 52, 53, 54, 55, 56, 57, 58, 59, 60, 61] (fun (c, cs) => [(8, .int .i64 (c : Int))]) (fun (c, cs) w' => c ≤ szN s i ∧ cs.l = sel c (kp ky i) ∧ w'.ownsRow w3.heap.size 3 1 cs.val cs.n (nums .i64 cs.l) ∧ Blk w' b4 150 #[.int .i64 (i : Int), cs.val] ∧ Ext w3 w') (fun (c, _) => szN s i - c) ((0, ⟨none, 0, 0, []⟩)) (At1 (by first | rfl | exact at_int rfl (by omega) | exact at_slice rfl (by omega) | exact at_int rfl (by simp))) ?_ ?_
      · exact ⟨Nat.zero_le _, rfl, own_nilN _ _ _ _, hk5, he35⟩
      · rintro ⟨c, cs⟩ g w6 ⟨hci, hcs, hoc, hk6, he6⟩
        have hk16 := hk3.ext he6
        have he06 := he03.trans he6
        have z6 := he06.le
        have hd6 := (H.ext he06).hd
        have hA := hd6.some_ (by omega)
        have hf6 := hf.ext he06
        have hcl : cs.l.length = cs.n := (Cs.At.own hoc).len
        have hcn : cs.n ≤ c := by
          have := Nrm.sel_le c (kp ky i)
          rw [← hcs] at this
          omega
        refine J.seq ?_
        refine J.seq ?_
        refine J.region ?_
        refine L.va rfl (X.move (by conv => lhs; whnf)) ?_
        refine L.va rfl (X.fieldAddr rfl Try.underlying49 rfl sz_45 (by decide)) ?_
        refine L.va rfl (X.load rfl sc_45 (by first | exact Ld.blk hk16 rfl | exact Ld.blk hk6 rfl | exact Ld.dimS hd6 (by omega) | exact Ld.dimN hd6 (by omega) | exact hA)) ?_
        refine L.va rfl (X.move (by conv => lhs; whnf)) ?_
        refine L.va rfl ((by first | exact X.indexAddrn rfl rfl Try.underlying45 sz_128 (by first | exact Option.some_ne_none _ | exact hd6.some_ (by omega) | exact hA) (by omega) | exact X.indexAddr rfl rfl Try.underlying45 sz_128 (by first | exact Option.some_ne_none _ | exact hd6.some_ (by omega) | exact hA) (by omega))) ?_
        refine L.va rfl (X.fieldP rfl Try.underlying128 rfl sz_3 (by decide) (by first | exact Option.some_ne_none _ | exact hd6.some_ (by omega) | exact hA)) ?_
        refine L.va rfl (X.load rfl sc_3 (by first | exact Ld.blk hk16 rfl | exact Ld.blk hk6 rfl | exact Ld.dimS hd6 (by omega) | exact Ld.dimN hd6 (by omega) | exact hA)) ?_
        refine L.va rfl (X.lss rfl rfl) ?_
        refine L.nil ?_
        refine J.dec rfl (fun hlt2 => ?_) (fun hlt2 => ?_)
        · have hcn2 : c < szN s i := by rw [hn] at hlt2; omega
          refine J.skip ?_
          refine J.seq ?_
          refine J.block ?_
          refine J.seq ?_
          refine J.region ?_
          refine L.va rfl (X.assign (by conv => lhs; whnf)) ?_
          refine L.nil ?_
          refine J.seq ?_
          refine J.seq ?_
          refine J.region ?_
          refine L.va rfl (X.assign (by conv => lhs; whnf)) ?_
          refine L.nil ?_
          refine J.block ?_
          refine J.loop (X := Nat × Bool) [9, 10, 30, 31, 32, 33, 34, 35, 36, 37, 38, 39, 40, 41, 42, 43, 44, 45, 46, 47, 48, 49, 50, 51, 52, 53, 54] (fun (j, b) => [(10, .int .i64 (j : Int)), (9, .bool b)]) (fun (j, b) w' => j ≤ f.n ∧ b = kp (ky.take j) i c ∧ Ext w6 w') (fun (j, _) => f.n - j) ((0, true)) (At2 (by first | rfl | exact at_int rfl (by omega) | exact at_slice rfl (by omega) | exact at_int rfl (by simp)) (by first | rfl | exact at_int rfl (by omega) | exact at_slice rfl (by omega) | exact at_int rfl (by simp))) ?_ ?_
          · exact ⟨Nat.zero_le _, rfl, Ext.refl _⟩
          · rintro ⟨j, b⟩ g w7 ⟨hj, hb, he7⟩
            have hf7 := hf6.ext he7
            have hk7 := hk6.ext he7
            have hk17 := hk16.ext he7
            have z7 := he7.le
            refine J.seq ?_
            refine J.seq ?_
            refine J.region ?_
            refine L.va rfl (X.move (by conv => lhs; whnf)) ?_
            refine L.va rfl (X.move (by conv => lhs; whnf)) ?_
            refine L.va rfl (X.len rfl Try.underlying51) ?_
            refine L.va rfl (X.lss rfl rfl) ?_
            refine L.va rfl (X.move (by conv => lhs; whnf)) ?_
            refine L.caseDec (k := 34) rfl (fun hlt3 => ?_) (fun hlt3 => ?_)
            · refine L.va rfl (X.move (by conv => lhs; whnf)) ?_
              refine L.va rfl (X.pickT rfl (by conv => lhs; whnf)) ?_
              refine L.nil ?_
              cases b
              · refine J.iteF rfl ?_
                refine J.exit ?_
                refine J.seq ?_
                refine J.region ?_
                refine L.va rfl (X.move (by conv => lhs; whnf)) ?_
                refine L.nil ?_
                refine J.iteF rfl ?_
                refine J.skip ?_
                refine J.region ?_
                refine L.va rfl (X.move (by conv => lhs; whnf)) ?_
                refine L.va rfl (X.add rfl rfl (by omega)) ?_
                refine L.va rfl (X.assign (by conv => lhs; whnf)) ?_
                refine L.nil ?_
                refine ⟨(c + 1, cs), At1 (by first | rfl | exact at_int rfl (by omega) | exact at_slice rfl (by omega) | exact at_int rfl (by simp)), (by (iterate 12 refine Agr.lk rfl ?_); refine Agr.lk rfl ?_; refine Agr.hav rfl ?_; (iterate 10 refine Agr.lk rfl ?_); exact Agr.lk rfl (Agr.hav rfl Agr.rfl')), ?_⟩
                refine ⟨⟨by omega, ?_, hoc.ext he7, hk7, he6.trans he7⟩, by show szN s i - (c + 1) < szN s i - c; omega⟩
                rw [Nrm.sel_next, if_neg (by rw [kp_part hb.symm]; decide), List.append_nil]
                exact hcs
              · have hjn : j < f.n := by omega
                have hA2 := hf7.r.some_ (by omega)
                obtain ⟨x, hx⟩ : ∃ x, x = f.l.getD j fi0 := ⟨_, rfl⟩
                have hX := hf7.one hjn
                have hgt := gtF (l := f.l) (i := j) (by omega)
                have hnk := key_at (l := f.l) (i := j) (by omega)
                rw [← hx] at hX hgt hnk
                rw [← eky] at hnk
                refine J.iteT rfl ?_
                refine J.skip ?_
                refine J.seq ?_
                refine J.block ?_
                refine J.region ?_
                refine L.va rfl (X.move (by conv => lhs; whnf)) ?_
                refine L.va rfl (X.move (by conv => lhs; whnf)) ?_
                refine L.va rfl ((by first | exact X.indexAddrn rfl rfl Try.underlying51 sz_150 (by first | exact Option.some_ne_none _ | exact hA2) (by omega) | exact X.indexAddr rfl rfl Try.underlying51 sz_150 (by first | exact Option.some_ne_none _ | exact hA2) (by omega))) ?_
                refine L.va rfl (X.fieldP rfl Try.underlying150 rfl sz_3 (by decide) (by first | exact Option.some_ne_none _ | exact hA2)) ?_
                refine L.va rfl (X.load rfl sc_3 (by first | exact Ld.blk hk7 rfl | exact Ld.blk hk17 rfl | exact hA2 | exact Ld.flat2 fi_len hf7.r hgt (r := 0) rfl | exact Ld.flat2 fi_len hf7.r hgt (r := 1) rfl)) ?_
                refine L.va rfl (X.move (by conv => lhs; whnf)) ?_
                refine L.va rfl (X.neq rfl rfl) ?_
                refine L.va rfl (X.move (by conv => lhs; whnf)) ?_
                refine L.caseNdec (k := 46) rfl (fun hne => ?_) (fun hne => ?_)
                · skip
                  refine L.no rfl ?_
                  refine L.no rfl ?_
                  refine L.no rfl ?_
                  refine L.no rfl ?_
                  refine L.no rfl ?_
                  refine L.no rfl ?_
                  refine L.no rfl ?_
                  refine L.va rfl (X.pickT rfl (by conv => lhs; whnf)) ?_
                  refine L.va rfl (X.assign (by conv => lhs; whnf)) ?_
                  refine L.nil ?_
                  refine J.region ?_
                  refine L.va rfl (X.move (by conv => lhs; whnf)) ?_
                  refine L.va rfl (X.add rfl rfl (by omega)) ?_
                  refine L.va rfl (X.assign (by conv => lhs; whnf)) ?_
                  refine L.nil ?_
                  refine ⟨(j + 1, true), At2 (by first | rfl | exact at_int rfl (by omega) | exact at_slice rfl (by omega) | exact at_int rfl (by simp)) (by first | rfl | exact at_int rfl (by omega) | exact at_slice rfl (by omega) | exact at_int rfl (by simp)), (by (iterate 29 refine Agr.lk rfl ?_); exact Agr.lk rfl (Agr.hav rfl Agr.rfl')), ?_⟩
                  refine ⟨⟨by omega, ?_, he7⟩, by show f.n - (j + 1) < f.n - j; omega⟩
                  rw [hnk, Nrm.kp_next, ← hb, decide_eq_false hne]
                  rfl
                · refine L.va rfl (X.move (by conv => lhs; whnf)) ?_
                  refine L.va rfl (X.move (by conv => lhs; whnf)) ?_
                  refine L.va rfl ((by first | exact X.indexAddrn rfl rfl Try.underlying51 sz_150 (by first | exact Option.some_ne_none _ | exact hA2) (by omega) | exact X.indexAddr rfl rfl Try.underlying51 sz_150 (by first | exact Option.some_ne_none _ | exact hA2) (by omega))) ?_
                  refine L.va rfl (X.fieldP rfl Try.underlying150 rfl sz_23 (by decide) (by first | exact Option.some_ne_none _ | exact hA2)) ?_
                  refine L.va rfl (X.load rfl sc_23 (by first | exact Ld.blk hk7 rfl | exact Ld.blk hk17 rfl | exact hA2 | exact Ld.flat2 fi_len hf7.r hgt (r := 0) rfl | exact Ld.flat2 fi_len hf7.r hgt (r := 1) rfl)) ?_
                  refine L.va rfl (X.move (by conv => lhs; whnf)) ?_
                  refine L.call rfl en_179 rfl (has28 x.A x.n x.c x.l c w7 (hX.r.more (by omega)) hX.m) ?_
                  rintro e _ ⟨rfl, rfl⟩
                  refine ⟨_, rfl, ?_⟩
                  refine L.va rfl (X.pickF rfl (by conv => lhs; whnf)) ?_
                  refine L.va rfl (X.assign (by conv => lhs; whnf)) ?_
                  refine L.nil ?_
                  refine J.region ?_
                  refine L.va rfl (X.move (by conv => lhs; whnf)) ?_
                  refine L.va rfl (X.add rfl rfl (by omega)) ?_
                  refine L.va rfl (X.assign (by conv => lhs; whnf)) ?_
                  refine L.nil ?_
                  refine ⟨(j + 1, x.l.contains (c : Int)), At2 (by first | rfl | exact at_int rfl (by omega) | exact at_slice rfl (by omega) | exact at_int rfl (by simp)) (by first | rfl | exact at_int rfl (by omega) | exact at_slice rfl (by omega) | exact at_int rfl (by simp)), (by (iterate 29 refine Agr.lk rfl ?_); exact Agr.lk rfl (Agr.hav rfl Agr.rfl')), ?_⟩
                  refine ⟨⟨by omega, ?_, he7⟩, by show f.n - (j + 1) < f.n - j; omega⟩
                  rw [hnk, Nrm.kp_next, ← hb, decide_eq_true hne]
                  rfl
            · obtain rfl : j = f.n := by omega
              rw [List.take_of_length_le (by omega)] at hb
              refine L.no rfl ?_
              refine L.va rfl (X.pickF rfl (by conv => lhs; whnf)) ?_
              refine L.nil ?_
              refine J.iteF rfl ?_
              refine J.exit ?_
              refine J.seq ?_
              refine J.region ?_
              refine L.va rfl (X.move (by conv => lhs; whnf)) ?_
              refine L.nil ?_
              cases b
              · refine J.iteF rfl ?_
                refine J.skip ?_
                refine J.region ?_
                refine L.va rfl (X.move (by conv => lhs; whnf)) ?_
                refine L.va rfl (X.add rfl rfl (by omega)) ?_
                refine L.va rfl (X.assign (by conv => lhs; whnf)) ?_
                refine L.nil ?_
                refine ⟨(c + 1, cs), At1 (by first | rfl | exact at_int rfl (by omega) | exact at_slice rfl (by omega) | exact at_int rfl (by simp)), (by (iterate 12 refine Agr.lk rfl ?_); refine Agr.lk rfl ?_; refine Agr.hav rfl ?_; (iterate 10 refine Agr.lk rfl ?_); exact Agr.lk rfl (Agr.hav rfl Agr.rfl')), ?_⟩
                refine ⟨⟨by omega, ?_, hoc.ext he7, hk7, he6.trans he7⟩, by show szN s i - (c + 1) < szN s i - c; omega⟩
                rw [Nrm.sel_next, if_neg (by rw [← hb]; decide), List.append_nil]
                exact hcs
              · refine J.iteT rfl ?_
                refine J.region ?_
                refine L.va rfl (X.fieldAddr rfl Try.underlying150 rfl sz_23 (by decide)) ?_
                refine L.va rfl (X.load rfl sc_23 (by first | exact Ld.blk hk7 rfl | exact Ld.blk hk17 rfl | exact hA)) ?_
                refine L.va rfl (X.move (by conv => lhs; whnf)) ?_
                refine L.bslice (vs := [_]) rfl (Evs.cons (by conv => lhs; whnf) Evs.nil) rfl rfl rfl rfl Try.underlying23 sz_3 zr_3 (by decide) ?_
                intro b8 w8 hb8 hs8 hk8 he8
                have hoX := (hoc.ext he7).ext he8
                have hkX := hk7.ext he8
                have he68 := (he6.trans he7).trans he8
                have z68 := he68.le
                refine L.appendQ (q := cs.n + 1) (ys := cs.l ++ [(c : Int)]) rfl rfl rfl Try.underlying23 el_3 (hoX) ((blk_reads (q := 1) (l := nums .i64 [(c : Int)]) hk8 hk8.lt rfl)) (by omega) (by simp) (by unfold maxLen; omega) (by omega) ?_
                intro A9 c9 w9 ho9 hg9 hb9 hor9
                have hkY := hkX.grown hg9 (fun e ↦ own_blk_ne hoX hkX (by decide) e.symm)
                have he39 : Ext w3 w9 := he68.grw hg9 (fun g hg ↦ own_bot hoX g hg)
                refine L.va rfl (X.fieldAddr rfl Try.underlying150 rfl sz_23 (by decide)) ?_
                refine L.store rfl rfl (by conv => lhs; whnf) rfl sz_23 (hkY) (by first | decide | exact Nat.le_of_ble_eq_true rfl) ?_
                intro wa hka hga hsa
                have hka : Blk wa b4 150 #[.int .i64 (i : Int), .slice A9 (cs.n + 1) c9] := hka
                refine L.nil ?_
                refine J.region ?_
                refine L.va rfl (X.move (by conv => lhs; whnf)) ?_
                refine L.va rfl (X.add rfl rfl (by omega)) ?_
                refine L.va rfl (X.assign (by conv => lhs; whnf)) ?_
                refine L.nil ?_
                refine ⟨(c + 1, ⟨A9, cs.n + 1, c9, cs.l ++ [(c : Int)]⟩), At1 (by first | rfl | exact at_int rfl (by omega) | exact at_slice rfl (by omega) | exact at_int rfl (by simp)), (by (iterate 18 refine Agr.lk rfl ?_); refine Agr.lk rfl ?_; refine Agr.hav rfl ?_; (iterate 10 refine Agr.lk rfl ?_); exact Agr.lk rfl (Agr.hav rfl Agr.rfl')), ?_⟩
                refine ⟨⟨by omega, ?_, ho9.kept hga (.inr (fun e => own_blk_ne ho9 hkY (by decide) e)), hka, he39.grw hga (by intro g hg; injection hg with hg; omega)⟩, by show szN s i - (c + 1) < szN s i - c; omega⟩
                show cs.l ++ [(c : Int)] = _
                rw [Nrm.sel_next, if_pos hb.symm, hcs]
        · obtain rfl : c = szN s i := by rw [hn] at hlt2; omega
          have hnx : nrm ky 0 (szs s (i + 1)) = nrm ky 0 (szs s i) ++ nf ky i (szN s i) := by
            rw [szs_next, Nrm.nrm_snoc, szs_len, Nat.zero_add]
          have hrl := hr.l
          have hrn : r.n ≤ i := by
            have h1 := congrArg List.length hrk
            rw [List.length_map] at h1
            have h2 := Nrm.nrm_len ky (szs s i) 0
            rw [szs_len] at h2
            omega
          refine J.exit ?_
          refine J.seq ?_
          refine J.quiet mixed (by kernel_rfl) ?_
          refine Qt.va rfl (fun w' hw => X.fieldAddr rfl Try.underlying150 rfl sz_23 (by decide)) ?_
          refine Qt.va rfl (fun w' hw => X.load rfl sc_23 (by first | exact Ld.blk (hk16.ext hw) rfl | exact Ld.blk (hk6.ext hw) rfl | exact Ld.dimS (hd6.ext hw) (by omega) | exact Ld.dimN (hd6.ext hw) (by omega) | exact hA)) ?_
          refine Qt.va rfl (fun w' hw => X.len rfl Try.underlying23) ?_
          refine Qt.va rfl (fun w' hw => X.fieldAddr rfl Try.underlying49 rfl sz_45 (by decide)) ?_
          refine Qt.va rfl (fun w' hw => X.load rfl sc_45 (by first | exact Ld.blk (hk16.ext hw) rfl | exact Ld.blk (hk6.ext hw) rfl | exact Ld.dimS (hd6.ext hw) (by omega) | exact Ld.dimN (hd6.ext hw) (by omega) | exact hA)) ?_
          refine Qt.va rfl (fun w' hw => X.move (by conv => lhs; whnf)) ?_
          refine Qt.va rfl (fun w' hw => (by first | exact X.indexAddrn rfl rfl Try.underlying45 sz_128 (by first | exact Option.some_ne_none _ | exact hd6.some_ (by omega) | exact hA) (by omega) | exact X.indexAddr rfl rfl Try.underlying45 sz_128 (by first | exact Option.some_ne_none _ | exact hd6.some_ (by omega) | exact hA) (by omega))) ?_
          refine Qt.va rfl (fun w' hw => X.fieldP rfl Try.underlying128 rfl sz_3 (by decide) (by first | exact Option.some_ne_none _ | exact hd6.some_ (by omega) | exact hA)) ?_
          refine Qt.va rfl (fun w' hw => X.load rfl sc_3 (by first | exact Ld.blk (hk16.ext hw) rfl | exact Ld.blk (hk6.ext hw) rfl | exact Ld.dimS (hd6.ext hw) (by omega) | exact Ld.dimN (hd6.ext hw) (by omega) | exact hA)) ?_
          refine Qt.va rfl (fun w' hw => X.lss rfl rfl) ?_
          refine Qt.nil (fun w7 hq => ?_)
          replace hk16 := hk16.ext hq
          replace hk6 := hk6.ext hq
          replace hd6 := hd6.ext hq
          have hr7 := (hr.ext he6).ext hq
          have hoc7 := hoc.ext hq
          have he7 := he6.trans hq
          have hy7 := he3.trans he7
          have he07 := he03.trans he7
          have z7 := he07.le
          refine J.dec rfl (fun hlt3 => ?_) (fun hlt3 => ?_)
          · rw [hn] at hlt3
            refine J.region ?_
            refine L.va rfl (X.move (by conv => lhs; whnf)) ?_
            refine L.va rfl ((by first | exact X.loadAgg rfl (range_l hk16) Try.underlying150 rfl (by kernel_rfl) | exact X.loadAgg rfl (range_blk hk16) Try.underlying150 rfl (by kernel_rfl) | exact X.loadAgg rfl (range_l hk6) Try.underlying150 rfl (by kernel_rfl) | exact X.loadAgg rfl (range_blk hk6) Try.underlying150 rfl (by kernel_rfl))) ?_
            refine L.bslice1 (l := [_, _]) rfl rfl rfl Try.underlying51 sz_150 zr_150 rfl ?_
            intro b8 w8 hb8 hs8 hk8 he8
            have hoX := hr7.o.ext he8
            have z18 := (hy7.trans he8).le
            refine L.appendV (q := r.n + 1) (ys := ((r.l ++ [Fi.mk i cs.A cs.n cs.c cs.l]).flatMap Fi.vs)) rfl rfl rfl Try.underlying51 el_150 (hoX) ((blk_readsN (sz := 2) (q := 1) (l := (Fi.mk i cs.A cs.n cs.c cs.l).vs) hk8 hk8.lt rfl)) (by first | rfl | exact strs_ones _ | assumption) (by omega) (by simp) (by unfold maxLen; omega) (by omega) ?_
            intro A9 c9 w9 ho9 hg9 hb9 hor9
            refine L.va rfl (X.assign (by conv => lhs; whnf)) ?_
            refine L.nil ?_
            refine J.region ?_
            refine L.va rfl (X.move (by conv => lhs; whnf)) ?_
            refine L.va rfl (X.add rfl rfl (by omega)) ?_
            refine L.va rfl (X.assign (by conv => lhs; whnf)) ?_
            refine L.nil ?_
            refine ⟨(i + 1, ⟨A9, r.n + 1, c9, r.l ++ [Fi.mk i cs.A cs.n cs.c cs.l]⟩), At2 (by first | rfl | exact at_int rfl (by omega) | exact at_slice rfl (by omega) | exact at_int rfl (by simp)) (by first | rfl | exact at_int rfl (by omega) | exact at_slice rfl (by omega) | exact at_int rfl (by simp)), (by (iterate 26 refine Agr.lk rfl ?_); refine Agr.lk rfl ?_; refine Agr.hav rfl ?_; (iterate 9 refine Agr.lk rfl ?_); exact Agr.lk rfl (Agr.hav rfl Agr.rfl')), ?_⟩
            refine ⟨⟨by omega, ⟨ho9, fun y hy => ?_, by show (r.l ++ [_]).length = r.n + 1; rw [List.length_append, hrl]; rfl⟩, ?_, (hy7.trans he8).low hb9 (Nat.le_refl _)⟩, by show s.nd - (i + 1) < s.nd - i; omega⟩
            · rcases List.mem_append.1 hy with hy | hy
              · exact World.ownsRow.kept (World.ownsRow.ext (hr7.h y hy) he8) hg9 (own_or (World.ownsRow.ext (hr7.h y hy) he8) hoX (by decide))
              · rw [List.mem_singleton] at hy
                subst hy
                exact own_lower ((hoc7.ext he8).kept hg9 (own_or (hoc7.ext he8) hoX (by decide))) y3
            · show (r.l ++ [Fi.mk i cs.A cs.n cs.c cs.l]).map Fi.key = _
              rw [List.map_append, hrk, hnx]
              congr 1
              unfold nf
              rw [← hcs, if_pos (by omega)]
              rfl
          · rw [hn] at hlt3
            refine J.skip ?_
            refine J.region ?_
            refine L.va rfl (X.move (by conv => lhs; whnf)) ?_
            refine L.va rfl (X.add rfl rfl (by omega)) ?_
            refine L.va rfl (X.assign (by conv => lhs; whnf)) ?_
            refine L.nil ?_
            refine ⟨(i + 1, r), At2 (by first | rfl | exact at_int rfl (by omega) | exact at_slice rfl (by omega) | exact at_int rfl (by simp)) (by first | rfl | exact at_int rfl (by omega) | exact at_slice rfl (by omega) | exact at_int rfl (by simp)), (by (iterate 21 refine Agr.lk rfl ?_); refine Agr.lk rfl ?_; refine Agr.hav rfl ?_; (iterate 9 refine Agr.lk rfl ?_); exact Agr.lk rfl (Agr.hav rfl Agr.rfl')), ?_⟩
            refine ⟨⟨by omega, hr7, ?_, hy7⟩, by show s.nd - (i + 1) < s.nd - i; omega⟩
            rw [hnx]
            unfold nf
            rw [← hcs, if_neg (by omega), List.append_nil]
            exact hrk
    · obtain rfl : i = s.nd := by omega
      refine J.exit ?_
      refine J.seq ?_
      refine J.region ?_
      refine L.va rfl (X.move (by conv => lhs; whnf)) ?_
      refine L.va rfl (X.assign (by conv => lhs; whnf)) ?_
      refine L.nil ?_
      refine J.ret ?_
      refine fin1 ?_
      rw [eky] at hrk
      exact ⟨r, rfl, hr.lower z1, hrk, he03⟩
end Go.Proofs.Ytlipeplfjkgamaa
namespace Go.Proofs.Ytlipeplfjkgamaa
set_option maxRecDepth 100000
open Go.RowKit H
set_option linter.unusedVariables false
def colOk (s : Sch) (x : Int × Int) : Prop := (x.1 = 0 ∧ x.2 = 0) ∨ (1 ≤ x.1 ∧ x.1 ≤ 4 ∧ 0 ≤ x.2 ∧ x.2 < (s.n1 : Int) + s.n2) ∨ (5 ≤ x.1 ∧ x.1 ≤ 6 ∧ 0 ≤ x.2 ∧ x.2 < (s.n1 : Int))
instance (s : Sch) (x : Int × Int) : Decidable (colOk s x) := by unfold colOk; infer_instance
abbrev cV (x : Int × Int) : List Value := [.int .i64 x.1, .int .i64 x.2]
theorem qcolumn {s : Sch} (k m : Int) {w : World} (H : s.Here w) : Calls Try.prog 92 #[s.val, .agg (cV (k, m)).toArray] w fun e w' => e = .returned (.bool (decide (colOk s (k, m)))) ∧ Ext w w' := by
  have hle := H.hle
  refine enter Try.func92 rfl (by kernel_rfl) ?_
  refine J.seq ?_
  refine J.region ?_
  refine L.boxA (l := [_, _, _, _]) rfl rfl ?_
  intro b1 w1 hb1 hs1 hk1 he1
  refine L.boxA (l := [_, _]) rfl rfl ?_
  intro b2 w2 hb2 hs2 hk2 he2
  have hk12 := hk1.ext he2
  have he := he1.trans he2
  have hc : k = 0 ∨ k = 1 ∨ k = 2 ∨ k = 3 ∨ k = 4 ∨ k = 5 ∨ k = 6 ∨ (k < 0 ∨ 6 < k) := by omega
  rcases hc with rfl | rfl | rfl | rfl | rfl | rfl | rfl | hk
  · refine L.va rfl (X.assign (by conv => lhs; whnf)) ?_
    refine L.nil ?_
    refine J.seq ?_
    refine J.region ?_
    refine L.va rfl (X.fieldAddr rfl Try.underlying49 rfl sz_46 (by decide)) ?_
    refine L.va rfl (X.load rfl sc_46 (by first | exact Ld.blk hk2 rfl | exact Ld.blk hk12 rfl)) ?_
    refine L.va rfl (X.len rfl Try.underlying46) ?_
    refine L.va rfl (X.assign (by conv => lhs; whnf)) ?_
    refine L.nil ?_
    refine J.seq ?_
    refine J.seq ?_
    refine J.region ?_
    refine L.va rfl (X.fieldAddr rfl Try.underlying130 rfl sz_3 (by decide)) ?_
    refine L.va rfl (X.load rfl sc_3 (by first | exact Ld.blk hk2 rfl | exact Ld.blk hk12 rfl)) ?_
    refine L.nil ?_
    refine J.block ?_
    refine J.seq ?_
    refine J.region ?_
    refine L.va rfl (X.eql rfl rfl) ?_
    refine L.va rfl (X.assign (by conv => lhs; whnf)) ?_
    refine L.nil ?_
    refine J.decT rfl (by exact rfl) ?_
    refine J.seq ?_
    refine J.region ?_
    refine L.va rfl (X.fieldAddr rfl Try.underlying130 rfl sz_3 (by decide)) ?_
    refine L.va rfl (X.load rfl sc_3 (by first | exact Ld.blk hk2 rfl | exact Ld.blk hk12 rfl)) ?_
    refine L.va rfl (X.eql rfl rfl) ?_
    refine L.va rfl (X.assign (by conv => lhs; whnf)) ?_
    refine L.nil ?_
    refine J.ret ?_
    refine inB_ret <|  thn_ret <| ?_
    refine fin1 ?_
    exact ⟨by rw [show decide (colOk s (0, m)) = decide (m = 0) from decide_eq_decide.2 (by unfold colOk; dsimp only; omega)]; rfl, he⟩
  · refine L.va rfl (X.assign (by conv => lhs; whnf)) ?_
    refine L.nil ?_
    refine J.seq ?_
    refine J.region ?_
    refine L.va rfl (X.fieldAddr rfl Try.underlying49 rfl sz_46 (by decide)) ?_
    refine L.va rfl (X.load rfl sc_46 (by first | exact Ld.blk hk2 rfl | exact Ld.blk hk12 rfl)) ?_
    refine L.va rfl (X.len rfl Try.underlying46) ?_
    refine L.va rfl (X.assign (by conv => lhs; whnf)) ?_
    refine L.nil ?_
    refine J.seq ?_
    refine J.seq ?_
    refine J.region ?_
    refine L.va rfl (X.fieldAddr rfl Try.underlying130 rfl sz_3 (by decide)) ?_
    refine L.va rfl (X.load rfl sc_3 (by first | exact Ld.blk hk2 rfl | exact Ld.blk hk12 rfl)) ?_
    refine L.nil ?_
    refine J.block ?_
    refine J.seq ?_
    refine J.region ?_
    refine L.va rfl (X.eql rfl rfl) ?_
    refine L.va rfl (X.assign (by conv => lhs; whnf)) ?_
    refine L.nil ?_
    refine J.decF rfl (by dsimp only; decide) ?_
    refine J.seq ?_
    refine J.seq ?_
    refine J.region ?_
    refine L.va rfl (X.eql rfl rfl) ?_
    refine L.va rfl (X.assign (by conv => lhs; whnf)) ?_
    refine L.nil ?_
    refine J.decT rfl (by exact rfl) ?_
    refine J.skip ?_
    refine J.decT rfl (by exact rfl) ?_
    refine J.region ?_
    refine L.va rfl (X.move (by conv => lhs; whnf)) ?_
    refine L.va rfl (X.fieldAddr rfl Try.underlying49 rfl sz_46 (by decide)) ?_
    refine L.va rfl (X.load rfl sc_46 (by first | exact Ld.blk hk2 rfl | exact Ld.blk hk12 rfl)) ?_
    refine L.va rfl (X.len rfl Try.underlying46) ?_
    refine L.va rfl (X.add rfl rfl (by omega)) ?_
    refine L.va rfl (X.assign (by conv => lhs; whnf)) ?_
    refine L.nil ?_
    refine J.seq ?_
    refine J.region ?_
    refine L.va rfl (X.fieldAddr rfl Try.underlying130 rfl sz_3 (by decide)) ?_
    refine L.va rfl (X.load rfl sc_3 (by first | exact Ld.blk hk2 rfl | exact Ld.blk hk12 rfl)) ?_
    refine L.va rfl (X.geq rfl rfl) ?_
    refine L.va rfl (X.move (by conv => lhs; whnf)) ?_
    refine L.caseDec (k := 32) rfl (fun h1 => ?_) (fun h1 => ?_)
    · refine L.va rfl (X.fieldAddr rfl Try.underlying130 rfl sz_3 (by decide)) ?_
      refine L.va rfl (X.load rfl sc_3 (by first | exact Ld.blk hk2 rfl | exact Ld.blk hk12 rfl)) ?_
      refine L.va rfl (X.move (by conv => lhs; whnf)) ?_
      refine L.va rfl (X.lss rfl rfl) ?_
      refine L.va rfl (X.pickT rfl (by conv => lhs; whnf)) ?_
      refine L.va rfl (X.assign (by conv => lhs; whnf)) ?_
      refine L.nil ?_
      refine J.ret ?_
      refine fin1 ?_
      exact ⟨by rw [show decide (colOk s (_, m)) = decide (m < (s.n1 : Int) + s.n2) from decide_eq_decide.2 (by unfold colOk; dsimp only; omega)]; rfl, he⟩
    · refine L.no rfl ?_
      refine L.no rfl ?_
      refine L.no rfl ?_
      refine L.no rfl ?_
      refine L.va rfl (X.pickF rfl (by conv => lhs; whnf)) ?_
      refine L.va rfl (X.assign (by conv => lhs; whnf)) ?_
      refine L.nil ?_
      refine J.ret ?_
      refine fin1 ?_
      exact ⟨by rw [show decide (colOk s (_, m)) = false from decide_eq_false (by unfold colOk; dsimp only; omega)]; rfl, he⟩
  · refine L.va rfl (X.assign (by conv => lhs; whnf)) ?_
    refine L.nil ?_
    refine J.seq ?_
    refine J.region ?_
    refine L.va rfl (X.fieldAddr rfl Try.underlying49 rfl sz_46 (by decide)) ?_
    refine L.va rfl (X.load rfl sc_46 (by first | exact Ld.blk hk2 rfl | exact Ld.blk hk12 rfl)) ?_
    refine L.va rfl (X.len rfl Try.underlying46) ?_
    refine L.va rfl (X.assign (by conv => lhs; whnf)) ?_
    refine L.nil ?_
    refine J.seq ?_
    refine J.seq ?_
    refine J.region ?_
    refine L.va rfl (X.fieldAddr rfl Try.underlying130 rfl sz_3 (by decide)) ?_
    refine L.va rfl (X.load rfl sc_3 (by first | exact Ld.blk hk2 rfl | exact Ld.blk hk12 rfl)) ?_
    refine L.nil ?_
    refine J.block ?_
    refine J.seq ?_
    refine J.region ?_
    refine L.va rfl (X.eql rfl rfl) ?_
    refine L.va rfl (X.assign (by conv => lhs; whnf)) ?_
    refine L.nil ?_
    refine J.decF rfl (by dsimp only; decide) ?_
    refine J.seq ?_
    refine J.seq ?_
    refine J.region ?_
    refine L.va rfl (X.eql rfl rfl) ?_
    refine L.va rfl (X.assign (by conv => lhs; whnf)) ?_
    refine L.nil ?_
    refine J.decF rfl (by dsimp only; decide) ?_
    refine J.seq ?_
    refine J.region ?_
    refine L.va rfl (X.eql rfl rfl) ?_
    refine L.va rfl (X.assign (by conv => lhs; whnf)) ?_
    refine L.nil ?_
    refine J.decT rfl (by exact rfl) ?_
    refine J.skip ?_
    refine J.decT rfl (by exact rfl) ?_
    refine J.region ?_
    refine L.va rfl (X.move (by conv => lhs; whnf)) ?_
    refine L.va rfl (X.fieldAddr rfl Try.underlying49 rfl sz_46 (by decide)) ?_
    refine L.va rfl (X.load rfl sc_46 (by first | exact Ld.blk hk2 rfl | exact Ld.blk hk12 rfl)) ?_
    refine L.va rfl (X.len rfl Try.underlying46) ?_
    refine L.va rfl (X.add rfl rfl (by omega)) ?_
    refine L.va rfl (X.assign (by conv => lhs; whnf)) ?_
    refine L.nil ?_
    refine J.seq ?_
    refine J.region ?_
    refine L.va rfl (X.fieldAddr rfl Try.underlying130 rfl sz_3 (by decide)) ?_
    refine L.va rfl (X.load rfl sc_3 (by first | exact Ld.blk hk2 rfl | exact Ld.blk hk12 rfl)) ?_
    refine L.va rfl (X.geq rfl rfl) ?_
    refine L.va rfl (X.move (by conv => lhs; whnf)) ?_
    refine L.caseDec (k := 32) rfl (fun h1 => ?_) (fun h1 => ?_)
    · refine L.va rfl (X.fieldAddr rfl Try.underlying130 rfl sz_3 (by decide)) ?_
      refine L.va rfl (X.load rfl sc_3 (by first | exact Ld.blk hk2 rfl | exact Ld.blk hk12 rfl)) ?_
      refine L.va rfl (X.move (by conv => lhs; whnf)) ?_
      refine L.va rfl (X.lss rfl rfl) ?_
      refine L.va rfl (X.pickT rfl (by conv => lhs; whnf)) ?_
      refine L.va rfl (X.assign (by conv => lhs; whnf)) ?_
      refine L.nil ?_
      refine J.ret ?_
      refine fin1 ?_
      exact ⟨by rw [show decide (colOk s (_, m)) = decide (m < (s.n1 : Int) + s.n2) from decide_eq_decide.2 (by unfold colOk; dsimp only; omega)]; rfl, he⟩
    · refine L.no rfl ?_
      refine L.no rfl ?_
      refine L.no rfl ?_
      refine L.no rfl ?_
      refine L.va rfl (X.pickF rfl (by conv => lhs; whnf)) ?_
      refine L.va rfl (X.assign (by conv => lhs; whnf)) ?_
      refine L.nil ?_
      refine J.ret ?_
      refine fin1 ?_
      exact ⟨by rw [show decide (colOk s (_, m)) = false from decide_eq_false (by unfold colOk; dsimp only; omega)]; rfl, he⟩
  · refine L.va rfl (X.assign (by conv => lhs; whnf)) ?_
    refine L.nil ?_
    refine J.seq ?_
    refine J.region ?_
    refine L.va rfl (X.fieldAddr rfl Try.underlying49 rfl sz_46 (by decide)) ?_
    refine L.va rfl (X.load rfl sc_46 (by first | exact Ld.blk hk2 rfl | exact Ld.blk hk12 rfl)) ?_
    refine L.va rfl (X.len rfl Try.underlying46) ?_
    refine L.va rfl (X.assign (by conv => lhs; whnf)) ?_
    refine L.nil ?_
    refine J.seq ?_
    refine J.seq ?_
    refine J.region ?_
    refine L.va rfl (X.fieldAddr rfl Try.underlying130 rfl sz_3 (by decide)) ?_
    refine L.va rfl (X.load rfl sc_3 (by first | exact Ld.blk hk2 rfl | exact Ld.blk hk12 rfl)) ?_
    refine L.nil ?_
    refine J.block ?_
    refine J.seq ?_
    refine J.region ?_
    refine L.va rfl (X.eql rfl rfl) ?_
    refine L.va rfl (X.assign (by conv => lhs; whnf)) ?_
    refine L.nil ?_
    refine J.decF rfl (by dsimp only; decide) ?_
    refine J.seq ?_
    refine J.seq ?_
    refine J.region ?_
    refine L.va rfl (X.eql rfl rfl) ?_
    refine L.va rfl (X.assign (by conv => lhs; whnf)) ?_
    refine L.nil ?_
    refine J.decF rfl (by dsimp only; decide) ?_
    refine J.seq ?_
    refine J.region ?_
    refine L.va rfl (X.eql rfl rfl) ?_
    refine L.va rfl (X.assign (by conv => lhs; whnf)) ?_
    refine L.nil ?_
    refine J.decF rfl (by dsimp only; decide) ?_
    refine J.seq ?_
    refine J.region ?_
    refine L.va rfl (X.eql rfl rfl) ?_
    refine L.va rfl (X.assign (by conv => lhs; whnf)) ?_
    refine L.nil ?_
    refine J.decT rfl (by exact rfl) ?_
    refine J.skip ?_
    refine J.decT rfl (by exact rfl) ?_
    refine J.region ?_
    refine L.va rfl (X.move (by conv => lhs; whnf)) ?_
    refine L.va rfl (X.fieldAddr rfl Try.underlying49 rfl sz_46 (by decide)) ?_
    refine L.va rfl (X.load rfl sc_46 (by first | exact Ld.blk hk2 rfl | exact Ld.blk hk12 rfl)) ?_
    refine L.va rfl (X.len rfl Try.underlying46) ?_
    refine L.va rfl (X.add rfl rfl (by omega)) ?_
    refine L.va rfl (X.assign (by conv => lhs; whnf)) ?_
    refine L.nil ?_
    refine J.seq ?_
    refine J.region ?_
    refine L.va rfl (X.fieldAddr rfl Try.underlying130 rfl sz_3 (by decide)) ?_
    refine L.va rfl (X.load rfl sc_3 (by first | exact Ld.blk hk2 rfl | exact Ld.blk hk12 rfl)) ?_
    refine L.va rfl (X.geq rfl rfl) ?_
    refine L.va rfl (X.move (by conv => lhs; whnf)) ?_
    refine L.caseDec (k := 32) rfl (fun h1 => ?_) (fun h1 => ?_)
    · refine L.va rfl (X.fieldAddr rfl Try.underlying130 rfl sz_3 (by decide)) ?_
      refine L.va rfl (X.load rfl sc_3 (by first | exact Ld.blk hk2 rfl | exact Ld.blk hk12 rfl)) ?_
      refine L.va rfl (X.move (by conv => lhs; whnf)) ?_
      refine L.va rfl (X.lss rfl rfl) ?_
      refine L.va rfl (X.pickT rfl (by conv => lhs; whnf)) ?_
      refine L.va rfl (X.assign (by conv => lhs; whnf)) ?_
      refine L.nil ?_
      refine J.ret ?_
      refine fin1 ?_
      exact ⟨by rw [show decide (colOk s (_, m)) = decide (m < (s.n1 : Int) + s.n2) from decide_eq_decide.2 (by unfold colOk; dsimp only; omega)]; rfl, he⟩
    · refine L.no rfl ?_
      refine L.no rfl ?_
      refine L.no rfl ?_
      refine L.no rfl ?_
      refine L.va rfl (X.pickF rfl (by conv => lhs; whnf)) ?_
      refine L.va rfl (X.assign (by conv => lhs; whnf)) ?_
      refine L.nil ?_
      refine J.ret ?_
      refine fin1 ?_
      exact ⟨by rw [show decide (colOk s (_, m)) = false from decide_eq_false (by unfold colOk; dsimp only; omega)]; rfl, he⟩
  · refine L.va rfl (X.assign (by conv => lhs; whnf)) ?_
    refine L.nil ?_
    refine J.seq ?_
    refine J.region ?_
    refine L.va rfl (X.fieldAddr rfl Try.underlying49 rfl sz_46 (by decide)) ?_
    refine L.va rfl (X.load rfl sc_46 (by first | exact Ld.blk hk2 rfl | exact Ld.blk hk12 rfl)) ?_
    refine L.va rfl (X.len rfl Try.underlying46) ?_
    refine L.va rfl (X.assign (by conv => lhs; whnf)) ?_
    refine L.nil ?_
    refine J.seq ?_
    refine J.seq ?_
    refine J.region ?_
    refine L.va rfl (X.fieldAddr rfl Try.underlying130 rfl sz_3 (by decide)) ?_
    refine L.va rfl (X.load rfl sc_3 (by first | exact Ld.blk hk2 rfl | exact Ld.blk hk12 rfl)) ?_
    refine L.nil ?_
    refine J.block ?_
    refine J.seq ?_
    refine J.region ?_
    refine L.va rfl (X.eql rfl rfl) ?_
    refine L.va rfl (X.assign (by conv => lhs; whnf)) ?_
    refine L.nil ?_
    refine J.decF rfl (by dsimp only; decide) ?_
    refine J.seq ?_
    refine J.seq ?_
    refine J.region ?_
    refine L.va rfl (X.eql rfl rfl) ?_
    refine L.va rfl (X.assign (by conv => lhs; whnf)) ?_
    refine L.nil ?_
    refine J.decF rfl (by dsimp only; decide) ?_
    refine J.seq ?_
    refine J.region ?_
    refine L.va rfl (X.eql rfl rfl) ?_
    refine L.va rfl (X.assign (by conv => lhs; whnf)) ?_
    refine L.nil ?_
    refine J.decF rfl (by dsimp only; decide) ?_
    refine J.seq ?_
    refine J.region ?_
    refine L.va rfl (X.eql rfl rfl) ?_
    refine L.va rfl (X.assign (by conv => lhs; whnf)) ?_
    refine L.nil ?_
    refine J.decF rfl (by dsimp only; decide) ?_
    refine J.region ?_
    refine L.va rfl (X.eql rfl rfl) ?_
    refine L.va rfl (X.assign (by conv => lhs; whnf)) ?_
    refine L.nil ?_
    refine J.decT rfl (by exact rfl) ?_
    refine J.region ?_
    refine L.va rfl (X.move (by conv => lhs; whnf)) ?_
    refine L.va rfl (X.fieldAddr rfl Try.underlying49 rfl sz_46 (by decide)) ?_
    refine L.va rfl (X.load rfl sc_46 (by first | exact Ld.blk hk2 rfl | exact Ld.blk hk12 rfl)) ?_
    refine L.va rfl (X.len rfl Try.underlying46) ?_
    refine L.va rfl (X.add rfl rfl (by omega)) ?_
    refine L.va rfl (X.assign (by conv => lhs; whnf)) ?_
    refine L.nil ?_
    refine J.seq ?_
    refine J.region ?_
    refine L.va rfl (X.fieldAddr rfl Try.underlying130 rfl sz_3 (by decide)) ?_
    refine L.va rfl (X.load rfl sc_3 (by first | exact Ld.blk hk2 rfl | exact Ld.blk hk12 rfl)) ?_
    refine L.va rfl (X.geq rfl rfl) ?_
    refine L.va rfl (X.move (by conv => lhs; whnf)) ?_
    refine L.caseDec (k := 32) rfl (fun h1 => ?_) (fun h1 => ?_)
    · refine L.va rfl (X.fieldAddr rfl Try.underlying130 rfl sz_3 (by decide)) ?_
      refine L.va rfl (X.load rfl sc_3 (by first | exact Ld.blk hk2 rfl | exact Ld.blk hk12 rfl)) ?_
      refine L.va rfl (X.move (by conv => lhs; whnf)) ?_
      refine L.va rfl (X.lss rfl rfl) ?_
      refine L.va rfl (X.pickT rfl (by conv => lhs; whnf)) ?_
      refine L.va rfl (X.assign (by conv => lhs; whnf)) ?_
      refine L.nil ?_
      refine J.ret ?_
      refine fin1 ?_
      exact ⟨by rw [show decide (colOk s (_, m)) = decide (m < (s.n1 : Int) + s.n2) from decide_eq_decide.2 (by unfold colOk; dsimp only; omega)]; rfl, he⟩
    · refine L.no rfl ?_
      refine L.no rfl ?_
      refine L.no rfl ?_
      refine L.no rfl ?_
      refine L.va rfl (X.pickF rfl (by conv => lhs; whnf)) ?_
      refine L.va rfl (X.assign (by conv => lhs; whnf)) ?_
      refine L.nil ?_
      refine J.ret ?_
      refine fin1 ?_
      exact ⟨by rw [show decide (colOk s (_, m)) = false from decide_eq_false (by unfold colOk; dsimp only; omega)]; rfl, he⟩
  · refine L.va rfl (X.assign (by conv => lhs; whnf)) ?_
    refine L.nil ?_
    refine J.seq ?_
    refine J.region ?_
    refine L.va rfl (X.fieldAddr rfl Try.underlying49 rfl sz_46 (by decide)) ?_
    refine L.va rfl (X.load rfl sc_46 (by first | exact Ld.blk hk2 rfl | exact Ld.blk hk12 rfl)) ?_
    refine L.va rfl (X.len rfl Try.underlying46) ?_
    refine L.va rfl (X.assign (by conv => lhs; whnf)) ?_
    refine L.nil ?_
    refine J.seq ?_
    refine J.seq ?_
    refine J.region ?_
    refine L.va rfl (X.fieldAddr rfl Try.underlying130 rfl sz_3 (by decide)) ?_
    refine L.va rfl (X.load rfl sc_3 (by first | exact Ld.blk hk2 rfl | exact Ld.blk hk12 rfl)) ?_
    refine L.nil ?_
    refine J.block ?_
    refine J.seq ?_
    refine J.region ?_
    refine L.va rfl (X.eql rfl rfl) ?_
    refine L.va rfl (X.assign (by conv => lhs; whnf)) ?_
    refine L.nil ?_
    refine J.decF rfl (by dsimp only; decide) ?_
    refine J.seq ?_
    refine J.seq ?_
    refine J.region ?_
    refine L.va rfl (X.eql rfl rfl) ?_
    refine L.va rfl (X.assign (by conv => lhs; whnf)) ?_
    refine L.nil ?_
    refine J.decF rfl (by dsimp only; decide) ?_
    refine J.seq ?_
    refine J.region ?_
    refine L.va rfl (X.eql rfl rfl) ?_
    refine L.va rfl (X.assign (by conv => lhs; whnf)) ?_
    refine L.nil ?_
    refine J.decF rfl (by dsimp only; decide) ?_
    refine J.seq ?_
    refine J.region ?_
    refine L.va rfl (X.eql rfl rfl) ?_
    refine L.va rfl (X.assign (by conv => lhs; whnf)) ?_
    refine L.nil ?_
    refine J.decF rfl (by dsimp only; decide) ?_
    refine J.region ?_
    refine L.va rfl (X.eql rfl rfl) ?_
    refine L.va rfl (X.assign (by conv => lhs; whnf)) ?_
    refine L.nil ?_
    refine J.decF rfl (by dsimp only; decide) ?_
    refine J.seq ?_
    refine J.seq ?_
    refine J.region ?_
    refine L.va rfl (X.eql rfl rfl) ?_
    refine L.va rfl (X.assign (by conv => lhs; whnf)) ?_
    refine L.nil ?_
    refine J.decT rfl (by exact rfl) ?_
    refine J.skip ?_
    refine J.decT rfl (by exact rfl) ?_
    refine J.skip ?_
    refine J.seq ?_
    refine J.region ?_
    refine L.va rfl (X.fieldAddr rfl Try.underlying130 rfl sz_3 (by decide)) ?_
    refine L.va rfl (X.load rfl sc_3 (by first | exact Ld.blk hk2 rfl | exact Ld.blk hk12 rfl)) ?_
    refine L.va rfl (X.geq rfl rfl) ?_
    refine L.va rfl (X.move (by conv => lhs; whnf)) ?_
    refine L.caseDec (k := 32) rfl (fun h1 => ?_) (fun h1 => ?_)
    · refine L.va rfl (X.fieldAddr rfl Try.underlying130 rfl sz_3 (by decide)) ?_
      refine L.va rfl (X.load rfl sc_3 (by first | exact Ld.blk hk2 rfl | exact Ld.blk hk12 rfl)) ?_
      refine L.va rfl (X.move (by conv => lhs; whnf)) ?_
      refine L.va rfl (X.lss rfl rfl) ?_
      refine L.va rfl (X.pickT rfl (by conv => lhs; whnf)) ?_
      refine L.va rfl (X.assign (by conv => lhs; whnf)) ?_
      refine L.nil ?_
      refine J.ret ?_
      refine fin1 ?_
      exact ⟨by rw [show decide (colOk s (_, m)) = decide (m < (s.n1 : Int)) from decide_eq_decide.2 (by unfold colOk; dsimp only; omega)]; rfl, he⟩
    · refine L.no rfl ?_
      refine L.no rfl ?_
      refine L.no rfl ?_
      refine L.no rfl ?_
      refine L.va rfl (X.pickF rfl (by conv => lhs; whnf)) ?_
      refine L.va rfl (X.assign (by conv => lhs; whnf)) ?_
      refine L.nil ?_
      refine J.ret ?_
      refine fin1 ?_
      exact ⟨by rw [show decide (colOk s (_, m)) = false from decide_eq_false (by unfold colOk; dsimp only; omega)]; rfl, he⟩
  · refine L.va rfl (X.assign (by conv => lhs; whnf)) ?_
    refine L.nil ?_
    refine J.seq ?_
    refine J.region ?_
    refine L.va rfl (X.fieldAddr rfl Try.underlying49 rfl sz_46 (by decide)) ?_
    refine L.va rfl (X.load rfl sc_46 (by first | exact Ld.blk hk2 rfl | exact Ld.blk hk12 rfl)) ?_
    refine L.va rfl (X.len rfl Try.underlying46) ?_
    refine L.va rfl (X.assign (by conv => lhs; whnf)) ?_
    refine L.nil ?_
    refine J.seq ?_
    refine J.seq ?_
    refine J.region ?_
    refine L.va rfl (X.fieldAddr rfl Try.underlying130 rfl sz_3 (by decide)) ?_
    refine L.va rfl (X.load rfl sc_3 (by first | exact Ld.blk hk2 rfl | exact Ld.blk hk12 rfl)) ?_
    refine L.nil ?_
    refine J.block ?_
    refine J.seq ?_
    refine J.region ?_
    refine L.va rfl (X.eql rfl rfl) ?_
    refine L.va rfl (X.assign (by conv => lhs; whnf)) ?_
    refine L.nil ?_
    refine J.decF rfl (by dsimp only; decide) ?_
    refine J.seq ?_
    refine J.seq ?_
    refine J.region ?_
    refine L.va rfl (X.eql rfl rfl) ?_
    refine L.va rfl (X.assign (by conv => lhs; whnf)) ?_
    refine L.nil ?_
    refine J.decF rfl (by dsimp only; decide) ?_
    refine J.seq ?_
    refine J.region ?_
    refine L.va rfl (X.eql rfl rfl) ?_
    refine L.va rfl (X.assign (by conv => lhs; whnf)) ?_
    refine L.nil ?_
    refine J.decF rfl (by dsimp only; decide) ?_
    refine J.seq ?_
    refine J.region ?_
    refine L.va rfl (X.eql rfl rfl) ?_
    refine L.va rfl (X.assign (by conv => lhs; whnf)) ?_
    refine L.nil ?_
    refine J.decF rfl (by dsimp only; decide) ?_
    refine J.region ?_
    refine L.va rfl (X.eql rfl rfl) ?_
    refine L.va rfl (X.assign (by conv => lhs; whnf)) ?_
    refine L.nil ?_
    refine J.decF rfl (by dsimp only; decide) ?_
    refine J.seq ?_
    refine J.seq ?_
    refine J.region ?_
    refine L.va rfl (X.eql rfl rfl) ?_
    refine L.va rfl (X.assign (by conv => lhs; whnf)) ?_
    refine L.nil ?_
    refine J.decF rfl (by dsimp only; decide) ?_
    refine J.region ?_
    refine L.va rfl (X.eql rfl rfl) ?_
    refine L.va rfl (X.assign (by conv => lhs; whnf)) ?_
    refine L.nil ?_
    refine J.decT rfl (by exact rfl) ?_
    refine J.skip ?_
    refine J.seq ?_
    refine J.region ?_
    refine L.va rfl (X.fieldAddr rfl Try.underlying130 rfl sz_3 (by decide)) ?_
    refine L.va rfl (X.load rfl sc_3 (by first | exact Ld.blk hk2 rfl | exact Ld.blk hk12 rfl)) ?_
    refine L.va rfl (X.geq rfl rfl) ?_
    refine L.va rfl (X.move (by conv => lhs; whnf)) ?_
    refine L.caseDec (k := 32) rfl (fun h1 => ?_) (fun h1 => ?_)
    · refine L.va rfl (X.fieldAddr rfl Try.underlying130 rfl sz_3 (by decide)) ?_
      refine L.va rfl (X.load rfl sc_3 (by first | exact Ld.blk hk2 rfl | exact Ld.blk hk12 rfl)) ?_
      refine L.va rfl (X.move (by conv => lhs; whnf)) ?_
      refine L.va rfl (X.lss rfl rfl) ?_
      refine L.va rfl (X.pickT rfl (by conv => lhs; whnf)) ?_
      refine L.va rfl (X.assign (by conv => lhs; whnf)) ?_
      refine L.nil ?_
      refine J.ret ?_
      refine fin1 ?_
      exact ⟨by rw [show decide (colOk s (_, m)) = decide (m < (s.n1 : Int)) from decide_eq_decide.2 (by unfold colOk; dsimp only; omega)]; rfl, he⟩
    · refine L.no rfl ?_
      refine L.no rfl ?_
      refine L.no rfl ?_
      refine L.no rfl ?_
      refine L.va rfl (X.pickF rfl (by conv => lhs; whnf)) ?_
      refine L.va rfl (X.assign (by conv => lhs; whnf)) ?_
      refine L.nil ?_
      refine J.ret ?_
      refine fin1 ?_
      exact ⟨by rw [show decide (colOk s (_, m)) = false from decide_eq_false (by unfold colOk; dsimp only; omega)]; rfl, he⟩
  · refine L.va rfl (X.assign (by conv => lhs; whnf)) ?_
    refine L.nil ?_
    refine J.seq ?_
    refine J.region ?_
    refine L.va rfl (X.fieldAddr rfl Try.underlying49 rfl sz_46 (by decide)) ?_
    refine L.va rfl (X.load rfl sc_46 (by first | exact Ld.blk hk2 rfl | exact Ld.blk hk12 rfl)) ?_
    refine L.va rfl (X.len rfl Try.underlying46) ?_
    refine L.va rfl (X.assign (by conv => lhs; whnf)) ?_
    refine L.nil ?_
    refine J.seq ?_
    refine J.seq ?_
    refine J.region ?_
    refine L.va rfl (X.fieldAddr rfl Try.underlying130 rfl sz_3 (by decide)) ?_
    refine L.va rfl (X.load rfl sc_3 (by first | exact Ld.blk hk2 rfl | exact Ld.blk hk12 rfl)) ?_
    refine L.nil ?_
    refine J.block ?_
    refine J.seq ?_
    refine J.region ?_
    refine L.va rfl (X.eql rfl rfl) ?_
    refine L.va rfl (X.assign (by conv => lhs; whnf)) ?_
    refine L.nil ?_
    refine J.decF rfl (by dsimp only; omega) ?_
    refine J.seq ?_
    refine J.seq ?_
    refine J.region ?_
    refine L.va rfl (X.eql rfl rfl) ?_
    refine L.va rfl (X.assign (by conv => lhs; whnf)) ?_
    refine L.nil ?_
    refine J.decF rfl (by dsimp only; omega) ?_
    refine J.seq ?_
    refine J.region ?_
    refine L.va rfl (X.eql rfl rfl) ?_
    refine L.va rfl (X.assign (by conv => lhs; whnf)) ?_
    refine L.nil ?_
    refine J.decF rfl (by dsimp only; omega) ?_
    refine J.seq ?_
    refine J.region ?_
    refine L.va rfl (X.eql rfl rfl) ?_
    refine L.va rfl (X.assign (by conv => lhs; whnf)) ?_
    refine L.nil ?_
    refine J.decF rfl (by dsimp only; omega) ?_
    refine J.region ?_
    refine L.va rfl (X.eql rfl rfl) ?_
    refine L.va rfl (X.assign (by conv => lhs; whnf)) ?_
    refine L.nil ?_
    refine J.decF rfl (by dsimp only; omega) ?_
    refine J.seq ?_
    refine J.seq ?_
    refine J.region ?_
    refine L.va rfl (X.eql rfl rfl) ?_
    refine L.va rfl (X.assign (by conv => lhs; whnf)) ?_
    refine L.nil ?_
    refine J.decF rfl (by dsimp only; omega) ?_
    refine J.region ?_
    refine L.va rfl (X.eql rfl rfl) ?_
    refine L.va rfl (X.assign (by conv => lhs; whnf)) ?_
    refine L.nil ?_
    refine J.decF rfl (by dsimp only; omega) ?_
    refine J.seq ?_
    refine J.region ?_
    refine L.va rfl (X.assign (by conv => lhs; whnf)) ?_
    refine L.nil ?_
    refine J.ret ?_
    refine inB_ret <|  thn_ret <| ?_
    refine fin1 ?_
    exact ⟨by rw [show decide (colOk s (k, m)) = false from decide_eq_false (by unfold colOk; dsimp only; omega)]; rfl, he⟩
theorem rcolumn {s : Sch} (k m : Int) {w : World} (H : s.Here w) : Calls Try.prog 100 #[s.val, .agg (cV (k, m)).toArray] w fun e w' => e = .returned (.bool (decide (colOk s (k, m)))) ∧ Ext w w' := by
  have hle := H.hle
  refine enter Try.func100 rfl (by kernel_rfl) ?_
  refine J.seq ?_
  refine J.region ?_
  refine L.boxA (l := [_, _, _, _]) rfl rfl ?_
  intro b1 w1 hb1 hs1 hk1 he1
  refine L.boxA (l := [_, _]) rfl rfl ?_
  intro b2 w2 hb2 hs2 hk2 he2
  have hk12 := hk1.ext he2
  have he := he1.trans he2
  refine L.va rfl (X.assign (by conv => lhs; whnf)) ?_
  refine L.nil ?_
  refine J.seq ?_
  refine J.seq ?_
  refine J.region ?_
  refine L.va rfl (X.fieldAddr rfl Try.underlying130 rfl sz_3 (by decide)) ?_
  refine L.va rfl (X.load rfl sc_3 (by first | exact Ld.blk hk2 rfl | exact Ld.blk hk12 rfl)) ?_
  refine L.va rfl (X.eql rfl rfl) ?_
  refine L.nil ?_
  refine J.dec rfl (fun h0 => ?_) (fun h0 => ?_)
  · refine J.seq ?_
    refine J.region ?_
    refine L.va rfl (X.fieldAddr rfl Try.underlying130 rfl sz_3 (by decide)) ?_
    refine L.va rfl (X.load rfl sc_3 (by first | exact Ld.blk hk2 rfl | exact Ld.blk hk12 rfl)) ?_
    refine L.va rfl (X.eql rfl rfl) ?_
    refine L.va rfl (X.assign (by conv => lhs; whnf)) ?_
    refine L.nil ?_
    refine J.ret ?_
    refine thn_ret <| ?_
    refine fin1 ?_
    exact ⟨by rw [show decide (colOk s (k, m)) = decide (m = 0) from decide_eq_decide.2 (by unfold colOk; dsimp only; omega)]; rfl, he⟩
  refine J.skip ?_
  refine J.seq ?_
  refine J.seq ?_
  refine J.region ?_
  refine L.va rfl (X.fieldAddr rfl Try.underlying130 rfl sz_3 (by decide)) ?_
  refine L.va rfl (X.load rfl sc_3 (by first | exact Ld.blk hk2 rfl | exact Ld.blk hk12 rfl)) ?_
  refine L.va rfl (X.lss rfl rfl) ?_
  refine L.va rfl (X.move (by conv => lhs; whnf)) ?_
  refine L.caseDec (k := 14) rfl (fun h1 => ?_) (fun h1 => ?_)
  · refine L.no rfl ?_
    refine L.no rfl ?_
    refine L.no rfl ?_
    refine L.va rfl (X.pickT rfl (by conv => lhs; whnf)) ?_
    refine L.va rfl (X.move (by conv => lhs; whnf)) ?_
    refine L.no rfl ?_
    refine L.no rfl ?_
    refine L.no rfl ?_
    refine L.va rfl (X.pickT rfl (by conv => lhs; whnf)) ?_
    refine L.nil ?_
    refine J.iteT rfl ?_
    rw [show decide (colOk s (k, m)) = false from decide_eq_false (by unfold colOk; dsimp only; omega)]
    refine J.seq ?_
    refine J.region ?_
    refine L.va rfl (X.assign (by conv => lhs; whnf)) ?_
    refine L.nil ?_
    refine J.ret ?_
    refine thn_ret <| ?_
    refine fin1 ?_
    exact ⟨rfl, he⟩
  refine L.va rfl (X.fieldAddr rfl Try.underlying130 rfl sz_3 (by decide)) ?_
  refine L.va rfl (X.load rfl sc_3 (by first | exact Ld.blk hk2 rfl | exact Ld.blk hk12 rfl)) ?_
  refine L.va rfl (X.gtr rfl rfl) ?_
  refine L.va rfl (X.pickF rfl (by conv => lhs; whnf)) ?_
  refine L.va rfl (X.move (by conv => lhs; whnf)) ?_
  refine L.caseDec (k := 19) rfl (fun h2 => ?_) (fun h2 => ?_)
  · refine L.no rfl ?_
    refine L.no rfl ?_
    refine L.no rfl ?_
    refine L.va rfl (X.pickT rfl (by conv => lhs; whnf)) ?_
    refine L.nil ?_
    refine J.iteT rfl ?_
    rw [show decide (colOk s (k, m)) = false from decide_eq_false (by unfold colOk; dsimp only; omega)]
    refine J.seq ?_
    refine J.region ?_
    refine L.va rfl (X.assign (by conv => lhs; whnf)) ?_
    refine L.nil ?_
    refine J.ret ?_
    refine thn_ret <| ?_
    refine fin1 ?_
    exact ⟨rfl, he⟩
  refine L.va rfl (X.fieldAddr rfl Try.underlying130 rfl sz_3 (by decide)) ?_
  refine L.va rfl (X.load rfl sc_3 (by first | exact Ld.blk hk2 rfl | exact Ld.blk hk12 rfl)) ?_
  refine L.va rfl (X.lss rfl rfl) ?_
  refine L.va rfl (X.pickF rfl (by conv => lhs; whnf)) ?_
  refine L.nil ?_
  refine J.dec rfl (fun h3 => ?_) (fun h3 => ?_)
  · rw [show decide (colOk s (k, m)) = false from decide_eq_false (by unfold colOk; dsimp only; omega)]
    refine J.seq ?_
    refine J.region ?_
    refine L.va rfl (X.assign (by conv => lhs; whnf)) ?_
    refine L.nil ?_
    refine J.ret ?_
    refine thn_ret <| ?_
    refine fin1 ?_
    exact ⟨rfl, he⟩
  refine J.skip ?_
  refine J.seq ?_
  refine J.seq ?_
  refine J.region ?_
  refine L.va rfl (X.fieldAddr rfl Try.underlying130 rfl sz_3 (by decide)) ?_
  refine L.va rfl (X.load rfl sc_3 (by first | exact Ld.blk hk2 rfl | exact Ld.blk hk12 rfl)) ?_
  refine L.va rfl (X.fieldAddr rfl Try.underlying49 rfl sz_46 (by decide)) ?_
  refine L.va rfl (X.load rfl sc_46 (by first | exact Ld.blk hk2 rfl | exact Ld.blk hk12 rfl)) ?_
  refine L.va rfl (X.len rfl Try.underlying46) ?_
  refine L.va rfl (X.lss rfl rfl) ?_
  refine L.nil ?_
  refine J.dec rfl (fun h4 => ?_) (fun h4 => ?_)
  · rw [show decide (colOk s (k, m)) = true from decide_eq_true (by unfold colOk; dsimp only; omega)]
    refine J.seq ?_
    refine J.region ?_
    refine L.va rfl (X.assign (by conv => lhs; whnf)) ?_
    refine L.nil ?_
    refine J.ret ?_
    refine thn_ret <| ?_
    refine fin1 ?_
    exact ⟨rfl, he⟩
  refine J.skip ?_
  refine J.seq ?_
  refine J.region ?_
  refine L.va rfl (X.fieldAddr rfl Try.underlying130 rfl sz_3 (by decide)) ?_
  refine L.va rfl (X.load rfl sc_3 (by first | exact Ld.blk hk2 rfl | exact Ld.blk hk12 rfl)) ?_
  refine L.va rfl (X.leq rfl rfl) ?_
  refine L.va rfl (X.move (by conv => lhs; whnf)) ?_
  refine L.caseDec (k := 33) rfl (fun h5 => ?_) (fun h5 => ?_)
  · refine L.va rfl (X.fieldAddr rfl Try.underlying130 rfl sz_3 (by decide)) ?_
    refine L.va rfl (X.load rfl sc_3 (by first | exact Ld.blk hk2 rfl | exact Ld.blk hk12 rfl)) ?_
    refine L.va rfl (X.fieldAddr rfl Try.underlying49 rfl sz_46 (by decide)) ?_
    refine L.va rfl (X.load rfl sc_46 (by first | exact Ld.blk hk2 rfl | exact Ld.blk hk12 rfl)) ?_
    refine L.va rfl (X.len rfl Try.underlying46) ?_
    refine L.va rfl (X.fieldAddr rfl Try.underlying49 rfl sz_46 (by decide)) ?_
    refine L.va rfl (X.load rfl sc_46 (by first | exact Ld.blk hk2 rfl | exact Ld.blk hk12 rfl)) ?_
    refine L.va rfl (X.len rfl Try.underlying46) ?_
    refine L.va rfl (X.add rfl rfl (by omega)) ?_
    refine L.va rfl (X.lss rfl rfl) ?_
    refine L.va rfl (X.pickT rfl (by conv => lhs; whnf)) ?_
    refine L.va rfl (X.assign (by conv => lhs; whnf)) ?_
    refine L.nil ?_
    refine J.ret ?_
    refine fin1 ?_
    exact ⟨by rw [show decide (colOk s (k, m)) = decide (m < (s.n1 : Int) + s.n2) from decide_eq_decide.2 (by unfold colOk; dsimp only; omega)]; rfl, he⟩
  · rw [show decide (colOk s (k, m)) = false from decide_eq_false (by unfold colOk; dsimp only; omega)]
    refine L.no rfl ?_
    refine L.no rfl ?_
    refine L.no rfl ?_
    refine L.no rfl ?_
    refine L.no rfl ?_
    refine L.no rfl ?_
    refine L.no rfl ?_
    refine L.no rfl ?_
    refine L.no rfl ?_
    refine L.no rfl ?_
    refine L.va rfl (X.pickF rfl (by conv => lhs; whnf)) ?_
    refine L.va rfl (X.assign (by conv => lhs; whnf)) ?_
    refine L.nil ?_
    refine J.ret ?_
    refine fin1 ?_
    exact ⟨rfl, he⟩
end Go.Proofs.Ytlipeplfjkgamaa
namespace Go.Proofs.Ytlipeplfjkgamaa
set_option maxRecDepth 100000
open Go.RowKit H
set_option linter.unusedVariables false
abbrev oV (x : Int × Bool) : List Value := [.int .i64 x.1, .bool x.2]
theorem cV_len (x : Int × Int) : (cV x).length = 2 := rfl
theorem oV_len (x : Int × Bool) : (oV x).length = 2 := rfl
def c0 : Int × Int := (0, 0)
def o0 : Int × Bool := (0, false)
theorem gtC {l : List (Int × Int)} {i : Nat} (h : i < l.length) : l[i]? = some (l.getD i c0) := by rw [List.getD, List.getElem?_eq_getElem h]; rfl
theorem gtO {l : List (Int × Bool)} {i : Nat} (h : i < l.length) : l[i]? = some (l.getD i o0) := by rw [List.getD, List.getElem?_eq_getElem h]; rfl
structure Qu where
  (g : Nat) (f : Fis) (Ac : Option Addr) (nc cc : Nat) (c : List (Int × Int)) (Ao : Option Addr) (no co : Nat) (o : List (Int × Bool)) (m : Int)
namespace Qu
abbrev vs (q : Qu) : List Value := [.int .u32 (q.g : Int), q.f.val, .slice q.Ac q.nc q.cc, .slice q.Ao q.no q.co, .int .i64 q.m]
abbrev val (q : Qu) : Value := .agg q.vs.toArray
structure At (q : Qu) (N : Nat) (w : World) : Prop where
  g : q.g < 4294967296
  f : q.f.At N w
  c : Reads w N 2 q.Ac q.nc (q.c.flatMap cV)
  lc : q.c.length = q.nc
  mc : q.nc ≤ maxLen
  o : Reads w N 2 q.Ao q.no (q.o.flatMap oV)
  lo : q.o.length = q.no
  mo : q.no ≤ maxLen
theorem At.ext {q : Qu} {N : Nat} {w w' : World} (h : q.At N w) (he : Ext w w') : q.At N w' := ⟨h.g, h.f.ext he, h.c.ext he, h.lc, h.mc, h.o.ext he, h.lo, h.mo⟩
theorem At.more {q : Qu} {N N' : Nat} {w : World} (h : q.At N w) (hN : N ≤ N') : q.At N' w := ⟨h.g, h.f.more hN, h.c.more hN, h.lc, h.mc, h.o.more hN, h.lo, h.mo⟩
abbrev oOk (q : Qu) (x : Int × Bool) : Prop := 0 ≤ x.1 ∧ x.1 < (q.nc : Int)
end Qu
def qcode (s : Sch) (q : Qu) : Int :=
  if s.code ≠ 0 then 1 else if ¬ (q.g : Int) ≤ s.F then 11 else if fcode s q.f ≠ 0 then fcode s q.f
  else if q.nc < 1 ∨ 16 < q.nc ∨ 8 < q.no then 3
  else if (∃ i, i < q.nc ∧ ¬ colOk s (q.c.getD i c0)) ∨ (∃ i, i < q.no ∧ ¬ q.oOk (q.o.getD i o0)) ∨ q.m < 0 then 2 else 0
section
variable {s : Sch} {q : Qu}
theorem qc_1 (h : s.code ≠ 0) : qcode s q = 1 := by unfold qcode; rw [if_pos h]
theorem qc_11 (h : s.code = 0) (h2 : ¬ (q.g : Int) ≤ s.F) : qcode s q = 11 := by unfold qcode; rw [if_neg (fun k => k h), if_pos h2]
theorem qc_f (h : s.code = 0) (h2 : (q.g : Int) ≤ s.F) (h3 : fcode s q.f ≠ 0) : qcode s q = fcode s q.f := by unfold qcode; rw [if_neg (fun k => k h), if_neg (fun k => k h2), if_pos h3]
theorem qc_3 (h : s.code = 0) (h2 : (q.g : Int) ≤ s.F) (h3 : fcode s q.f = 0) (h4 : q.nc < 1 ∨ 16 < q.nc ∨ 8 < q.no) : qcode s q = 3 := by unfold qcode; rw [if_neg (fun k => k h), if_neg (fun k => k h2), if_neg (fun k => k h3), if_pos h4]
theorem qc_2 (h : s.code = 0) (h2 : (q.g : Int) ≤ s.F) (h3 : fcode s q.f = 0) (h4 : ¬ (q.nc < 1 ∨ 16 < q.nc ∨ 8 < q.no)) (h5 : (∃ i, i < q.nc ∧ ¬ colOk s (q.c.getD i c0)) ∨ (∃ i, i < q.no ∧ ¬ q.oOk (q.o.getD i o0)) ∨ q.m < 0) : qcode s q = 2 := by
  unfold qcode; rw [if_neg (fun k => k h), if_neg (fun k => k h2), if_neg (fun k => k h3), if_neg h4, if_pos h5]
theorem qc_0 (h : s.code = 0) (h2 : (q.g : Int) ≤ s.F) (h3 : fcode s q.f = 0) (h4 : ¬ (q.nc < 1 ∨ 16 < q.nc ∨ 8 < q.no)) (h5 : ∀ i, i < q.nc → colOk s (q.c.getD i c0)) (h6 : ∀ i, i < q.no → q.oOk (q.o.getD i o0)) (h7 : ¬ q.m < 0) : qcode s q = 0 := by
  unfold qcode; rw [if_neg (fun k => k h), if_neg (fun k => k h2), if_neg (fun k => k h3), if_neg h4, if_neg]
  rintro (⟨i, hi, k⟩ | ⟨i, hi, k⟩ | k)
  · exact k (h5 i hi)
  · exact k (h6 i hi)
  · exact h7 k
theorem qc_ok (h : qcode s q = 0) : s.code = 0 ∧ (q.g : Int) ≤ s.F ∧ fcode s q.f = 0 ∧ ¬ (q.nc < 1 ∨ 16 < q.nc ∨ 8 < q.no) := by
  unfold qcode at h
  split at h
  · cases h
  · rename_i h1
    split at h
    · cases h
    · rename_i h2
      split at h
      · rename_i h3; exact absurd h h3
      · rename_i h3
        split at h
        · cases h
        · rename_i h4
          exact ⟨Decidable.not_not.1 h1, Decidable.not_not.1 h2, Decidable.not_not.1 h3, h4⟩
end
theorem qcheck {s : Sch} {q : Qu} {w : World} (H : s.Here w) (hq : q.At w.heap.size w) : Calls Try.prog 33 #[s.val, q.val] w fun e w' => e = .returned (.int .i64 (qcode s q)) ∧ Ext w w' := by
  have hle := H.hle
  have hg := hq.g
  have lc := hq.lc
  have mc := hq.mc
  have lo := hq.lo
  have mo := hq.mo
  unfold maxLen at mc mo
  refine enter Try.func33 rfl (by kernel_rfl) ?_
  refine J.seq ?_
  refine J.region ?_
  refine L.boxA (l := [_, _, _, _]) rfl rfl ?_
  intro b1 w1 hb1 hs1 hk1 he1
  refine L.boxA (l := [_, _, _, _, _]) rfl rfl ?_
  intro b2 w2 hb2 hs2 hk2 he2
  have hk12 := hk1.ext he2
  have he02 := he1.trans he2
  have H2 := H.ext he02
  have hk2 : Blk w2 b2 54 q.vs.toArray := hk2
  by_cases hc : s.code = 0
  · refine L.va rfl (X.assign (by conv => lhs; whnf)) ?_
    refine L.nil ?_
    refine J.seq ?_
    refine J.region ?_
    refine L.va rfl ((by first | exact X.loadAgg rfl (range_l hk2) Try.underlying49 rfl (by kernel_rfl) | exact X.loadAgg rfl (range_blk hk2) Try.underlying49 rfl (by kernel_rfl) | exact X.loadAgg rfl (range_l hk12) Try.underlying49 rfl (by kernel_rfl) | exact X.loadAgg rfl (range_blk hk12) Try.underlying49 rfl (by kernel_rfl))) ?_
    refine L.call rfl en_90 rfl (H2.full_ok hc) ?_
    rintro e w3 ⟨rfl, he3⟩
    refine ⟨_, rfl, ?_⟩
    have he03 := he02.trans he3
    have hF := Sch.F_bd hc
    have hnd := (Sch.good hc).1.2.1
    have hand := Sch.andNot_full (s := s) (m := q.g) hg hnd
    replace hk2 := hk2.ext he3
    replace hk12 := hk12.ext he3
    refine L.va rfl (X.assign (by conv => lhs; whnf)) ?_
    refine L.nil ?_
    refine J.seq ?_
    refine J.seq ?_
    refine J.region ?_
    refine L.va rfl (X.move (by conv => lhs; whnf)) ?_
    refine L.va rfl (X.eql rfl rfl) ?_
    refine L.nil ?_
    refine J.decF rfl (by omega) ?_
    refine J.skip ?_
    refine J.seq ?_
    refine J.seq ?_
    refine J.region ?_
    refine L.va rfl (X.fieldAddr rfl Try.underlying54 rfl sz_50 (by decide)) ?_
    refine L.va rfl (X.load rfl sc_50 (by first | exact Ld.blk hk2 rfl | exact Ld.blk hk12 rfl)) ?_
    refine L.va rfl (X.move (by conv => lhs; whnf)) ?_
    refine L.va rfl (X.andNot rfl rfl) ?_
    refine L.va rfl (X.neq rfl rfl) ?_
    refine L.nil ?_
    refine J.ndec rfl (fun h2 => ?_) (fun h2 => ?_)
    · rw [qc_11 hc (fun h => h2 (hand.2 h))]
      refine J.seq ?_
      refine J.region ?_
      refine L.va rfl (X.assign (by conv => lhs; whnf)) ?_
      refine L.nil ?_
      refine J.ret ?_
      refine thn_ret <| ?_
      refine fin1 ?_
      exact ⟨rfl, he03⟩
    have h2 := hand.1 h2
    have q3 := (hq.ext he03).more he03.le
    refine J.skip ?_
    refine J.seq ?_
    refine J.seq ?_
    refine J.region ?_
    refine L.va rfl ((by first | exact X.loadAgg rfl (range_l hk2) Try.underlying49 rfl (by kernel_rfl) | exact X.loadAgg rfl (range_blk hk2) Try.underlying49 rfl (by kernel_rfl) | exact X.loadAgg rfl (range_l hk12) Try.underlying49 rfl (by kernel_rfl) | exact X.loadAgg rfl (range_blk hk12) Try.underlying49 rfl (by kernel_rfl))) ?_
    refine L.va rfl (X.fieldAddr rfl Try.underlying54 rfl sz_51 (by decide)) ?_
    refine L.va rfl (X.load rfl sc_51 (by first | exact Ld.blk hk2 rfl | exact Ld.blk hk12 rfl)) ?_
    refine L.call rfl en_91 rfl (fcheck (H.ext he03) q3.f) ?_
    rintro e w4 ⟨rfl, he4⟩
    refine ⟨_, rfl, ?_⟩
    have he04 := he03.trans he4
    replace hk2 := hk2.ext he4
    replace hk12 := hk12.ext he4
    refine L.va rfl (X.assign (by conv => lhs; whnf)) ?_
    refine L.nil ?_
    refine J.seq ?_
    refine J.region ?_
    refine L.va rfl (X.move (by conv => lhs; whnf)) ?_
    refine L.va rfl (X.neq rfl rfl) ?_
    refine L.nil ?_
    refine J.ndec rfl (fun h3 => ?_) (fun h3 => ?_)
    · rw [qc_f hc h2 h3]
      refine J.seq ?_
      refine J.region ?_
      refine L.va rfl (X.move (by conv => lhs; whnf)) ?_
      refine L.va rfl (X.assign (by conv => lhs; whnf)) ?_
      refine L.nil ?_
      refine J.ret ?_
      refine thn_ret <| ?_
      refine fin1 ?_
      exact ⟨rfl, he04⟩
    refine J.skip ?_
    refine J.seq ?_
    refine J.seq ?_
    refine J.region ?_
    refine L.va rfl (X.fieldAddr rfl Try.underlying54 rfl sz_52 (by decide)) ?_
    refine L.va rfl (X.load rfl sc_52 (by first | exact Ld.blk hk2 rfl | exact Ld.blk hk12 rfl)) ?_
    refine L.va rfl (X.len rfl Try.underlying52) ?_
    refine L.va rfl (X.eql rfl rfl) ?_
    refine L.va rfl (X.move (by conv => lhs; whnf)) ?_
    refine L.caseDec (k := 31) rfl (fun h4 => ?_) (fun h4 => ?_)
    · refine L.no rfl ?_
      refine L.no rfl ?_
      refine L.no rfl ?_
      refine L.no rfl ?_
      refine L.va rfl (X.pickT rfl (by conv => lhs; whnf)) ?_
      refine L.va rfl (X.move (by conv => lhs; whnf)) ?_
      refine L.no rfl ?_
      refine L.no rfl ?_
      refine L.no rfl ?_
      refine L.no rfl ?_
      refine L.va rfl (X.pickT rfl (by conv => lhs; whnf)) ?_
      refine L.nil ?_
      refine J.iteT rfl ?_
      rw [qc_3 hc h2 h3 (by omega)]
      refine J.seq ?_
      refine J.region ?_
      refine L.va rfl (X.assign (by conv => lhs; whnf)) ?_
      refine L.nil ?_
      refine J.ret ?_
      refine thn_ret <| ?_
      refine fin1 ?_
      exact ⟨rfl, he04⟩
    refine L.va rfl (X.fieldAddr rfl Try.underlying54 rfl sz_52 (by decide)) ?_
    refine L.va rfl (X.load rfl sc_52 (by first | exact Ld.blk hk2 rfl | exact Ld.blk hk12 rfl)) ?_
    refine L.va rfl (X.len rfl Try.underlying52) ?_
    refine L.va rfl (X.gtr rfl rfl) ?_
    refine L.va rfl (X.pickF rfl (by conv => lhs; whnf)) ?_
    refine L.va rfl (X.move (by conv => lhs; whnf)) ?_
    refine L.caseDec (k := 37) rfl (fun h5 => ?_) (fun h5 => ?_)
    · refine L.no rfl ?_
      refine L.no rfl ?_
      refine L.no rfl ?_
      refine L.no rfl ?_
      refine L.va rfl (X.pickT rfl (by conv => lhs; whnf)) ?_
      refine L.nil ?_
      refine J.iteT rfl ?_
      rw [qc_3 hc h2 h3 (by omega)]
      refine J.seq ?_
      refine J.region ?_
      refine L.va rfl (X.assign (by conv => lhs; whnf)) ?_
      refine L.nil ?_
      refine J.ret ?_
      refine thn_ret <| ?_
      refine fin1 ?_
      exact ⟨rfl, he04⟩
    refine L.va rfl (X.fieldAddr rfl Try.underlying54 rfl sz_22 (by decide)) ?_
    refine L.va rfl (X.load rfl sc_22 (by first | exact Ld.blk hk2 rfl | exact Ld.blk hk12 rfl)) ?_
    refine L.va rfl (X.len rfl Try.underlying22) ?_
    refine L.va rfl (X.gtr rfl rfl) ?_
    refine L.va rfl (X.pickF rfl (by conv => lhs; whnf)) ?_
    refine L.nil ?_
    refine J.dec rfl (fun h6 => ?_) (fun h6 => ?_)
    · rw [qc_3 hc h2 h3 (by omega)]
      refine J.seq ?_
      refine J.region ?_
      refine L.va rfl (X.assign (by conv => lhs; whnf)) ?_
      refine L.nil ?_
      refine J.ret ?_
      refine thn_ret <| ?_
      refine fin1 ?_
      exact ⟨rfl, he04⟩
    have H4 := H.ext he04
    have z4 := he04.le
    refine J.skip ?_
    refine J.seq ?_
    refine J.seq ?_
    refine J.region ?_
    refine L.va rfl (X.fieldAddr rfl Try.underlying54 rfl sz_52 (by decide)) ?_
    refine L.va rfl (X.load rfl sc_52 (by first | exact Ld.blk hk2 rfl | exact Ld.blk hk12 rfl)) ?_
    refine L.va rfl (X.len rfl Try.underlying52) ?_
    refine L.va rfl (X.move (by conv => lhs; whnf)) ?_
    refine L.nil ?_
    refine J.block ?_
    refine J.loop (X := Nat) [4, 8, 46, 47, 48, 49, 50, 51, 52, 53, 54] (fun i => [(46, .int .i64 (i : Int))]) (fun i w' => i ≤ q.nc ∧ (∀ j, j < i → colOk s (q.c.getD j c0)) ∧ Ext w4 w') (fun i => q.nc - i) (0) (At1 (by first | rfl | exact at_int rfl (by omega) | exact at_slice rfl (by omega) | exact at_int rfl (by simp))) ?_ ?_
    · exact ⟨Nat.zero_le _, fun j hj => absurd hj (by omega), Ext.refl _⟩
    · rintro i g w5 ⟨hi, hP, he5⟩
      have he05 := he04.trans he5
      have z5 := he5.le
      have hk5 := hk2.ext he5
      have hk15 := hk12.ext he5
      have c5 := hq.c.ext he05
      refine J.seq ?_
      refine J.region ?_
      refine L.va rfl (X.lss rfl rfl) ?_
      refine L.nil ?_
      refine J.seq ?_
      refine J.dec rfl (fun hlt => ?_) (fun hlt => ?_)
      · have hin : i < q.nc := by omega
        have hA := c5.some_ (by omega)
        obtain ⟨k, m, hkm⟩ : ∃ k m, q.c.getD i c0 = (k, m) := ⟨_, _, rfl⟩
        have hgt := gtC (l := q.c) (i := i) (by omega)
        rw [hkm] at hgt
        refine J.skip ?_
        refine J.seq ?_
        refine J.block ?_
        refine J.seq ?_
        refine J.region ?_
        refine L.va rfl ((by first | exact X.indexAddrn rfl rfl Try.underlying52 sz_130 (by first | exact Option.some_ne_none _ | exact hA) (by omega) | exact X.indexAddr rfl rfl Try.underlying52 sz_130 (by first | exact Option.some_ne_none _ | exact hA) (by omega))) ?_
        refine L.va rfl (X.loadRow (cs := cV (k, m)) rfl c5 (fun r u hu => flat_row cV_len hgt r u hu) (Nat.zero_lt_succ _) Try.underlying130 rfl (by kernel_rfl)) ?_
        refine L.alloc rfl zr_130 ?_
        intro b6 w6 hb6 hs6 hk6 he6
        have hk56 := hk5.ext he6
        have hk156 := hk15.ext he6
        have l56 := hk5.lt
        have l156 := hk15.lt
        refine L.storeAgg (vs := [_, _]) rfl rfl rfl rfl sz_130 (hk6) rfl ?_
        intro w7 hk7 hg7 hs7
        have he57 : Ext w5 w7 := he6.grw hg7 (by intro g hg; injection hg with hg; omega)
        have hk7 : Blk w7 b6 130 (cV (k, m)).toArray := hk7
        have hk57 := hk5.ext he57
        have hk157 := hk15.ext he57
        have he07 := he05.trans he57
        refine L.nil ?_
        refine J.seq ?_
        refine J.region ?_
        refine L.va rfl ((by first | exact X.loadAgg rfl (range_l hk7) Try.underlying49 rfl (by kernel_rfl) | exact X.loadAgg rfl (range_blk hk7) Try.underlying49 rfl (by kernel_rfl) | exact X.loadAgg rfl (range_l hk57) Try.underlying49 rfl (by kernel_rfl) | exact X.loadAgg rfl (range_blk hk57) Try.underlying49 rfl (by kernel_rfl) | exact X.loadAgg rfl (range_l hk157) Try.underlying49 rfl (by kernel_rfl) | exact X.loadAgg rfl (range_blk hk157) Try.underlying49 rfl (by kernel_rfl))) ?_
        refine L.va rfl ((by first | exact X.loadAgg rfl (range_l hk7) Try.underlying130 rfl (by kernel_rfl) | exact X.loadAgg rfl (range_blk hk7) Try.underlying130 rfl (by kernel_rfl) | exact X.loadAgg rfl (range_l hk57) Try.underlying130 rfl (by kernel_rfl) | exact X.loadAgg rfl (range_blk hk57) Try.underlying130 rfl (by kernel_rfl) | exact X.loadAgg rfl (range_l hk157) Try.underlying130 rfl (by kernel_rfl) | exact X.loadAgg rfl (range_blk hk157) Try.underlying130 rfl (by kernel_rfl))) ?_
        refine L.call rfl en_92 rfl (qcolumn k m (H.ext he07)) ?_
        rintro e w8 ⟨rfl, he8⟩
        refine ⟨_, rfl, ?_⟩
        refine L.va rfl (X.not rfl) ?_
        refine L.nil ?_
        by_cases hok : colOk s (k, m)
        · rw [decide_eq_true hok]
          refine J.iteF rfl ?_
          refine J.skip ?_
          refine J.region ?_
          refine L.va rfl (X.add rfl rfl (by omega)) ?_
          refine L.va rfl (X.move (by conv => lhs; whnf)) ?_
          refine L.nil ?_
          refine ⟨i + 1, At1 (by first | rfl | exact at_int rfl (by omega) | exact at_slice rfl (by omega) | exact at_int rfl (by simp)), (by (iterate 10 refine Agr.lk rfl ?_); exact Agr.lk rfl (Agr.hav rfl Agr.rfl')), ?_⟩
          refine ⟨⟨by omega, fun j hj => ?_, he5.trans (he57.trans he8)⟩, by omega⟩
          rcases Nat.lt_or_ge j i with h | h
          · exact hP j h
          · obtain rfl : j = i := by omega
            rw [hkm]; exact hok
        · rw [decide_eq_false hok, qc_2 hc h2 h3 (by omega) (.inl ⟨i, hin, by rw [hkm]; exact hok⟩)]
          refine J.iteT rfl ?_
          refine J.seq ?_
          refine J.region ?_
          refine L.va rfl (X.assign (by conv => lhs; whnf)) ?_
          refine L.nil ?_
          refine J.ret ?_
          refine inB_ret <|  thn_ret <|  thn_ret <|  inB_ret <|  thn_ret <| ?_
          refine fin1 ?_
          exact ⟨rfl, he07.trans he8⟩
      · refine J.exit ?_
        refine J.seq ?_
        refine J.seq ?_
        refine J.region ?_
        refine L.va rfl (X.fieldAddr rfl Try.underlying54 rfl sz_22 (by decide)) ?_
        refine L.va rfl (X.load rfl sc_22 (by first | exact Ld.blk hk5 rfl | exact Ld.blk hk15 rfl)) ?_
        refine L.va rfl (X.len rfl Try.underlying22) ?_
        refine L.va rfl (X.move (by conv => lhs; whnf)) ?_
        refine L.nil ?_
        refine J.block ?_
        refine J.loop (X := Nat) [4, 10, 58, 59, 60, 61, 62, 63, 64, 65, 66, 67, 68, 69, 70, 71, 72, 73] (fun i => [(58, .int .i64 (i : Int))]) (fun i w' => i ≤ q.no ∧ (∀ j, j < i → q.oOk (q.o.getD j o0)) ∧ Ext w4 w') (fun i => q.no - i) (0) (At1 (by first | rfl | exact at_int rfl (by omega) | exact at_slice rfl (by omega) | exact at_int rfl (by simp))) ?_ ?_
        · exact ⟨Nat.zero_le _, fun j hj => absurd hj (by omega), he5⟩
        · rintro j g w6 ⟨hj, hQ, he6⟩
          have he06 := he04.trans he6
          have z6 := he6.le
          have hk6 := hk2.ext he6
          have o6 := hq.o.ext he06
          refine J.seq ?_
          refine J.region ?_
          refine L.va rfl (X.lss rfl rfl) ?_
          refine L.nil ?_
          refine J.seq ?_
          refine J.dec rfl (fun hlt2 => ?_) (fun hlt2 => ?_)
          · have hjn : j < q.no := by omega
            have hA := o6.some_ (by omega)
            obtain ⟨k, m, hkm⟩ : ∃ k m, q.o.getD j o0 = (k, m) := ⟨_, _, rfl⟩
            have hgt := gtO (l := q.o) (i := j) (by omega)
            rw [hkm] at hgt
            refine J.skip ?_
            refine J.seq ?_
            refine J.block ?_
            refine J.seq ?_
            refine J.region ?_
            refine L.va rfl ((by first | exact X.indexAddrn rfl rfl Try.underlying22 sz_98 (by first | exact Option.some_ne_none _ | exact hA) (by omega) | exact X.indexAddr rfl rfl Try.underlying22 sz_98 (by first | exact Option.some_ne_none _ | exact hA) (by omega))) ?_
            refine L.va rfl (X.loadRow (cs := oV (k, m)) rfl o6 (fun r u hu => flat_row oV_len hgt r u hu) (Nat.zero_lt_succ _) Try.underlying98 rfl (by kernel_rfl)) ?_
            refine L.alloc rfl zr_98 ?_
            intro b7 w7 hb7 hs7 hk7 he7
            refine L.storeAgg (vs := [_, _]) rfl rfl rfl rfl sz_98 (hk7) rfl ?_
            intro w8 hk8 hg8 hs8
            have he68 : Ext w6 w8 := he7.grw hg8 (by intro g hg; injection hg with hg; omega)
            have hk8 : Blk w8 b7 98 (oV (k, m)).toArray := hk8
            have hk68 := hk6.ext he68
            have he08 := he06.trans he68
            refine L.nil ?_
            refine J.seq ?_
            refine J.region ?_
            refine L.va rfl (X.fieldAddr rfl Try.underlying98 rfl sz_3 (by decide)) ?_
            refine L.va rfl (X.load rfl sc_3 (by first | exact Ld.blk hk8 rfl | exact Ld.blk hk68 rfl | exact hA)) ?_
            refine L.va rfl (X.lss rfl rfl) ?_
            refine L.va rfl (X.move (by conv => lhs; whnf)) ?_
            refine L.caseDec (k := 65) rfl (fun h7 => ?_) (fun h7 => ?_)
            · refine L.no rfl ?_
              refine L.no rfl ?_
              refine L.no rfl ?_
              refine L.no rfl ?_
              refine L.no rfl ?_
              refine L.no rfl ?_
              refine L.va rfl (X.pickT rfl (by conv => lhs; whnf)) ?_
              refine L.nil ?_
              refine J.iteT rfl ?_
              rw [qc_2 hc h2 h3 (by omega) (.inr (.inl ⟨j, hjn, by rw [hkm]; unfold Qu.oOk; dsimp only; omega⟩))]
              refine J.seq ?_
              refine J.region ?_
              refine L.va rfl (X.assign (by conv => lhs; whnf)) ?_
              refine L.nil ?_
              refine J.ret ?_
              refine inB_ret <|  thn_ret <|  thn_ret <|  inB_ret <|  thn_ret <| ?_
              refine fin1 ?_
              exact ⟨rfl, he08⟩
            refine L.va rfl (X.fieldAddr rfl Try.underlying98 rfl sz_3 (by decide)) ?_
            refine L.va rfl (X.load rfl sc_3 (by first | exact Ld.blk hk8 rfl | exact Ld.blk hk68 rfl | exact hA)) ?_
            refine L.va rfl (X.fieldAddr rfl Try.underlying54 rfl sz_52 (by decide)) ?_
            refine L.va rfl (X.load rfl sc_52 (by first | exact Ld.blk hk8 rfl | exact Ld.blk hk68 rfl | exact hA)) ?_
            refine L.va rfl (X.len rfl Try.underlying52) ?_
            refine L.va rfl (X.geq rfl rfl) ?_
            refine L.va rfl (X.pickF rfl (by conv => lhs; whnf)) ?_
            refine L.nil ?_
            refine J.dec rfl (fun h8 => ?_) (fun h8 => ?_)
            · rw [qc_2 hc h2 h3 (by omega) (.inr (.inl ⟨j, hjn, by rw [hkm]; unfold Qu.oOk; dsimp only; omega⟩))]
              refine J.seq ?_
              refine J.region ?_
              refine L.va rfl (X.assign (by conv => lhs; whnf)) ?_
              refine L.nil ?_
              refine J.ret ?_
              refine inB_ret <|  thn_ret <|  thn_ret <|  inB_ret <|  thn_ret <| ?_
              refine fin1 ?_
              exact ⟨rfl, he08⟩
            refine J.skip ?_
            refine J.region ?_
            refine L.va rfl (X.add rfl rfl (by omega)) ?_
            refine L.va rfl (X.move (by conv => lhs; whnf)) ?_
            refine L.nil ?_
            refine ⟨j + 1, At1 (by first | rfl | exact at_int rfl (by omega) | exact at_slice rfl (by omega) | exact at_int rfl (by simp)), (by (iterate 18 refine Agr.lk rfl ?_); exact Agr.lk rfl (Agr.hav rfl Agr.rfl')), ?_⟩
            refine ⟨⟨by omega, fun j' hj' => ?_, he6.trans he68⟩, by omega⟩
            rcases Nat.lt_or_ge j' j with h | h
            · exact hQ j' h
            · obtain rfl : j' = j := by omega
              rw [hkm]; exact ⟨by dsimp only; omega, by dsimp only; omega⟩
          · refine J.exit ?_
            refine J.seq ?_
            refine J.seq ?_
            refine J.region ?_
            refine L.va rfl (X.fieldAddr rfl Try.underlying54 rfl sz_3 (by decide)) ?_
            refine L.va rfl (X.load rfl sc_3 (by first | exact Ld.blk hk6 rfl)) ?_
            refine L.va rfl (X.lss rfl rfl) ?_
            refine L.nil ?_
            refine J.dec rfl (fun h9 => ?_) (fun h9 => ?_)
            · rw [qc_2 hc h2 h3 (by omega) (.inr (.inr h9))]
              refine J.seq ?_
              refine J.region ?_
              refine L.va rfl (X.assign (by conv => lhs; whnf)) ?_
              refine L.nil ?_
              refine J.ret ?_
              refine thn_ret <| ?_
              refine fin1 ?_
              exact ⟨rfl, he06⟩
            · rw [qc_0 hc h2 h3 (by omega) (fun i hi => hP i (by omega)) (fun i hi => hQ i (by omega)) h9]
              refine J.skip ?_
              refine J.seq ?_
              refine J.region ?_
              refine L.va rfl (X.assign (by conv => lhs; whnf)) ?_
              refine L.nil ?_
              refine J.ret ?_
              refine fin1 ?_
              exact ⟨rfl, he06⟩
  · refine L.va rfl (X.assign (by conv => lhs; whnf)) ?_
    refine L.nil ?_
    refine J.seq ?_
    refine J.region ?_
    refine L.va rfl ((by first | exact X.loadAgg rfl (range_l hk2) Try.underlying49 rfl (by kernel_rfl) | exact X.loadAgg rfl (range_blk hk2) Try.underlying49 rfl (by kernel_rfl) | exact X.loadAgg rfl (range_l hk12) Try.underlying49 rfl (by kernel_rfl) | exact X.loadAgg rfl (range_blk hk12) Try.underlying49 rfl (by kernel_rfl))) ?_
    refine L.call rfl en_90 rfl (H2.full_no hc) ?_
    rintro e w3 ⟨rfl, he3⟩
    refine ⟨_, rfl, ?_⟩
    rw [qc_1 hc]
    refine L.va rfl (X.assign (by conv => lhs; whnf)) ?_
    refine L.nil ?_
    refine J.seq ?_
    refine J.seq ?_
    refine J.region ?_
    refine L.va rfl (X.move (by conv => lhs; whnf)) ?_
    refine L.va rfl (X.eql rfl rfl) ?_
    refine L.nil ?_
    refine J.iteT rfl ?_
    refine J.seq ?_
    refine J.region ?_
    refine L.va rfl (X.assign (by conv => lhs; whnf)) ?_
    refine L.nil ?_
    refine J.ret ?_
    refine thn_ret <| ?_
    refine fin1 ?_
    exact ⟨rfl, he02.trans he3⟩
end Go.Proofs.Ytlipeplfjkgamaa
namespace Go.Proofs.Ytlipeplfjkgamaa
set_option maxRecDepth 100000
open Go.RowKit H
set_option linter.unusedVariables false
theorem lst_eq {α : Type} (d : α) {a b : List α} (h : a.length = b.length) (hP : ∀ j, j < a.length → a.getD j d = b.getD j d) : a = b := by
  apply List.ext_getElem h
  intro i h1 h2
  have := hP i h1
  simpa [List.getD, h1, h2] using this
end Go.Proofs.Ytlipeplfjkgamaa
namespace Go.Proofs.Ytlipeplfjkgamaa
set_option maxRecDepth 100000
open Go.RowKit H
set_option linter.unusedVariables false
theorem two_col : Two Try.prog 130 3 3 := ⟨by kernel_rfl, by kernel_rfl, by kernel_rfl, by kernel_rfl⟩
theorem two_srt : Two Try.prog 98 3 4 := ⟨by kernel_rfl, by kernel_rfl, by kernel_rfl, by kernel_rfl⟩
theorem pne {α β : Type} [DecidableEq α] [DecidableEq β] {a b : α × β} : (!((a.1 == b.1) && (a.2 == b.2))) = decide (¬ a = b) := by
  obtain ⟨a1, a2⟩ := a
  obtain ⟨b1, b2⟩ := b
  by_cases h1 : a1 = b1 <;> by_cases h2 : a2 = b2 <;> simp [h1, h2]
theorem pneF {α β : Type} [DecidableEq α] [DecidableEq β] {a b : α × β} (h : a = b) : (!((a.1 == b.1) && (a.2 == b.2))) = false := by rw [pne]; exact decide_eq_false (fun k => k h)
theorem pneT {α β : Type} [DecidableEq α] [DecidableEq β] {a b : α × β} (h : ¬ a = b) : (!((a.1 == b.1) && (a.2 == b.2))) = true := by rw [pne]; exact decide_eq_true h
theorem eq_boo {P : Program} {t : TypeId} {a b : Bool} (h : P.underlying t = some .bool) : ∀ w : World, (Op.equalIn 9999 t (.bool a) (.bool b)).run P w = .ok (a == b) w := fun w => by
  exact run_equalIn_bool w 9998 t a b h
end Go.Proofs.Ytlipeplfjkgamaa
namespace Go.Proofs.Ytlipeplfjkgamaa
set_option maxRecDepth 100000
open Go.RowKit H
set_option linter.unusedVariables false
structure Qu.Eqv (a b : Qu) : Prop where
  g : a.g = b.g
  m : a.m = b.m
  c : a.c = b.c
  o : a.o = b.o
  f : a.f.l.map Fi.key = b.f.l.map Fi.key
instance (a b : Qu) : Decidable (a.Eqv b) := decidable_of_iff (a.g = b.g ∧ a.m = b.m ∧ a.c = b.c ∧ a.o = b.o ∧ a.f.l.map Fi.key = b.f.l.map Fi.key) ⟨fun ⟨h1, h2, h3, h4, h5⟩ => ⟨h1, h2, h3, h4, h5⟩, fun h => ⟨h.g, h.m, h.c, h.o, h.f⟩⟩
end Go.Proofs.Ytlipeplfjkgamaa
namespace Go.Proofs.Ytlipeplfjkgamaa
set_option maxRecDepth 100000
open Go.RowKit H
set_option linter.unusedVariables false
theorem rqsame {a b : Qu} {w : World} (ha : a.At w.heap.size w) (hb : b.At w.heap.size w) : Calls Try.prog 37 #[a.val, b.val] w fun e w' => e = .returned (.bool (decide (a.Eqv b))) ∧ Ext w w' := by
  have z0 : (a.g : Int) = (b.g : Int) ↔ a.g = b.g := by omega
  have lc1 := ha.lc
  have lc2 := hb.lc
  have lo1 := ha.lo
  have lo2 := hb.lo
  have mc1 := ha.mc
  have mc2 := hb.mc
  have mo1 := ha.mo
  have mo2 := hb.mo
  unfold maxLen at mc1 mc2 mo1 mo2
  refine enter Try.func37 rfl (by kernel_rfl) ?_
  refine J.seq ?_
  refine J.region ?_
  refine L.boxA (l := [_, _, _, _, _]) rfl rfl ?_
  intro b1 w1 hb1 hs1 hk1 he1
  refine L.boxA (l := [_, _, _, _, _]) rfl rfl ?_
  intro b2 w2 hb2 hs2 hk2 he2
  have hk12 := hk1.ext he2
  have he := he1.trans he2
  have z2 := he.le
  have hk12 : Blk w2 b1 54 a.vs.toArray := hk12
  have hk2 : Blk w2 b2 54 b.vs.toArray := hk2
  have ha2 := ha.ext he
  have hb2 := hb.ext he
  refine L.va rfl (X.assign (by conv => lhs; whnf)) ?_
  refine L.nil ?_
  refine J.seq ?_
  refine J.seq ?_
  refine J.region ?_
  refine L.va rfl (X.fieldAddr rfl Try.underlying54 rfl sz_50 (by decide)) ?_
  refine L.va rfl (X.load rfl sc_50 (by first | exact Ld.blk hk2 rfl | exact Ld.blk hk12 rfl)) ?_
  refine L.va rfl (X.fieldAddr rfl Try.underlying54 rfl sz_50 (by decide)) ?_
  refine L.va rfl (X.load rfl sc_50 (by first | exact Ld.blk hk2 rfl | exact Ld.blk hk12 rfl)) ?_
  refine L.va rfl (X.neq rfl rfl) ?_
  refine L.va rfl (X.move (by conv => lhs; whnf)) ?_
  refine L.caseNdec (k := 12) rfl (fun h1 => ?_) (fun h1 => ?_)
  · refine L.no rfl ?_
    refine L.no rfl ?_
    refine L.no rfl ?_
    refine L.no rfl ?_
    refine L.no rfl ?_
    refine L.va rfl (X.pickT rfl (by conv => lhs; whnf)) ?_
    refine L.va rfl (X.move (by conv => lhs; whnf)) ?_
    refine L.no rfl ?_
    refine L.no rfl ?_
    refine L.no rfl ?_
    refine L.no rfl ?_
    refine L.no rfl ?_
    refine L.no rfl ?_
    refine L.no rfl ?_
    refine L.va rfl (X.pickT rfl (by conv => lhs; whnf)) ?_
    refine L.va rfl (X.move (by conv => lhs; whnf)) ?_
    refine L.no rfl ?_
    refine L.no rfl ?_
    refine L.no rfl ?_
    refine L.no rfl ?_
    refine L.no rfl ?_
    refine L.no rfl ?_
    refine L.no rfl ?_
    refine L.va rfl (X.pickT rfl (by conv => lhs; whnf)) ?_
    refine L.va rfl (X.move (by conv => lhs; whnf)) ?_
    refine L.no rfl ?_
    refine L.no rfl ?_
    refine L.no rfl ?_
    refine L.no rfl ?_
    refine L.no rfl ?_
    refine L.no rfl ?_
    refine L.va rfl (X.pickT rfl (by conv => lhs; whnf)) ?_
    refine L.nil ?_
    refine J.iteT rfl ?_
    rw [show decide (a.Eqv b) = false from decide_eq_false (fun e => h1 (z0.2 e.g))]
    refine J.seq ?_
    refine J.region ?_
    refine L.va rfl (X.assign (by conv => lhs; whnf)) ?_
    refine L.nil ?_
    refine J.ret ?_
    refine thn_ret <| ?_
    refine fin1 ?_
    exact ⟨rfl, he⟩
  refine L.va rfl (X.fieldAddr rfl Try.underlying54 rfl sz_3 (by decide)) ?_
  refine L.va rfl (X.load rfl sc_3 (by first | exact Ld.blk hk2 rfl | exact Ld.blk hk12 rfl)) ?_
  refine L.va rfl (X.fieldAddr rfl Try.underlying54 rfl sz_3 (by decide)) ?_
  refine L.va rfl (X.load rfl sc_3 (by first | exact Ld.blk hk2 rfl | exact Ld.blk hk12 rfl)) ?_
  refine L.va rfl (X.neq rfl rfl) ?_
  refine L.va rfl (X.pickF rfl (by conv => lhs; whnf)) ?_
  refine L.va rfl (X.move (by conv => lhs; whnf)) ?_
  refine L.caseNdec (k := 19) rfl (fun h2 => ?_) (fun h2 => ?_)
  · refine L.no rfl ?_
    refine L.no rfl ?_
    refine L.no rfl ?_
    refine L.no rfl ?_
    refine L.no rfl ?_
    refine L.no rfl ?_
    refine L.no rfl ?_
    refine L.va rfl (X.pickT rfl (by conv => lhs; whnf)) ?_
    refine L.va rfl (X.move (by conv => lhs; whnf)) ?_
    refine L.no rfl ?_
    refine L.no rfl ?_
    refine L.no rfl ?_
    refine L.no rfl ?_
    refine L.no rfl ?_
    refine L.no rfl ?_
    refine L.no rfl ?_
    refine L.va rfl (X.pickT rfl (by conv => lhs; whnf)) ?_
    refine L.va rfl (X.move (by conv => lhs; whnf)) ?_
    refine L.no rfl ?_
    refine L.no rfl ?_
    refine L.no rfl ?_
    refine L.no rfl ?_
    refine L.no rfl ?_
    refine L.no rfl ?_
    refine L.va rfl (X.pickT rfl (by conv => lhs; whnf)) ?_
    refine L.nil ?_
    refine J.iteT rfl ?_
    rw [show decide (a.Eqv b) = false from decide_eq_false (fun e => h2 e.m)]
    refine J.seq ?_
    refine J.region ?_
    refine L.va rfl (X.assign (by conv => lhs; whnf)) ?_
    refine L.nil ?_
    refine J.ret ?_
    refine thn_ret <| ?_
    refine fin1 ?_
    exact ⟨rfl, he⟩
  refine L.va rfl (X.fieldAddr rfl Try.underlying54 rfl sz_52 (by decide)) ?_
  refine L.va rfl (X.load rfl sc_52 (by first | exact Ld.blk hk2 rfl | exact Ld.blk hk12 rfl)) ?_
  refine L.va rfl (X.len rfl Try.underlying52) ?_
  refine L.va rfl (X.fieldAddr rfl Try.underlying54 rfl sz_52 (by decide)) ?_
  refine L.va rfl (X.load rfl sc_52 (by first | exact Ld.blk hk2 rfl | exact Ld.blk hk12 rfl)) ?_
  refine L.va rfl (X.len rfl Try.underlying52) ?_
  refine L.va rfl (X.neq rfl rfl) ?_
  refine L.va rfl (X.pickF rfl (by conv => lhs; whnf)) ?_
  refine L.va rfl (X.move (by conv => lhs; whnf)) ?_
  refine L.caseNdec (k := 28) rfl (fun h3 => ?_) (fun h3 => ?_)
  · refine L.no rfl ?_
    refine L.no rfl ?_
    refine L.no rfl ?_
    refine L.no rfl ?_
    refine L.no rfl ?_
    refine L.no rfl ?_
    refine L.no rfl ?_
    refine L.va rfl (X.pickT rfl (by conv => lhs; whnf)) ?_
    refine L.va rfl (X.move (by conv => lhs; whnf)) ?_
    refine L.no rfl ?_
    refine L.no rfl ?_
    refine L.no rfl ?_
    refine L.no rfl ?_
    refine L.no rfl ?_
    refine L.no rfl ?_
    refine L.va rfl (X.pickT rfl (by conv => lhs; whnf)) ?_
    refine L.nil ?_
    refine J.iteT rfl ?_
    rw [show decide (a.Eqv b) = false from decide_eq_false (fun e => h3 (by rw [← lc1, ← lc2, e.c]))]
    refine J.seq ?_
    refine J.region ?_
    refine L.va rfl (X.assign (by conv => lhs; whnf)) ?_
    refine L.nil ?_
    refine J.ret ?_
    refine thn_ret <| ?_
    refine fin1 ?_
    exact ⟨rfl, he⟩
  refine L.va rfl (X.fieldAddr rfl Try.underlying54 rfl sz_22 (by decide)) ?_
  refine L.va rfl (X.load rfl sc_22 (by first | exact Ld.blk hk2 rfl | exact Ld.blk hk12 rfl)) ?_
  refine L.va rfl (X.len rfl Try.underlying22) ?_
  refine L.va rfl (X.fieldAddr rfl Try.underlying54 rfl sz_22 (by decide)) ?_
  refine L.va rfl (X.load rfl sc_22 (by first | exact Ld.blk hk2 rfl | exact Ld.blk hk12 rfl)) ?_
  refine L.va rfl (X.len rfl Try.underlying22) ?_
  refine L.va rfl (X.neq rfl rfl) ?_
  refine L.va rfl (X.pickF rfl (by conv => lhs; whnf)) ?_
  refine L.va rfl (X.move (by conv => lhs; whnf)) ?_
  refine L.caseNdec (k := 37) rfl (fun h4 => ?_) (fun h4 => ?_)
  · refine L.no rfl ?_
    refine L.no rfl ?_
    refine L.no rfl ?_
    refine L.no rfl ?_
    refine L.no rfl ?_
    refine L.no rfl ?_
    refine L.va rfl (X.pickT rfl (by conv => lhs; whnf)) ?_
    refine L.nil ?_
    refine J.iteT rfl ?_
    rw [show decide (a.Eqv b) = false from decide_eq_false (fun e => h4 (by rw [← lo1, ← lo2, e.o]))]
    refine J.seq ?_
    refine J.region ?_
    refine L.va rfl (X.assign (by conv => lhs; whnf)) ?_
    refine L.nil ?_
    refine J.ret ?_
    refine thn_ret <| ?_
    refine fin1 ?_
    exact ⟨rfl, he⟩
  refine L.va rfl (X.fieldAddr rfl Try.underlying54 rfl sz_51 (by decide)) ?_
  refine L.va rfl (X.load rfl sc_51 (by first | exact Ld.blk hk2 rfl | exact Ld.blk hk12 rfl)) ?_
  refine L.va rfl (X.fieldAddr rfl Try.underlying54 rfl sz_51 (by decide)) ?_
  refine L.va rfl (X.load rfl sc_51 (by first | exact Ld.blk hk2 rfl | exact Ld.blk hk12 rfl)) ?_
  refine L.call rfl en_101 rfl (rsame28 (ha2.f.more z2) (hb2.f.more z2)) ?_
  rintro e w3 ⟨rfl, he3⟩
  refine ⟨_, rfl, ?_⟩
  have he03 := he.trans he3
  have z3 := he03.le
  have ha3 := ha2.ext he3
  have hb3 := hb2.ext he3
  replace hk2 := hk2.ext he3
  replace hk12 := hk12.ext he3
  refine L.va rfl (X.not rfl) ?_
  refine L.va rfl (X.pickF rfl (by conv => lhs; whnf)) ?_
  refine L.nil ?_
  by_cases h5 : a.f.l.map Fi.key = b.f.l.map Fi.key
  · rw [decide_eq_true h5]
    refine J.iteF rfl ?_
    refine J.skip ?_
    refine J.seq ?_
    refine J.seq ?_
    refine J.region ?_
    refine L.va rfl (X.assign (by conv => lhs; whnf)) ?_
    refine L.nil ?_
    refine J.block ?_
    refine J.loop (X := Nat) [4, 5, 45, 46, 47, 48, 49, 50, 51, 52, 53, 54, 55, 56, 57, 58, 59, 60, 61, 62] (fun i => [(5, .int .i64 (i : Int))]) (fun i w' => i ≤ a.nc ∧ (∀ j, j < i → a.c.getD j c0 = b.c.getD j c0) ∧ Ext w3 w') (fun i => a.nc - i) (0) (At1 (by first | rfl | exact at_int rfl (by omega) | exact at_slice rfl (by omega) | exact at_int rfl (by simp))) ?_ ?_
    · exact ⟨Nat.zero_le _, fun j hj => absurd hj (by omega), Ext.refl _⟩
    · rintro i g w4 ⟨hi, hP, he4⟩
      have hk4 := hk2.ext he4
      have hk14 := hk12.ext he4
      have k1 := ha3.c.ext he4
      have k2 := hb3.c.ext he4
      refine J.seq ?_
      refine J.seq ?_
      refine J.region ?_
      refine L.va rfl (X.move (by conv => lhs; whnf)) ?_
      refine L.va rfl (X.fieldAddr rfl Try.underlying54 rfl sz_52 (by decide)) ?_
      refine L.va rfl (X.load rfl sc_52 (by first | exact Ld.blk hk4 rfl | exact Ld.blk hk14 rfl)) ?_
      refine L.va rfl (X.len rfl Try.underlying52) ?_
      refine L.va rfl (X.lss rfl rfl) ?_
      refine L.nil ?_
      refine J.dec rfl (fun hlt => ?_) (fun hlt => ?_)
      · have hi1 : i < a.c.length := by omega
        have hi2 : i < b.c.length := by omega
        have hA := k1.some_ (by omega)
        have hB := k2.some_ (by omega)
        refine J.skip ?_
        refine J.seq ?_
        refine J.block ?_
        refine J.seq ?_
        refine J.quiet mixed (by kernel_rfl) ?_
        refine Qt.va rfl (fun w' hw => X.fieldAddr rfl Try.underlying54 rfl sz_52 (by decide)) ?_
        refine Qt.va rfl (fun w' hw => X.load rfl sc_52 (by first | exact Ld.blk (hk4.ext hw) rfl | exact Ld.blk (hk14.ext hw) rfl | exact hA | exact hB)) ?_
        refine Qt.va rfl (fun w' hw => X.move (by conv => lhs; whnf)) ?_
        refine Qt.va rfl (fun w' hw => (by first | exact X.indexAddrn rfl rfl Try.underlying52 sz_130 (by first | exact Option.some_ne_none _ | exact hA | exact hB) (by omega) | exact X.indexAddr rfl rfl Try.underlying52 sz_130 (by first | exact Option.some_ne_none _ | exact hA | exact hB) (by omega))) ?_
        refine Qt.va rfl (fun w' hw => X.loadRow (cs := cV (a.c.getD i c0)) rfl (k1.ext hw) (fun r u hu => flat_row cV_len (gtC hi1) r u hu) (Nat.zero_lt_succ _) Try.underlying130 rfl (by kernel_rfl)) ?_
        refine Qt.va rfl (fun w' hw => X.fieldAddr rfl Try.underlying54 rfl sz_52 (by decide)) ?_
        refine Qt.va rfl (fun w' hw => X.load rfl sc_52 (by first | exact Ld.blk (hk4.ext hw) rfl | exact Ld.blk (hk14.ext hw) rfl | exact hA | exact hB)) ?_
        refine Qt.va rfl (fun w' hw => X.move (by conv => lhs; whnf)) ?_
        refine Qt.va rfl (fun w' hw => (by first | exact X.indexAddrn rfl rfl Try.underlying52 sz_130 (by first | exact Option.some_ne_none _ | exact hA | exact hB) (by omega) | exact X.indexAddr rfl rfl Try.underlying52 sz_130 (by first | exact Option.some_ne_none _ | exact hA | exact hB) (by omega))) ?_
        refine Qt.va rfl (fun w' hw => X.loadRow (cs := cV (b.c.getD i c0)) rfl (k2.ext hw) (fun r u hu => flat_row cV_len (gtC hi2) r u hu) (Nat.zero_lt_succ _) Try.underlying130 rfl (by kernel_rfl)) ?_
        refine Qt.va rfl (fun w' hw => X.neqTwo two_col rfl rfl sc_3 sc_3 (eq_int Try.underlying3) (eq_int Try.underlying3)) ?_
        refine Qt.nil (fun w5 hq => ?_)
        replace hk4 := hk4.ext hq
        replace hk14 := hk14.ext hq
        by_cases hd : a.c.getD i c0 = b.c.getD i c0
        · rw [pneF hd]
          refine J.iteF rfl ?_
          refine J.skip ?_
          refine J.region ?_
          refine L.va rfl (X.move (by conv => lhs; whnf)) ?_
          refine L.va rfl (X.add rfl rfl (by omega)) ?_
          refine L.va rfl (X.assign (by conv => lhs; whnf)) ?_
          refine L.nil ?_
          refine ⟨i + 1, At1 (by first | rfl | exact at_int rfl (by omega) | exact at_slice rfl (by omega) | exact at_int rfl (by simp)), (by (iterate 19 refine Agr.lk rfl ?_); exact Agr.lk rfl (Agr.hav rfl Agr.rfl')), ?_⟩
          refine ⟨⟨by omega, fun j hj => ?_, he4.trans hq⟩, by omega⟩
          rcases Nat.lt_or_ge j i with h | h
          · exact hP j h
          · obtain rfl : j = i := by omega
            exact hd
        · rw [show decide (a.Eqv b) = false from decide_eq_false (fun e => hd (by rw [e.c]))]
          rw [pneT hd]
          refine J.iteT rfl ?_
          refine J.seq ?_
          refine J.region ?_
          refine L.va rfl (X.assign (by conv => lhs; whnf)) ?_
          refine L.nil ?_
          refine J.ret ?_
          refine inB_ret <|  thn_ret <|  thn_ret <|  inB_ret <|  thn_ret <| ?_
          refine fin1 ?_
          exact ⟨rfl, (he03.trans he4).trans hq⟩
      · have hce : a.c = b.c := lst_eq c0 (by omega) (fun j hj => hP j (by omega))
        have he04 := he03.trans he4
        refine J.exit ?_
        refine J.seq ?_
        refine J.seq ?_
        refine J.region ?_
        refine L.va rfl (X.assign (by conv => lhs; whnf)) ?_
        refine L.nil ?_
        refine J.block ?_
        refine J.loop (X := Nat) [4, 6, 63, 64, 65, 66, 67, 68, 69, 70, 71, 72, 73, 74, 75, 76, 77, 78, 79, 80] (fun i => [(6, .int .i64 (i : Int))]) (fun i w' => i ≤ a.no ∧ (∀ j, j < i → a.o.getD j o0 = b.o.getD j o0) ∧ Ext w4 w') (fun i => a.no - i) (0) (At1 (by first | rfl | exact at_int rfl (by omega) | exact at_slice rfl (by omega) | exact at_int rfl (by simp))) ?_ ?_
        · exact ⟨Nat.zero_le _, fun j hj => absurd hj (by omega), Ext.refl _⟩
        · rintro j g w5 ⟨hj, hQ, he5⟩
          have hk5 := hk4.ext he5
          have hk15 := hk14.ext he5
          have k3 := (ha3.o.ext he4).ext he5
          have k4 := (hb3.o.ext he4).ext he5
          refine J.seq ?_
          refine J.seq ?_
          refine J.region ?_
          refine L.va rfl (X.move (by conv => lhs; whnf)) ?_
          refine L.va rfl (X.fieldAddr rfl Try.underlying54 rfl sz_22 (by decide)) ?_
          refine L.va rfl (X.load rfl sc_22 (by first | exact Ld.blk hk5 rfl | exact Ld.blk hk15 rfl)) ?_
          refine L.va rfl (X.len rfl Try.underlying22) ?_
          refine L.va rfl (X.lss rfl rfl) ?_
          refine L.nil ?_
          refine J.dec rfl (fun hlt2 => ?_) (fun hlt2 => ?_)
          · have hi1 : j < a.o.length := by omega
            have hi2 : j < b.o.length := by omega
            have hA := k3.some_ (by omega)
            have hB := k4.some_ (by omega)
            refine J.skip ?_
            refine J.seq ?_
            refine J.block ?_
            refine J.seq ?_
            refine J.quiet mixed (by kernel_rfl) ?_
            refine Qt.va rfl (fun w' hw => X.fieldAddr rfl Try.underlying54 rfl sz_22 (by decide)) ?_
            refine Qt.va rfl (fun w' hw => X.load rfl sc_22 (by first | exact Ld.blk (hk5.ext hw) rfl | exact Ld.blk (hk15.ext hw) rfl | exact hA | exact hB)) ?_
            refine Qt.va rfl (fun w' hw => X.move (by conv => lhs; whnf)) ?_
            refine Qt.va rfl (fun w' hw => (by first | exact X.indexAddrn rfl rfl Try.underlying22 sz_98 (by first | exact Option.some_ne_none _ | exact hA | exact hB) (by omega) | exact X.indexAddr rfl rfl Try.underlying22 sz_98 (by first | exact Option.some_ne_none _ | exact hA | exact hB) (by omega))) ?_
            refine Qt.va rfl (fun w' hw => X.loadRow (cs := oV (a.o.getD j o0)) rfl (k3.ext hw) (fun r u hu => flat_row oV_len (gtO hi1) r u hu) (Nat.zero_lt_succ _) Try.underlying98 rfl (by kernel_rfl)) ?_
            refine Qt.va rfl (fun w' hw => X.fieldAddr rfl Try.underlying54 rfl sz_22 (by decide)) ?_
            refine Qt.va rfl (fun w' hw => X.load rfl sc_22 (by first | exact Ld.blk (hk5.ext hw) rfl | exact Ld.blk (hk15.ext hw) rfl | exact hA | exact hB)) ?_
            refine Qt.va rfl (fun w' hw => X.move (by conv => lhs; whnf)) ?_
            refine Qt.va rfl (fun w' hw => (by first | exact X.indexAddrn rfl rfl Try.underlying22 sz_98 (by first | exact Option.some_ne_none _ | exact hA | exact hB) (by omega) | exact X.indexAddr rfl rfl Try.underlying22 sz_98 (by first | exact Option.some_ne_none _ | exact hA | exact hB) (by omega))) ?_
            refine Qt.va rfl (fun w' hw => X.loadRow (cs := oV (b.o.getD j o0)) rfl (k4.ext hw) (fun r u hu => flat_row oV_len (gtO hi2) r u hu) (Nat.zero_lt_succ _) Try.underlying98 rfl (by kernel_rfl)) ?_
            refine Qt.va rfl (fun w' hw => X.neqTwo two_srt rfl rfl sc_3 sc_4 (eq_int Try.underlying3) (eq_boo Try.underlying4)) ?_
            refine Qt.nil (fun w6 hq => ?_)
            replace hk5 := hk5.ext hq
            replace hk15 := hk15.ext hq
            by_cases hd : a.o.getD j o0 = b.o.getD j o0
            · rw [pneF hd]
              refine J.iteF rfl ?_
              refine J.skip ?_
              refine J.region ?_
              refine L.va rfl (X.move (by conv => lhs; whnf)) ?_
              refine L.va rfl (X.add rfl rfl (by omega)) ?_
              refine L.va rfl (X.assign (by conv => lhs; whnf)) ?_
              refine L.nil ?_
              refine ⟨j + 1, At1 (by first | rfl | exact at_int rfl (by omega) | exact at_slice rfl (by omega) | exact at_int rfl (by simp)), (by (iterate 19 refine Agr.lk rfl ?_); exact Agr.lk rfl (Agr.hav rfl Agr.rfl')), ?_⟩
              refine ⟨⟨by omega, fun q hq' => ?_, he5.trans hq⟩, by omega⟩
              rcases Nat.lt_or_ge q j with h | h
              · exact hQ q h
              · obtain rfl : q = j := by omega
                exact hd
            · rw [show decide (a.Eqv b) = false from decide_eq_false (fun e => hd (by rw [e.o]))]
              rw [pneT hd]
              refine J.iteT rfl ?_
              refine J.seq ?_
              refine J.region ?_
              refine L.va rfl (X.assign (by conv => lhs; whnf)) ?_
              refine L.nil ?_
              refine J.ret ?_
              refine inB_ret <|  thn_ret <|  thn_ret <|  inB_ret <|  thn_ret <| ?_
              refine fin1 ?_
              exact ⟨rfl, (he04.trans he5).trans hq⟩
          · have hoe : a.o = b.o := lst_eq o0 (by omega) (fun q hq' => hQ q (by omega))
            rw [show decide (a.Eqv b) = true from decide_eq_true ⟨by omega, by omega, hce, hoe, h5⟩]
            refine J.exit ?_
            refine J.seq ?_
            refine J.region ?_
            refine L.va rfl (X.assign (by conv => lhs; whnf)) ?_
            refine L.nil ?_
            refine J.ret ?_
            refine fin1 ?_
            exact ⟨rfl, he04.trans he5⟩
  · rw [decide_eq_false h5]
    refine J.iteT rfl ?_
    rw [show decide (a.Eqv b) = false from decide_eq_false (fun e => h5 e.f)]
    refine J.seq ?_
    refine J.region ?_
    refine L.va rfl (X.assign (by conv => lhs; whnf)) ?_
    refine L.nil ?_
    refine J.ret ?_
    refine thn_ret <| ?_
    refine fin1 ?_
    exact ⟨rfl, he03⟩
end Go.Proofs.Ytlipeplfjkgamaa
namespace Go.Proofs.Ytlipeplfjkgamaa
set_option linter.unusedVariables false
abbrev hasC (l : List (Int × Bool)) (c : Int) : Bool := l.any fun y => decide (y.1 = c)
def ddS (acc : List (Int × Bool)) (x : Int × Bool) : List (Int × Bool) := if hasC acc x.1 then acc else acc ++ [x]
def dd (l : List (Int × Bool)) : List (Int × Bool) := l.foldl ddS []
theorem dd_snoc (l : List (Int × Bool)) (x : Int × Bool) : dd (l ++ [x]) = ddS (dd l) x := by unfold dd; rw [List.foldl_append]; rfl
theorem dd_take {l : List (Int × Bool)} {i : Nat} (h : i < l.length) : dd (l.take (i + 1)) = ddS (dd (l.take i)) (l.getD i o0) := by
  rw [← dd_snoc]
  congr 1
  rw [List.take_add_one, gtO h]
  rfl
theorem hasC_iff {l : List (Int × Bool)} {c : Int} : hasC l c = true ↔ ∃ y ∈ l, y.1 = c := by simp [hasC, List.any_eq_true]
theorem hasC_snoc (l : List (Int × Bool)) (x : Int × Bool) (c : Int) : hasC (l ++ [x]) c = (hasC l c || decide (x.1 = c)) := by simp [hasC, List.any_append]
theorem hasC_ddS (l : List (Int × Bool)) (x : Int × Bool) (c : Int) : hasC (ddS l x) c = (hasC l c || decide (x.1 = c)) := by
  unfold ddS
  split
  · rename_i h
    by_cases e : x.1 = c
    · rw [e] at h
      simp [h, e]
    · simp [e]
  · exact hasC_snoc l x c
theorem hasC_dd : ∀ (l a : List (Int × Bool)) (c : Int), hasC (l.foldl ddS a) c = (hasC a c || hasC l c)
  | [], a, c => by simp [hasC]
  | x :: t, a, c => by
    rw [List.foldl_cons, hasC_dd t (ddS a x) c, hasC_ddS]
    show ((hasC a c || decide (x.1 = c)) || hasC t c) = (hasC a c || (decide (x.1 = c) || hasC t c))
    rw [Bool.or_assoc]
theorem hasC_dd0 (l : List (Int × Bool)) (c : Int) : hasC (dd l) c = hasC l c := by
  unfold dd
  rw [hasC_dd]
  simp [hasC]
theorem dd_mem : ∀ (l a : List (Int × Bool)) {x : Int × Bool}, x ∈ l.foldl ddS a → x ∈ a ∨ x ∈ l
  | [], a, x, h => .inl h
  | y :: t, a, x, h => by
    rcases dd_mem t (ddS a y) h with h | h
    · unfold ddS at h
      split at h
      · exact .inl h
      · rcases List.mem_append.1 h with h | h
        · exact .inl h
        · rw [List.mem_singleton] at h; rw [h]; exact .inr (List.mem_cons_self ..)
    · exact .inr (List.mem_cons_of_mem _ h)
theorem dd_len : ∀ (l a : List (Int × Bool)), (l.foldl ddS a).length ≤ a.length + l.length
  | [], a => Nat.le_refl _
  | y :: t, a => by
    have h1 := dd_len t (ddS a y)
    have h2 : (ddS a y).length ≤ a.length + 1 := by unfold ddS; split <;> simp
    rw [List.foldl_cons, List.length_cons]
    omega
def Dis (l : List (Int × Bool)) : Prop := (l.map Prod.fst).Nodup
theorem dis_ddS {a : List (Int × Bool)} {x : Int × Bool} (h : Dis a) : Dis (ddS a x) := by
  unfold ddS
  split
  · exact h
  · rename_i hn
    unfold Dis at *
    rw [List.map_append, List.nodup_append]
    refine ⟨h, by simp, ?_⟩
    intro c hc d hd e
    rw [List.map_singleton, List.mem_singleton] at hd
    subst hd
    subst e
    obtain ⟨y, hy, e⟩ := List.mem_map.1 hc
    exact hn (hasC_iff.2 ⟨y, hy, e⟩)
theorem dis_dd : ∀ (l a : List (Int × Bool)), Dis a → Dis (l.foldl ddS a)
  | [], a, h => h
  | x :: t, a, h => dis_dd t _ (dis_ddS h)
theorem dd_id : ∀ (l a : List (Int × Bool)), Dis (a ++ l) → l.foldl ddS a = a ++ l
  | [], a, _ => by simp
  | x :: t, a, h => by
    have hx : hasC a x.1 = false := by
      cases hb : hasC a x.1 with
      | false => rfl
      | true =>
        exfalso
        obtain ⟨y, hy, e⟩ := hasC_iff.1 hb
        unfold Dis at h
        rw [List.map_append, List.nodup_append] at h
        exact h.2.2 y.1 (List.mem_map_of_mem hy) x.1 (List.mem_map_of_mem (List.mem_cons_self ..)) e
    rw [List.foldl_cons, show ddS a x = a ++ [x] by unfold ddS; rw [hx]; rfl, dd_id t (a ++ [x]) (by rw [List.append_assoc]; exact h)]
    simp
theorem dd_dd (l : List (Int × Bool)) : dd (dd l) = dd l := by
  have h : Dis (dd l) := dis_dd l [] (by simp [Dis])
  have := dd_id (dd l) [] (by simpa using h)
  rw [List.nil_append] at this
  exact this
theorem hasC_take {l : List (Int × Bool)} {i : Nat} (hi : i ≤ l.length) (c : Int) : hasC (l.take i) c = true ↔ ∃ k, k < i ∧ (l.getD k o0).1 = c := by
  rw [hasC_iff]
  constructor
  · rintro ⟨y, hy, e⟩
    obtain ⟨k, hk, e2⟩ := List.getElem_of_mem hy
    rw [List.length_take] at hk
    rw [List.getElem_take] at e2
    refine ⟨k, by omega, ?_⟩
    rw [List.getD, List.getElem?_eq_getElem (by omega), Option.getD_some, e2]
    exact e
  · rintro ⟨k, hk, e⟩
    refine ⟨l.getD k o0, ?_, e⟩
    rw [List.mem_iff_getElem?]
    refine ⟨k, ?_⟩
    rw [List.getElem?_take, if_pos hk, gtO (by omega)]
end Go.Proofs.Ytlipeplfjkgamaa
namespace Go.Proofs.Ytlipeplfjkgamaa
set_option maxRecDepth 100000
open Go.RowKit H
set_option linter.unusedVariables false
abbrev QuT := (Nm .u32) × (List ((Nm .i64) × (List (Nm .i64)))) × (List ((Nm .i64) × (Nm .i64))) × (List ((Nm .i64) × (Bool))) × (Nm .i64)
theorem fis_of {w : World} {B n c : Nat} {A : Option Addr} {xs : List ((Nm .i64) × (List (Nm .i64)))} (h : LiesSlice w B A n xs) (hm : n ≤ maxLen) : ∃ l : List Fi, (Fis.mk A n c l).At B w := by
  obtain ⟨l, h1, h2, h3⟩ := h.rows (X := Fi) (f := Fi.vs) (g := fun r => r.At B w) (fun _ => rfl) (fun us a hl => by
    obtain ⟨u1, u2, rfl, k1, ⟨A, n, c, rfl, hn, hc, _, hl⟩⟩ := hl
    exact ⟨⟨a.1.z, A, n, c, zsOf a.2⟩, by rw [show u1 = [.int .i64 a.1.z] from k1]; rfl, hl.reads, Nat.le_trans hn hc⟩)
  exact ⟨l, h2, h3, h1, hm⟩
theorem cols_of {w : World} {B n : Nat} {A : Option Addr} {xs : List ((Nm .i64) × (Nm .i64))} (h : LiesSlice w B A n xs) : ∃ l : List (Int × Int), l.length = n ∧ Reads w B 2 A n (l.flatMap cV) := by
  obtain ⟨l, h1, h2, h3⟩ := h.rows (X := Int × Int) (f := cV) (g := fun r => True) (fun _ => rfl) (fun us a hl => by
    obtain ⟨u1, u2, rfl, k1, k2⟩ := hl
    exact ⟨(a.1.z, a.2.z), by rw [show u1 = [.int .i64 a.1.z] from k1, show u2 = [.int .i64 a.2.z] from k2]; rfl, trivial⟩)
  exact ⟨l, h1, h2⟩
theorem ords_of {w : World} {B n : Nat} {A : Option Addr} {xs : List ((Nm .i64) × (Bool))} (h : LiesSlice w B A n xs) : ∃ l : List (Int × Bool), l.length = n ∧ Reads w B 2 A n (l.flatMap oV) := by
  obtain ⟨l, h1, h2, h3⟩ := h.rows (X := Int × Bool) (f := oV) (g := fun r => True) (fun _ => rfl) (fun us a hl => by
    obtain ⟨u1, u2, rfl, k1, k2⟩ := hl
    exact ⟨(a.1.z, a.2), by rw [show u1 = [.int .i64 a.1.z] from k1, show u2 = [.bool a.2] from k2]; rfl, trivial⟩)
  exact ⟨l, h1, h2⟩
theorem qu_of {w : World} {B : Nat} {us : List Value} {x : QuT} (h : Lay.lies w B us x) : ∃ q : Qu, us = q.vs ∧ q.At B w := by
  obtain ⟨u1, u2, rfl, k1, ⟨v1, v2, rfl, ⟨A, n, c, rfl, hn, hc, _, hl⟩, ⟨x1, x2, rfl, ⟨A', n', c', rfl, hn', hc', _, hl'⟩, ⟨y1, y2, rfl, ⟨A'', n'', c'', rfl, hn'', hc'', _, hl''⟩, k5⟩⟩⟩⟩ := h
  obtain ⟨l1, h1⟩ := fis_of (c := c) hl (Nat.le_trans hn hc)
  obtain ⟨l2, h2, h3⟩ := cols_of hl'
  obtain ⟨l4, h4, h5⟩ := ords_of hl''
  obtain ⟨m, hm⟩ := Int.eq_ofNat_of_zero_le x.1.u32.1
  have hm32 : m < 4294967296 := by have := x.1.u32.2; omega
  refine ⟨⟨m, ⟨A, n, c, l1⟩, A', n', c', l2, A'', n'', c'', l4, x.2.2.2.2.z⟩, ?_, hm32, h1, h3, h2, Nat.le_trans hn' hc', h5, h4, Nat.le_trans hn'' hc''⟩
  rw [show u1 = [.int .u32 x.1.z] from k1, show y2 = [.int .i64 x.2.2.2.2.z] from k5, hm]
  rfl
end Go.Proofs.Ytlipeplfjkgamaa
namespace Go.Proofs.Ytlipeplfjkgamaa
set_option maxRecDepth 100000
open Go.RowKit H
open Nrm (nrm)
set_option linter.unusedVariables false
abbrev sC (b1 : Nat) : Sch := ⟨some ⟨b1, 0, none⟩, 1, 1, none, 0, 0, none, 0, 0, none, 0, 0, [(aA, 4)], [], [], []⟩
theorem sC_code (b1 : Nat) : (sC b1).code = 0 := by
  show chk 1 0 0 0 [(aA, 4)] [] [] [] = 0
  decide +kernel
theorem sC_here (b1 : Nat) {w : World} (h1 : Blk w b1 128 (dimsV [(aA, 4)]).toArray) : (sC b1).Here w :=
  ⟨blk_readsN h1 h1.lt rfl, Reads.none_, Reads.none_, Reads.none_, fun i => ⟨by simp, by simp⟩, (show 1 ≤ 100 ∧ 0 ≤ 100 ∧ 0 ≤ 100 ∧ 0 ≤ 100 by decide)⟩
theorem fcode_ok {s : Sch} {f : Fis} (hc : s.code = 0) (hn : f.n ≤ 20) (h : ∀ x, x ∈ f.l → fE s x = 0) : fcode s f = 0 := by
  unfold fcode
  rw [if_neg (fun k => k hc), if_neg (by omega)]
  exact fst_0 (d := fi0) fun j hj => h _ (memF hj)
end Go.Proofs.Ytlipeplfjkgamaa
namespace Go.Proofs.Ytlipeplfjkgamaa
set_option maxRecDepth 100000
open Go.RowKit H
open Nrm (nrm)
set_option linter.unusedVariables false
theorem cloneC (A : Option Addr) (n c : Nat) (l : List (Int × Int)) (w : World) (hr : Reads w w.heap.size 2 A n (l.flatMap cV)) (hn : n ≤ 1000) (hl : l.length = n) : Calls Try.prog 86 #[.slice A n c] w fun e w' => ∃ A' c', e = .returned (.slice A' n c') ∧ w'.ownsRow w.heap.size 130 2 (.slice A' n c') n (l.flatMap cV) ∧ Ext w w' := by
  refine enter Try.func86 rfl (by kernel_rfl) ?_
  refine J.seq ?_
  refine J.region ?_
  refine L.va rfl (X.assign (by conv => lhs; whnf)) ?_
  refine L.nil ?_
  refine J.seq ?_
  refine J.seq ?_
  refine J.region ?_
  refine L.va rfl (X.move (by conv => lhs; whnf)) ?_
  refine L.va rfl (X.eqlNil rfl rfl Try.underlying52) ?_
  refine L.nil ?_
  rcases A with _ | a
  · obtain rfl : n = 0 := by
      apply Decidable.byContradiction
      intro h
      exact hr.some_ (by omega) rfl
    obtain rfl : l = [] := List.length_eq_zero_iff.1 hl
    refine J.iteT rfl ?_
    refine J.seq ?_
    refine J.region ?_
    refine L.va rfl (X.assign (by conv => lhs; whnf)) ?_
    refine L.nil ?_
    refine J.ret ?_
    refine thn_ret <| ?_
    refine fin1 ?_
    exact ⟨none, 0, rfl, own_nil _ _ _ _, Ext.refl _⟩
  · refine J.iteF rfl ?_
    refine J.skip ?_
    refine J.seq ?_
    refine J.region ?_
    refine L.bsliceR (ls := []) rfl Evs.nil rfl rfl rfl rfl Try.underlying52 sz_130 zr_130 (by decide) ?_
    intro b1 w1 hb1 hs1 hk1 he1
    have ho1 : w1.ownsRow w.heap.size 130 2 (.slice (some ⟨b1, 0, none⟩) 0 0) 0 (([] : List (Int × Int)).flatMap cV) := blk_own (size := 2) (q := 0) (c := 0) (l := []) hk1 (by omega) (Nat.le_refl _) (Nat.zero_le _) rfl
    have z1 := he1.le
    have hones : ((l.flatMap cV).all (·.oneCell')) = true := by
      rw [List.all_eq_true]
      intro v hv
      obtain ⟨x, _, hx⟩ := List.mem_flatMap.1 hv
      simp only [cV, List.mem_cons, List.not_mem_nil, or_false] at hx
      rcases hx with rfl | rfl <;> rfl
    refine L.va rfl (X.move (by conv => lhs; whnf)) ?_
    refine L.appendV (q := n) (ys := l.flatMap cV) rfl rfl rfl Try.underlying52 el_130 (ho1) (hr.ext he1) (by first | rfl | exact strs_ones _ | assumption) (by omega) (by simp) (by unfold maxLen; omega) (by omega) ?_
    intro A2 c2 w2 ho2 hg2 hb2 hor2
    refine L.va rfl (X.assign (by conv => lhs; whnf)) ?_
    refine L.nil ?_
    refine J.ret ?_
    refine fin1 ?_
    exact ⟨A2, c2, rfl, ho2, he1.grw hg2 (by intro g hg; injection hg with hg; subst hg; show w.heap.size ≤ b1; omega)⟩
theorem norm1 {x y : Int × Bool} {g : Nat} {w : World} (hg : Blk w g 98 (oV y).toArray) : Calls Try.prog 89 #[.agg (oV x).toArray, .pointer (some ⟨g, 0, none⟩)] w fun e w' => e = .returned (.bool (decide (x.1 = y.1))) ∧ Ext w w' := by
  refine enter Try.func89 rfl (by kernel_rfl) ?_
  refine J.seq ?_
  refine J.region ?_
  refine L.boxA (l := [_, _]) rfl rfl ?_
  intro b1 w1 hb1 hs1 hk1 he1
  have hg1 := hg.ext he1
  have hk1 : Blk w1 b1 98 (oV x).toArray := hk1
  refine L.va rfl (X.assign (by conv => lhs; whnf)) ?_
  refine L.nil ?_
  refine J.seq ?_
  refine J.region ?_
  refine L.va rfl (X.fieldAddr rfl Try.underlying98 rfl sz_3 (by decide)) ?_
  refine L.va rfl (X.load rfl sc_3 (by first | exact Ld.blk hk1 rfl | exact Ld.blk hg1 rfl)) ?_
  refine L.va rfl (X.fieldAddr rfl Try.underlying98 rfl sz_3 (by decide)) ?_
  refine L.va rfl (X.load rfl sc_3 (by first | exact Ld.blk hk1 rfl | exact Ld.blk hg1 rfl)) ?_
  refine L.va rfl (X.eql rfl rfl) ?_
  refine L.va rfl (X.assign (by conv => lhs; whnf)) ?_
  refine L.nil ?_
  refine J.ret ?_
  refine fin1 ?_
  exact ⟨rfl, he1⟩
theorem idxF {A : Option Addr} {n c : Nat} {l : List (Int × Bool)} {y : Int × Bool} {g : Nat} {w : World} (hr : Reads w w.heap.size 2 A n (l.flatMap oV)) (hl : l.length = n) (hn : n ≤ maxLen) (hg : Blk w g 98 (oV y).toArray) : Calls Try.prog 176 #[.slice A n c, .func (.func 89) #[] #[.pointer (some ⟨g, 0, none⟩)]] w fun e w' => (∃ z : Int, e = .returned (.int .i64 z) ∧ (0 ≤ z ↔ hasC l y.1 = true)) ∧ Ext w w' := by
  unfold maxLen at hn
  refine enter Try.func176 rfl (by kernel_rfl) ?_
  refine J.seq ?_
  refine J.region ?_
  refine L.va rfl (X.assign (by conv => lhs; whnf)) ?_
  refine L.nil ?_
  refine J.seq ?_
  refine J.seq ?_
  refine J.region ?_
  refine L.va rfl (X.move (by conv => lhs; whnf)) ?_
  refine L.va rfl (X.len rfl Try.underlying22) ?_
  refine L.va rfl (X.move (by conv => lhs; whnf)) ?_
  refine L.nil ?_
  refine J.block ?_
  refine J.loop (X := Nat) [4, 5, 8, 9, 10, 11, 12, 13, 14, 15, 16, 17, 18] (fun i => [(8, .int .i64 (i : Int))]) (fun i w' => i ≤ n ∧ hasC (l.take i) y.1 = false ∧ Ext w w') (fun i => n - i) (0) (At1 (by first | rfl | exact at_int rfl (by omega) | exact at_slice rfl (by omega) | exact at_int rfl (by simp))) ?_ ?_
  · exact ⟨Nat.zero_le _, rfl, Ext.refl _⟩
  · rintro i g w3 ⟨hi, hP, he3⟩
    have z3 := he3.le
    have hr3 := hr.ext he3
    have hg3 := hg.ext he3
    refine J.seq ?_
    refine J.region ?_
    refine L.va rfl (X.lss rfl rfl) ?_
    refine L.nil ?_
    refine J.seq ?_
    refine J.dec rfl (fun hlt => ?_) (fun hlt => ?_)
    · have hin : i < n := by omega
      have hA := hr3.some_ (by omega)
      obtain ⟨x, hx⟩ : ∃ x, x = l.getD i o0 := ⟨_, rfl⟩
      have hgt := gtO (l := l) (i := i) (by omega)
      rw [← hx] at hgt
      refine J.skip ?_
      refine J.seq ?_
      refine J.block ?_
      refine J.seq ?_
      refine J.region ?_
      refine L.va rfl (X.move (by conv => lhs; whnf)) ?_
      refine L.va rfl (X.assign (by conv => lhs; whnf)) ?_
      refine L.nil ?_
      refine J.seq ?_
      refine J.region ?_
      refine L.va rfl (X.move (by conv => lhs; whnf)) ?_
      refine L.va rfl (X.move (by conv => lhs; whnf)) ?_
      refine L.va rfl (X.move (by conv => lhs; whnf)) ?_
      refine L.va rfl ((by first | exact X.indexAddrn rfl rfl Try.underlying22 sz_98 (by first | exact Option.some_ne_none _ | exact hA) (by omega) | exact X.indexAddr rfl rfl Try.underlying22 sz_98 (by first | exact Option.some_ne_none _ | exact hA) (by omega))) ?_
      refine L.va rfl (X.loadRow (cs := oV x) rfl hr3 (fun r u hu => flat_row oV_len hgt r u hu) (Nat.zero_lt_succ _) Try.underlying98 rfl (by kernel_rfl)) ?_
      refine L.callC rfl en_89 rfl rfl (norm1 (x := x) hg3) ?_
      rintro e w4 ⟨rfl, he4⟩
      refine ⟨_, rfl, ?_⟩
      have he04 := he3.trans he4
      have hst : l.take (i + 1) = l.take i ++ [x] := by rw [List.take_add_one, hgt]; rfl
      refine L.nil ?_
      by_cases hk : x.1 = y.1
      · rw [decide_eq_true hk]
        refine J.iteT rfl ?_
        refine J.seq ?_
        refine J.region ?_
        refine L.va rfl (X.move (by conv => lhs; whnf)) ?_
        refine L.va rfl (X.assign (by conv => lhs; whnf)) ?_
        refine L.nil ?_
        refine J.ret ?_
        refine inB_ret <|  thn_ret <|  thn_ret <|  inB_ret <|  thn_ret <| ?_
        refine fin1 ?_
        refine ⟨⟨_, rfl, ⟨fun _ => ?_, fun _ => Int.natCast_nonneg _⟩⟩, he04⟩
        exact hasC_iff.2 ⟨x, List.mem_of_getElem? hgt, hk⟩
      · rw [decide_eq_false hk]
        refine J.iteF rfl ?_
        refine J.skip ?_
        refine J.region ?_
        refine L.va rfl (X.add rfl rfl (by omega)) ?_
        refine L.va rfl (X.move (by conv => lhs; whnf)) ?_
        refine L.nil ?_
        refine ⟨i + 1, At1 (by first | rfl | exact at_int rfl (by omega) | exact at_slice rfl (by omega) | exact at_int rfl (by simp)), (by (iterate 11 refine Agr.lk rfl ?_); exact Agr.lk rfl (Agr.hav rfl Agr.rfl')), ?_⟩
        refine ⟨⟨by omega, ?_, he04⟩, by omega⟩
        rw [hst, hasC_snoc, hP, decide_eq_false hk]
        rfl
    · have e : l.take i = l := List.take_of_length_le (by omega)
      rw [e] at hP
      refine J.exit ?_
      refine J.seq ?_
      refine J.region ?_
      refine L.va rfl (X.assign (by conv => lhs; whnf)) ?_
      refine L.nil ?_
      refine J.ret ?_
      refine fin1 ?_
      refine ⟨⟨_, rfl, ⟨fun h => absurd h (by decide), fun h => ?_⟩⟩, he3⟩
      rw [hP] at h
      cases h
theorem contF {A : Option Addr} {n c : Nat} {l : List (Int × Bool)} {y : Int × Bool} {g : Nat} {w : World} (hr : Reads w w.heap.size 2 A n (l.flatMap oV)) (hl : l.length = n) (hn : n ≤ maxLen) (hg : Blk w g 98 (oV y).toArray) : Calls Try.prog 88 #[.slice A n c, .func (.func 89) #[] #[.pointer (some ⟨g, 0, none⟩)]] w fun e w' => e = .returned (.bool (hasC l y.1)) ∧ Ext w w' := by
  refine enter Try.func88 rfl (by kernel_rfl) ?_
  refine J.seq ?_
  refine J.region ?_
  refine L.va rfl (X.assign (by conv => lhs; whnf)) ?_
  refine L.nil ?_
  refine J.seq ?_
  refine J.region ?_
  refine L.va rfl (X.move (by conv => lhs; whnf)) ?_
  refine L.va rfl (X.move (by conv => lhs; whnf)) ?_
  refine L.call rfl en_176 rfl (idxF hr hl hn hg) ?_
  rintro e w1 ⟨⟨z, rfl, hz⟩, he1⟩
  refine ⟨_, rfl, ?_⟩
  refine L.va rfl (X.geq rfl rfl) ?_
  refine L.va rfl (X.assign (by conv => lhs; whnf)) ?_
  refine L.nil ?_
  refine J.ret ?_
  refine fin1 ?_
  refine ⟨?_, he1⟩
  have e : decide (z ≥ 0) = hasC l y.1 := by
    cases h : hasC l y.1
    · refine decide_eq_false fun k => ?_
      have := hz.1 k
      rw [h] at this
      cases this
    · exact decide_eq_true (hz.2 h)
  rw [← e]
  rfl
end Go.Proofs.Ytlipeplfjkgamaa
namespace Go.Proofs.Ytlipeplfjkgamaa
open Go.RowKit H
set_option linter.unusedVariables false
def OfT (w : World) (t g : Nat) : Prop := ∃ cs, Blk w g t cs
theorem Blk.ofT {w : World} {g t : Nat} {cs : Array Value} (h : Blk w g t cs) : OfT w t g := ⟨cs, h⟩
theorem OfT.one {w : World} {g t t' : Nat} (h : OfT w t g) (h' : OfT w t' g) : t = t' := by
  obtain ⟨cs, h⟩ := h
  obtain ⟨cs', h'⟩ := h'
  unfold Blk at h h'
  rw [h] at h'
  injection h' with h'
  injection h'
theorem own_ofT {w : World} {base e size n : Nat} {v : Value} {xs : List Value} (h : w.ownsRow base e size v n xs) {g : Nat} (hg : v.ownBlock = some g) : OfT w e g ∧ base ≤ g := by
  rcases h.2 with ⟨rfl, _⟩ | ⟨b, cap, cur, rfl, hb, hh, _⟩
  · cases hg
  · obtain rfl : b = g := by injection hg
    exact ⟨⟨cur, hh⟩, hb⟩
def TCh (t : Nat) (w w' : World) : Prop := Chg (OfT w t) w w'
namespace TCh
variable {w w' : World} {t : Nat} {rw0 : Option Nat}
theorem grown (hg : w.grownBy w' rw0) (h : ∀ g, rw0 = some g → OfT w t g) : TCh t w w' := Chg.of_grown hg h
theorem row {base size n : Nat} {v : Value} {xs : List Value} (ho : w.ownsRow base t size v n xs) (hg : w.grownBy w' v.ownBlock) : TCh t w w' := grown hg fun g e => (own_ofT ho e).1
theorem put {b : Nat} {cs : Array Value} (hk : Blk w b t cs) (hg : w.grownBy w' (some b)) : TCh t w w' := grown hg fun g e => by injection e with e; subst e; exact hk.ofT
theorem ext (he : Ext w w') : TCh t w w' := Chg.of_ext he
theorem own {base e size n : Nat} {v : Value} {xs : List Value} (hC : TCh t w w') (ho : w.ownsRow base e size v n xs) (hne : e ≠ t) : w'.ownsRow base e size v n xs :=
  Chg.own hC ho fun g hg hS => hne ((own_ofT ho hg).1.one hS)
theorem blk {g e : Nat} {cs : Array Value} (hC : TCh t w w') (hb : Blk w g e cs) (hne : e ≠ t) : Blk w' g e cs := Chg.blk hC hb fun hS => hne (hb.ofT.one hS)
theorem size (hC : TCh t w w') : w.heap.size ≤ w'.heap.size := Chg.size hC
end TCh
end Go.Proofs.Ytlipeplfjkgamaa
namespace Go.Proofs.Ytlipeplfjkgamaa
set_option maxRecDepth 100000
open Go.RowKit H
open Nrm (nrm)
set_option linter.unusedVariables false
theorem FisOwn.tch {f : Fis} {N t : Nat} {w w' : World} (h : FisOwn f N w) (hC : TCh t w w') (h1 : 150 ≠ t) (h2 : 3 ≠ t) : FisOwn f N w' :=
  ⟨hC.own h.o h1, fun x hx => hC.own (h.h x hx) h2, h.l⟩
theorem qnorm_no {s : Sch} {q : Qu} {w : World} (H : s.Here w) (hq : q.At w.heap.size w) (hc : qcode s q ≠ 0) : Calls Try.prog 32 #[s.val, q.val] w fun e w' => e = .returned (.tuple #[(Qu.mk 0 ⟨none, 0, 0, []⟩ none 0 0 [] none 0 0 [] 0).val, .int .i64 (qcode s q)]) ∧ Ext w w' := by
  have hle := H.hle
  refine enter Try.func32 rfl (by kernel_rfl) ?_
  refine J.seq ?_
  refine J.region ?_
  refine L.boxA (l := [_, _, _, _]) rfl rfl ?_
  intro b1 w1 hb1 hs1 hk1 he1
  refine L.boxA (l := [_, _, _, _, _]) rfl rfl ?_
  intro b2 w2 hb2 hs2 hk2 he2
  have hk12 := hk1.ext he2
  have he02 := he1.trans he2
  have hk2 : Blk w2 b2 54 q.vs.toArray := hk2
  refine L.alloc rfl zr_54 ?_
  intro b3 w3 hb3 hs3 hk3 he3
  have he03 := he02.trans he3
  replace hk2 := hk2.ext he3
  replace hk12 := hk12.ext he3
  refine L.va rfl (X.assign (by conv => lhs; whnf)) ?_
  refine L.nil ?_
  refine J.seq ?_
  refine J.seq ?_
  refine J.region ?_
  refine L.va rfl ((by first | exact X.loadAgg rfl (range_l hk2) Try.underlying49 rfl (by kernel_rfl) | exact X.loadAgg rfl (range_blk hk2) Try.underlying49 rfl (by kernel_rfl) | exact X.loadAgg rfl (range_l hk12) Try.underlying49 rfl (by kernel_rfl) | exact X.loadAgg rfl (range_blk hk12) Try.underlying49 rfl (by kernel_rfl))) ?_
  refine L.va rfl ((by first | exact X.loadAgg rfl (range_l hk2) Try.underlying54 rfl (by kernel_rfl) | exact X.loadAgg rfl (range_blk hk2) Try.underlying54 rfl (by kernel_rfl) | exact X.loadAgg rfl (range_l hk12) Try.underlying54 rfl (by kernel_rfl) | exact X.loadAgg rfl (range_blk hk12) Try.underlying54 rfl (by kernel_rfl))) ?_
  refine L.call rfl en_33 rfl (qcheck (H.ext he03) ((hq.ext he03).more he03.le)) ?_
  rintro e w4 ⟨rfl, he4⟩
  refine ⟨_, rfl, ?_⟩
  have hk34 := hk3.ext he4
  have he04 := he03.trans he4
  have y3 := he3.le
  refine L.va rfl (X.assign (by conv => lhs; whnf)) ?_
  refine L.nil ?_
  refine J.seq ?_
  refine J.region ?_
  refine L.va rfl (X.move (by conv => lhs; whnf)) ?_
  refine L.va rfl (X.neq rfl rfl) ?_
  refine L.nil ?_
  refine J.ndecT rfl (by exact hc) ?_
  refine J.seq ?_
  refine J.region ?_
  refine L.va rfl (X.build (l := [_, _, _, _, _]) Evs.nil (bld_run Try.underlying54 (bp_54 Try.underlying54) zr_54 rfl)) ?_
  refine L.va rfl (X.move (by conv => lhs; whnf)) ?_
  refine L.storeAgg (vs := [_, _, _, _, _]) rfl rfl rfl rfl sz_54 (hk34) rfl ?_
  intro w5 hk5 hg5 hs5
  refine L.va rfl (X.assign (by conv => lhs; whnf)) ?_
  refine L.nil ?_
  refine J.ret ?_
  refine thn_ret <| ?_
  refine finCT rfl (run_cell hk5 Try.underlying54 rfl (by kernel_rfl)) ?_
  have z4 := he4.le
  have z3 := he02.le
  exact ⟨rfl, he04.grw hg5 (by intro g hg; injection hg with hg; omega)⟩
structure Qn (s : Sch) (q r : Qu) : Prop where
  g : r.g = q.g
  m : r.m = q.m
  c : r.c = q.c
  o : r.o = dd q.o
  k : r.f.l.map Fi.key = nrm (q.f.l.map Fi.key) 0 (szs s s.nd)
theorem qnorm_ok {s : Sch} {q : Qu} {w : World} (H : s.Here w) (hq : q.At w.heap.size w) (hc : qcode s q = 0) : Calls Try.prog 32 #[s.val, q.val] w fun e w' => ∃ r : Qu, e = .returned (.tuple #[r.val, .int .i64 0]) ∧ r.At w'.heap.size w' ∧ Qn s q r ∧ Ext w w' := by
  have hle := H.hle
  have hok := qc_ok hc
  have lo := hq.lo
  have lc := hq.lc
  refine enter Try.func32 rfl (by kernel_rfl) ?_
  refine J.seq ?_
  refine J.region ?_
  refine L.boxA (l := [_, _, _, _]) rfl rfl ?_
  intro b1 w1 hb1 hs1 hk1 he1
  refine L.boxA (l := [_, _, _, _, _]) rfl rfl ?_
  intro b2 w2 hb2 hs2 hk2 he2
  have hk12 := hk1.ext he2
  have he02 := he1.trans he2
  have hk2 : Blk w2 b2 54 q.vs.toArray := hk2
  refine L.alloc rfl zr_54 ?_
  intro b3 w3 hb3 hs3 hk3 he3
  have he03 := he02.trans he3
  replace hk2 := hk2.ext he3
  replace hk12 := hk12.ext he3
  refine L.va rfl (X.assign (by conv => lhs; whnf)) ?_
  refine L.nil ?_
  refine J.seq ?_
  refine J.seq ?_
  refine J.region ?_
  refine L.va rfl ((by first | exact X.loadAgg rfl (range_l hk2) Try.underlying49 rfl (by kernel_rfl) | exact X.loadAgg rfl (range_blk hk2) Try.underlying49 rfl (by kernel_rfl) | exact X.loadAgg rfl (range_l hk12) Try.underlying49 rfl (by kernel_rfl) | exact X.loadAgg rfl (range_blk hk12) Try.underlying49 rfl (by kernel_rfl))) ?_
  refine L.va rfl ((by first | exact X.loadAgg rfl (range_l hk2) Try.underlying54 rfl (by kernel_rfl) | exact X.loadAgg rfl (range_blk hk2) Try.underlying54 rfl (by kernel_rfl) | exact X.loadAgg rfl (range_l hk12) Try.underlying54 rfl (by kernel_rfl) | exact X.loadAgg rfl (range_blk hk12) Try.underlying54 rfl (by kernel_rfl))) ?_
  refine L.call rfl en_33 rfl (qcheck (H.ext he03) ((hq.ext he03).more he03.le)) ?_
  rintro e w4 ⟨rfl, he4⟩
  refine ⟨_, rfl, ?_⟩
  rw [hc]
  have hk34 := hk3.ext he4
  have he04 := he03.trans he4
  have z4 := he04.le
  have y4 := he4.le
  have l3 := hk34.lt
  have y3 := he02.le
  replace hk2 := hk2.ext he4
  replace hk12 := hk12.ext he4
  refine L.va rfl (X.assign (by conv => lhs; whnf)) ?_
  refine L.nil ?_
  refine J.seq ?_
  refine J.region ?_
  refine L.va rfl (X.move (by conv => lhs; whnf)) ?_
  refine L.va rfl (X.neq rfl rfl) ?_
  refine L.nil ?_
  refine J.iteF rfl ?_
  refine J.skip ?_
  refine J.cut (X := Option Addr × Nat × Nat) [7, 17, 18, 19, 20, 21, 22, 23, 24] (fun (A, c, b7) => [(7, .pointer (some ⟨b7, 0, none⟩))]) (fun (A, c, b7) w' => w'.ownsRow w4.heap.size 130 2 (.slice A q.nc c) q.nc (q.c.flatMap cV) ∧ Blk w' b7 54 #[.int .u32 (q.g : Int), .slice none 0 0, .slice A q.nc c, .slice none 0 0, .int .i64 q.m] ∧ w4.heap.size ≤ b7 ∧ Ext w4 w') ?_ ?_
  · skip
    refine J.draw (ℓ := 1000000) (S := Ext w4) mixed (fun w5 hS hS_h => ?_)
    have z5 := hS.le
    refine D.va 0 rfl (by kernel_rfl) (fun _ _ _ h => h) rfl (fun w' hw => X.fieldAddr rfl Try.underlying54 rfl sz_50 (by decide)) hS ?_
    refine D.va 1 rfl (by kernel_rfl) (fun _ _ _ h => h) rfl (fun w' hw => X.load rfl sc_50 (by first | exact Ld.blk (hk2.ext hw) rfl | exact Ld.blk (hk12.ext hw) rfl)) hS ?_
    refine D.va 2 rfl (by kernel_rfl) (fun _ _ _ h => h) rfl (fun w' hw => X.fieldAddr rfl Try.underlying54 rfl sz_52 (by decide)) hS ?_
    refine D.va 3 rfl (by kernel_rfl) (fun _ _ _ h => h) rfl (fun w' hw => X.load rfl sc_52 (by first | exact Ld.blk (hk2.ext hw) rfl | exact Ld.blk (hk12.ext hw) rfl)) hS ?_
    refine D.va 5 rfl (by kernel_rfl) (fun _ _ _ h => h) rfl (fun w' hw => X.fieldAddr rfl Try.underlying54 rfl sz_3 (by decide)) hS ?_
    refine D.va 6 rfl (by kernel_rfl) (fun _ _ _ h => h) rfl (fun w' hw => X.load rfl sc_3 (by first | exact Ld.blk (hk2.ext hw) rfl | exact Ld.blk (hk12.ext hw) rfl)) hS ?_
    refine D.two 4 8 (by kernel_rfl) rfl rfl ?_ ?_
    · have zz := (hS).le
      refine L.call rfl en_86 rfl (cloneC q.Ac q.nc q.cc q.c _ ((hq.ext (he04.trans hS)).c.more (by omega)) (by omega) lc) ?_
      rintro e wa ⟨A, c, rfl, ho, hea⟩
      refine ⟨_, rfl, ?_⟩
      have hS1 := (hS).trans hea
      refine L.nil ?_
      refine ⟨fun _ => hS1, ?_⟩
      have ho := own_lower ho zz
      try replace hk7 := hk7.ext hea
      refine D.va 7 rfl (by kernel_rfl) (fun _ _ _ h => h) rfl (fun w' hw => X.build (l := [_, _, _, _, _]) (Evs.cons (by conv => lhs; whnf) (Evs.cons (by conv => lhs; whnf) (Evs.cons (by conv => lhs; whnf) Evs.nil))) (bld_run Try.underlying54 (bp_54 Try.underlying54) zr_54 rfl)) hS1 ?_
      have zz := (hS1).le
      refine D.one 8 (by kernel_rfl) rfl ?_
      refine L.alloc rfl zr_54 ?_
      intro b7 wb hb7 hs7 hk7 heb
      have hS2 := (hS1).trans heb
      refine L.nil ?_
      refine ⟨fun _ => hS2, ?_⟩
      try replace ho := ho.ext heb
      have zz := (hS2).le
      refine D.one 9 (by kernel_rfl) rfl ?_
      refine L.storeAgg (vs := [_, _, _, _, _]) rfl rfl rfl rfl sz_54 (hk7) rfl ?_
      intro wc hk8 hg8 hs8
      have hS3 := (hS2).grw hg8 (by intro g hg; injection hg with hg; omega)
      refine L.nil ?_
      refine ⟨fun _ => hS3, ?_⟩
      have hC := TCh.put hk7 hg8
      replace ho := hC.own ho (by decide)
      refine D.done (by kernel_rfl) ?_
      replace hk2 := hk2.ext hS3
      replace hk12 := hk12.ext hS3
      refine ⟨(A, c, b7), At1 (by first | rfl | exact at_int rfl (by omega) | exact at_slice rfl (by omega) | exact at_int rfl (by simp)), (by (iterate 9 refine Agr.lk rfl ?_); exact Agr.rfl'), ?_⟩
      exact ⟨ho, hk8, by omega, hS3⟩
    · have zz := (hS).le
      refine L.alloc rfl zr_54 ?_
      intro b7 wb hb7 hs7 hk7 heb
      have hS1 := (hS).trans heb
      refine L.nil ?_
      refine ⟨fun _ => hS1, ?_⟩
      try replace ho := ho.ext heb
      have zz := (hS1).le
      refine D.one 4 (by kernel_rfl) rfl ?_
      refine L.call rfl en_86 rfl (cloneC q.Ac q.nc q.cc q.c _ ((hq.ext (he04.trans hS1)).c.more (by omega)) (by omega) lc) ?_
      rintro e wa ⟨A, c, rfl, ho, hea⟩
      refine ⟨_, rfl, ?_⟩
      have hS2 := (hS1).trans hea
      refine L.nil ?_
      refine ⟨fun _ => hS2, ?_⟩
      have ho := own_lower ho zz
      try replace hk7 := hk7.ext hea
      refine D.va 7 rfl (by kernel_rfl) (fun _ _ _ h => h) rfl (fun w' hw => X.build (l := [_, _, _, _, _]) (Evs.cons (by conv => lhs; whnf) (Evs.cons (by conv => lhs; whnf) (Evs.cons (by conv => lhs; whnf) Evs.nil))) (bld_run Try.underlying54 (bp_54 Try.underlying54) zr_54 rfl)) hS2 ?_
      have zz := (hS2).le
      refine D.one 9 (by kernel_rfl) rfl ?_
      refine L.storeAgg (vs := [_, _, _, _, _]) rfl rfl rfl rfl sz_54 (hk7) rfl ?_
      intro wc hk8 hg8 hs8
      have hS3 := (hS2).grw hg8 (by intro g hg; injection hg with hg; omega)
      refine L.nil ?_
      refine ⟨fun _ => hS3, ?_⟩
      have hC := TCh.put hk7 hg8
      replace ho := hC.own ho (by decide)
      refine D.done (by kernel_rfl) ?_
      replace hk2 := hk2.ext hS3
      replace hk12 := hk12.ext hS3
      refine ⟨(A, c, b7), At1 (by first | rfl | exact at_int rfl (by omega) | exact at_slice rfl (by omega) | exact at_int rfl (by simp)), (by (iterate 9 refine Agr.lk rfl ?_); exact Agr.rfl'), ?_⟩
      exact ⟨ho, hk8, by omega, hS3⟩
  · rintro ⟨A, c, b7⟩ g w5 ⟨ho5, hk7, hb7, he5⟩
    have he05 := he04.trans he5
    have z5 := he05.le
    have hk72 := hk2.ext he5
    have hk71 := hk12.ext he5
    have hk3 := hk34.ext he5
    refine J.seq ?_
    refine J.region ?_
    refine L.va rfl ((by first | exact X.loadAgg rfl (range_l hk7) Try.underlying49 rfl (by kernel_rfl) | exact X.loadAgg rfl (range_blk hk7) Try.underlying49 rfl (by kernel_rfl) | exact X.loadAgg rfl (range_l hk71) Try.underlying49 rfl (by kernel_rfl) | exact X.loadAgg rfl (range_blk hk71) Try.underlying49 rfl (by kernel_rfl) | exact X.loadAgg rfl (range_l hk72) Try.underlying49 rfl (by kernel_rfl) | exact X.loadAgg rfl (range_blk hk72) Try.underlying49 rfl (by kernel_rfl))) ?_
    refine L.va rfl (X.fieldAddr rfl Try.underlying54 rfl sz_51 (by decide)) ?_
    refine L.va rfl (X.load rfl sc_51 (by first | exact Ld.blk hk7 rfl | exact Ld.blk hk71 rfl | exact Ld.blk hk72 rfl)) ?_
    refine L.call rfl en_87 rfl (fnorm_ok (H.ext he05) ((hq.ext he05).more z5).f hok.2.2.1) ?_
    rintro e w6 ⟨r, rfl, hr, hrk, he6⟩
    refine ⟨_, rfl, ?_⟩
    have he06 := he05.trans he6
    have z6 := he6.le
    have hk73 := hk3.ext he6
    have ho6 := ho5.ext he6
    replace hk7 := hk7.ext he6
    replace hk71 := hk71.ext he6
    replace hk72 := hk72.ext he6
    refine L.va rfl (X.move (by conv => lhs; whnf)) ?_
    refine L.va rfl (X.extract rfl rfl) ?_
    refine L.va rfl (X.extract rfl rfl) ?_
    refine L.va rfl (X.fieldAddr rfl Try.underlying54 rfl sz_51 (by decide)) ?_
    refine L.store rfl rfl (by conv => lhs; whnf) rfl sz_51 (hk7) (by first | decide | exact Nat.le_of_ble_eq_true rfl) ?_
    intro w7 hk8 hg8 hs8
    have hC := TCh.put hk7 hg8
    have hr7 := hr.tch hC (by decide) (by decide)
    have ho7 := hC.own ho6 (by decide)
    have hk271 := hk71.grown hg8 (by intro e; injection e with e; have := hk12.lt; omega)
    have hk272 := hk72.grown hg8 (by intro e; injection e with e; have := hk2.lt; omega)
    have hk273 := hk73.grown hg8 (by intro e; injection e with e; omega)
    have he07 : Ext w w7 := he06.grw hg8 (by intro g hg; injection hg with hg; omega)
    have hk8 : Blk w7 b7 54 #[.int .u32 (q.g : Int), r.val, .slice A q.nc c, .slice none 0 0, .int .i64 q.m] := hk8
    have z7 := hC.size
    have hd71 : b7 ≠ b1 := by have := hk12.lt; omega
    have hd72 : b7 ≠ b2 := by have := hk2.lt; omega
    have hd73 : b7 ≠ b3 := by omega
    have mo := hq.mo
    unfold maxLen at mo
    refine L.nil ?_
    refine J.seq ?_
    refine J.seq ?_
    refine J.region ?_
    refine L.va rfl (X.fieldAddr rfl Try.underlying54 rfl sz_22 (by decide)) ?_
    refine L.va rfl (X.load rfl sc_22 (by first | exact Ld.blk hk8 rfl | exact Ld.blk hk271 rfl | exact Ld.blk hk272 rfl)) ?_
    refine L.va rfl (X.len rfl Try.underlying22) ?_
    refine L.va rfl (X.move (by conv => lhs; whnf)) ?_
    refine L.nil ?_
    refine J.block ?_
    refine J.loop (X := Nat × Option Addr × Nat × Nat × List (Int × Bool)) [9, 36, 37, 38, 39, 40, 41, 42, 43, 44, 45, 46, 47, 48, 49, 50, 51] (fun (i, A2, n2, c2, l) => [(36, .int .i64 (i : Int))]) (fun (i, A2, n2, c2, l) w' => i ≤ q.no ∧ l = dd (q.o.take i) ∧ n2 = l.length ∧ n2 ≤ i ∧ w'.ownsRow w7.heap.size 98 2 (.slice A2 n2 c2) n2 (l.flatMap oV) ∧ Blk w' b7 54 #[.int .u32 (q.g : Int), r.val, .slice A q.nc c, .slice A2 n2 c2, .int .i64 q.m] ∧ FisOwn r w5.heap.size w' ∧ w'.ownsRow w4.heap.size 130 2 (.slice A q.nc c) q.nc (q.c.flatMap cV) ∧ Blk w' b2 54 q.vs.toArray ∧ Blk w' b3 54 #[.int .u32 0, .slice none 0 0, .slice none 0 0, .slice none 0 0, .int .i64 0] ∧ w7.heap.size ≤ w'.heap.size ∧ Ext w w') (fun (i, _) => q.no - i) ((0, none, 0, 0, [])) (At1 (by first | rfl | exact at_int rfl (by omega) | exact at_slice rfl (by omega) | exact at_int rfl (by simp))) ?_ ?_
    · exact ⟨Nat.zero_le _, rfl, rfl, Nat.le_refl _, own_nil _ _ _ _, hk8, hr7, ho7, hk272, hk273, Nat.le_refl _, he07⟩
    · rintro ⟨i, A2, n2, c2, l⟩ g w8 ⟨hi, hl, hn2, hni, hro, hkq, hfr, hco, hkb, hkt, hz8, he8⟩
      have hq8 := hq.ext he8
      have z8 := he8.le
      refine J.seq ?_
      refine J.region ?_
      refine L.va rfl (X.lss rfl rfl) ?_
      refine L.nil ?_
      refine J.seq ?_
      refine J.dec rfl (fun hlt => ?_) (fun hlt => ?_)
      · have hin : i < q.no := by omega
        have hA := hq8.o.some_ (by omega)
        obtain ⟨x, hx⟩ : ∃ x, x = q.o.getD i o0 := ⟨_, rfl⟩
        have hgt := gtO (l := q.o) (i := i) (by omega)
        have hnx := dd_take (l := q.o) (i := i) (by omega)
        rw [← hx] at hgt hnx
        rw [← hl] at hnx
        have hor := Reads.of_own hro
        refine J.skip ?_
        refine J.seq ?_
        refine J.block ?_
        refine J.seq ?_
        refine J.region ?_
        refine L.va rfl ((by first | exact X.indexAddrn rfl rfl Try.underlying22 sz_98 (by first | exact Option.some_ne_none _ | exact hA) (by omega) | exact X.indexAddr rfl rfl Try.underlying22 sz_98 (by first | exact Option.some_ne_none _ | exact hA) (by omega))) ?_
        refine L.va rfl (X.loadRow (cs := oV x) rfl hq8.o (fun r u hu => flat_row oV_len hgt r u hu) (Nat.zero_lt_succ _) Try.underlying98 rfl (by kernel_rfl)) ?_
        refine L.alloc rfl zr_98 ?_
        intro b9 w9 hb9 hs9 hk9 he9
        refine L.storeAgg (vs := [_, _]) rfl rfl rfl rfl sz_98 (hk9) rfl ?_
        intro wa hka hga hsa
        have he8a : Ext w8 wa := he9.grw hga (by intro g hg; injection hg with hg; omega)
        have hka : Blk wa b9 98 (oV x).toArray := hka
        have hkqa := hkq.ext he8a
        have hkba := hkb.ext he8a
        have hroa := hro.ext he8a
        refine L.nil ?_
        refine J.seq ?_
        refine J.region ?_
        refine L.va rfl (X.fieldAddr rfl Try.underlying54 rfl sz_22 (by decide)) ?_
        refine L.va rfl (X.load rfl sc_22 (by first | exact Ld.blk hkqa rfl | exact Ld.blk hkba rfl | exact Ld.blk hka rfl | exact hA)) ?_
        refine L.va rfl (X.makeFn rfl) ?_
        refine L.call rfl en_88 rfl (contF (y := x) ((Reads.of_own hro).ext he8a |>.more he8a.le) hn2.symm (own_max hro) hka) ?_
        rintro e wb ⟨rfl, heb⟩
        refine ⟨_, rfl, ?_⟩
        have he8b := he8a.trans heb
        have hkqb := hkqa.ext heb
        have hkbb := hkba.ext heb
        have hrob := hroa.ext heb
        have hkab := hka.ext heb
        have he0b := he8.trans he8b
        have hfrb := hfr.ext he8b
        have hcob := hco.ext he8b
        have zb := he8b.le
        have hktb := hkt.ext he8b
        refine L.va rfl (X.not rfl) ?_
        refine L.nil ?_
        by_cases hh : hasC l x.1 = true
        · rw [hh]
          refine J.iteF rfl ?_
          refine J.skip ?_
          refine J.region ?_
          refine L.va rfl (X.add rfl rfl (by omega)) ?_
          refine L.va rfl (X.move (by conv => lhs; whnf)) ?_
          refine L.nil ?_
          refine ⟨(i + 1, A2, n2, c2, l), At1 (by first | rfl | exact at_int rfl (by omega) | exact at_slice rfl (by omega) | exact at_int rfl (by simp)), (by (iterate 11 refine Agr.lk rfl ?_); exact Agr.lk rfl (Agr.hav rfl Agr.rfl')), ?_⟩
          refine ⟨⟨by omega, ?_, hn2, by omega, hrob, hkqb, hfrb, hcob, hkbb, hktb, by omega, he0b⟩, by show q.no - (i + 1) < q.no - i; omega⟩
          rw [hnx]; unfold ddS; rw [hh]; rfl
        · have hh : hasC l x.1 = false := by
            cases h : hasC l x.1
            · rfl
            · exact absurd h hh
          rw [hh]
          refine J.iteT rfl ?_
          refine J.region ?_
          refine L.va rfl (X.fieldAddr rfl Try.underlying54 rfl sz_22 (by decide)) ?_
          refine L.va rfl (X.load rfl sc_22 (by first | exact Ld.blk hkqb rfl | exact Ld.blk hkbb rfl | exact Ld.blk hkab rfl | exact hA)) ?_
          refine L.va rfl ((by first | exact X.loadAgg rfl (range_l hkqb) Try.underlying98 rfl (by kernel_rfl) | exact X.loadAgg rfl (range_blk hkqb) Try.underlying98 rfl (by kernel_rfl) | exact X.loadAgg rfl (range_l hkbb) Try.underlying98 rfl (by kernel_rfl) | exact X.loadAgg rfl (range_blk hkbb) Try.underlying98 rfl (by kernel_rfl) | exact X.loadAgg rfl (range_l hkab) Try.underlying98 rfl (by kernel_rfl) | exact X.loadAgg rfl (range_blk hkab) Try.underlying98 rfl (by kernel_rfl))) ?_
          refine L.bslice1 (l := [_, _]) rfl rfl rfl Try.underlying22 sz_98 zr_98 rfl ?_
          intro bc wc hbc hsc hkc hec
          have hrc := hrob.ext hec
          have zc := hec.le
          have hones : ((oV x).all (·.oneCell')) = true := rfl
          have hkqc := hkqb.ext hec
          replace hkqb := hkqb.ext hec
          replace hkbb := hkbb.ext hec
          replace hkab := hkab.ext hec
          refine L.appendV (q := n2 + 1) (ys := l.flatMap oV ++ oV x) rfl rfl rfl Try.underlying22 el_98 (hrc) (blk_readsN (sz := 2) (q := 1) (l := oV x) hkc hkc.lt rfl) (by first | rfl | exact strs_ones _ | assumption) (by omega) (by simp) (by unfold maxLen; omega) (by omega) ?_
          intro A3 c3 wd hod hgd hbd hord
          have hTd := TCh.row hrc hgd
          have hkqd := hTd.blk hkqc (by decide)
          have hkbd := hTd.blk hkbb (by decide)
          have hfrd := (hfrb.ext hec).tch hTd (by decide) (by decide)
          have hcod := hTd.own (hcob.ext hec) (by decide)
          have zd := hTd.size
          have he0d : Ext w wd := (he0b.trans hec).grw hgd (fun g hg => by have := (own_ofT hrc hg).2; omega)
          have hktd := hTd.blk (hktb.ext hec) (by decide)
          refine L.va rfl (X.fieldAddr rfl Try.underlying54 rfl sz_22 (by decide)) ?_
          refine L.store rfl rfl (by conv => lhs; whnf) rfl sz_22 (hkqd) (by first | decide | exact Nat.le_of_ble_eq_true rfl) ?_
          intro we hke hge hse
          have hTe := TCh.put hkqd hge
          have hke : Blk we b7 54 #[.int .u32 (q.g : Int), r.val, .slice A q.nc c, .slice A3 (n2 + 1) c3, .int .i64 q.m] := hke
          have ze := hTe.size
          refine L.nil ?_
          refine J.region ?_
          refine L.va rfl (X.add rfl rfl (by omega)) ?_
          refine L.va rfl (X.move (by conv => lhs; whnf)) ?_
          refine L.nil ?_
          refine ⟨(i + 1, A3, n2 + 1, c3, l ++ [x]), At1 (by first | rfl | exact at_int rfl (by omega) | exact at_slice rfl (by omega) | exact at_int rfl (by simp)), (by (iterate 17 refine Agr.lk rfl ?_); exact Agr.lk rfl (Agr.hav rfl Agr.rfl')), ?_⟩
          refine ⟨⟨by omega, ?_, by simp [hn2], by omega, hTe.own (by simpa using hod) (by decide), hke, hfrd.tch hTe (by decide) (by decide), hTe.own hcod (by decide), hkbd.grown hge (by intro e; injection e with e; exact hd72 e.symm), ?_, by omega, he0d.grw hge (by intro g hg; injection hg with hg; omega)⟩, by show q.no - (i + 1) < q.no - i; omega⟩
          · rw [hnx]; unfold ddS; rw [hh]; rfl
          · exact hktd.grown hge (by intro e; injection e with e; exact hd73 e.symm)
      · have e : q.o.take i = q.o := List.take_of_length_le (by omega)
        rw [e] at hl
        have hk3 := hkt
        refine J.exit ?_
        refine J.seq ?_
        refine J.region ?_
        refine L.va rfl ((by first | exact X.loadAgg rfl (range_l hkq) Try.underlying54 rfl (by kernel_rfl) | exact X.loadAgg rfl (range_blk hkq) Try.underlying54 rfl (by kernel_rfl))) ?_
        refine L.storeAgg (vs := [_, _, _, _, _]) rfl rfl rfl rfl sz_54 (hk3) rfl ?_
        intro w9 hk9 hg9 hs9
        have hT := TCh.put hk3 hg9
        refine L.va rfl (X.assign (by conv => lhs; whnf)) ?_
        refine L.nil ?_
        refine J.ret ?_
        refine finCT rfl (run_cell hk9 Try.underlying54 rfl (by kernel_rfl)) ?_
        have hro9 := hT.own hro (by decide)
        have hco9 := hT.own hco (by decide)
        have hfr9 := hfr.tch hT (by decide) (by decide)
        refine ⟨⟨q.g, r, A, q.nc, c, q.c, A2, n2, c2, l, q.m⟩, rfl, ⟨hq.g, hfr9.at, Reads.of_own hco9, lc, hq.mc, Reads.of_own hro9, hn2.symm, own_max hro9⟩, ⟨rfl, rfl, rfl, hl, hrk⟩, he8.grw hg9 (by intro g hg; injection hg with hg; omega)⟩
end Go.Proofs.Ytlipeplfjkgamaa
namespace Go.Proofs.Ytlipeplfjkgamaa
set_option maxRecDepth 100000
open Go.RowKit H
open Nrm (nrm)
set_option linter.unusedVariables false
theorem rnorm29 {s : Sch} {q : Qu} {w : World} (H : s.Here w) (hq : q.At w.heap.size w) (hc : qcode s q = 0) : Calls Try.prog 38 #[s.val, q.val] w fun e w' => ∃ r : Qu, e = .returned r.val ∧ r.At w'.heap.size w' ∧ Qn s q r ∧ Ext w w' := by
  have hle := H.hle
  have lo := hq.lo
  have lc := hq.lc
  have hok := qc_ok hc
  refine enter Try.func38 rfl (by kernel_rfl) ?_
  refine J.seq ?_
  refine J.region ?_
  refine L.boxA (l := [_, _, _, _]) rfl rfl ?_
  intro b1 w1 hb1 hs1 hk1 he1
  refine L.boxA (l := [_, _, _, _, _]) rfl rfl ?_
  intro b2 w2 hb2 hs2 hk2 he2
  have hk12 := hk1.ext he2
  have he02 := he1.trans he2
  have hk2 : Blk w2 b2 54 q.vs.toArray := hk2
  refine L.alloc rfl zr_54 ?_
  intro b3 w3 hb3 hs3 hk3 he3
  have hk3 : Blk w3 b3 54 #[.int .u32 0, .slice none 0 0, .slice none 0 0, .slice none 0 0, .int .i64 0] := hk3
  have he03 := he02.trans he3
  replace hk2 := hk2.ext he3
  replace hk12 := hk12.ext he3
  refine L.nil ?_
  refine J.seq ?_
  refine J.region ?_
  refine L.va rfl ((by first | exact X.loadAgg rfl (range_l hk2) Try.underlying54 rfl (by kernel_rfl) | exact X.loadAgg rfl (range_blk hk2) Try.underlying54 rfl (by kernel_rfl) | exact X.loadAgg rfl (range_l hk12) Try.underlying54 rfl (by kernel_rfl) | exact X.loadAgg rfl (range_blk hk12) Try.underlying54 rfl (by kernel_rfl))) ?_
  refine L.alloc rfl zr_54 ?_
  intro b4 w4 hb4 hs4 hk4 he4
  have hk34 := hk3.ext he4
  replace hk2 := hk2.ext he4
  replace hk12 := hk12.ext he4
  refine L.storeAgg (vs := [_, _, _, _, _]) rfl rfl rfl rfl sz_54 (hk4) rfl ?_
  intro w5 hk5 hg5 hs5
  have he35 : Ext w3 w5 := he4.grw hg5 (by intro g hg; injection hg with hg; omega)
  have hk5 : Blk w5 b4 54 q.vs.toArray := hk5
  have he05 := he03.trans he35
  have z5 := he05.le
  have l2 := hk12.lt
  have l3 := hk34.lt
  have lb2 := he02.le
  have hd42 : b2 ≠ b4 := by have := hk2.lt; omega
  have hd43 : b3 ≠ b4 := by have := he3.le; have := he4.le; omega
  have hk35 := hk34.grown hg5 (by intro e; injection e with e; exact hd43 e)
  replace hk2 := hk2.grown hg5 (by intro e; injection e with e; exact hd42 e)
  replace hk12 := hk12.grown hg5 (by intro e; injection e with e; have := hk3.lt; omega)
  refine L.nil ?_
  refine J.seq ?_
  refine J.region ?_
  refine L.va rfl ((by first | exact X.loadAgg rfl (range_l hk2) Try.underlying49 rfl (by kernel_rfl) | exact X.loadAgg rfl (range_blk hk2) Try.underlying49 rfl (by kernel_rfl) | exact X.loadAgg rfl (range_l hk12) Try.underlying49 rfl (by kernel_rfl) | exact X.loadAgg rfl (range_blk hk12) Try.underlying49 rfl (by kernel_rfl))) ?_
  refine L.va rfl (X.fieldAddr rfl Try.underlying54 rfl sz_51 (by decide)) ?_
  refine L.va rfl (X.load rfl sc_51 (by first | exact Ld.blk hk2 rfl | exact Ld.blk hk12 rfl)) ?_
  refine L.call rfl en_102 rfl (rnorm28 (H.ext he05) ((hq.ext he05).more z5).f hok.1) ?_
  rintro e w6 ⟨r, rfl, hr, hrk, he6⟩
  refine ⟨_, rfl, ?_⟩
  have he06 := he05.trans he6
  have z6 := he6.le
  have hk36 := hk35.ext he6
  have hk6 := hk5.ext he6
  replace hk2 := hk2.ext he6
  replace hk12 := hk12.ext he6
  refine L.va rfl (X.fieldAddr rfl Try.underlying54 rfl sz_51 (by decide)) ?_
  refine L.store rfl rfl (by conv => lhs; whnf) rfl sz_51 (hk6) (by first | decide | exact Nat.le_of_ble_eq_true rfl) ?_
  intro w7 hk7 hg7 hs7
  have hC7 := TCh.put hk6 hg7
  have hr7 := hr.tch hC7 (by decide) (by decide)
  have hk37 := hk36.grown hg7 (by intro e; injection e with e; exact hd43 e)
  have hk27 := hk2.grown hg7 (by intro e; injection e with e; exact hd42 e)
  have he07 : Ext w w7 := he06.grw hg7 (by intro g hg; injection hg with hg; omega)
  have z7 := hC7.size
  refine L.nil ?_
  refine J.seq ?_
  refine J.region ?_
  refine L.va rfl (X.fieldAddr rfl Try.underlying54 rfl sz_22 (by decide)) ?_
  refine L.store rfl rfl (by conv => lhs; whnf) rfl sz_22 (hk7) (by first | decide | exact Nat.le_of_ble_eq_true rfl) ?_
  intro w8 hk8 hg8 hs8
  have hC8 := TCh.put hk7 hg8
  have hr8 := hr7.tch hC8 (by decide) (by decide)
  have hk38 := hk37.grown hg8 (by intro e; injection e with e; exact hd43 e)
  have hk28 := hk27.grown hg8 (by intro e; injection e with e; exact hd42 e)
  have he08 : Ext w w8 := he07.grw hg8 (by intro g hg; injection hg with hg; omega)
  have z8 := hC8.size
  have hk8 : Blk w8 b4 54 #[.int .u32 (q.g : Int), r.val, .slice q.Ac q.nc q.cc, .slice none 0 0, .int .i64 q.m] := hk8
  have mo := hq.mo
  unfold maxLen at mo
  refine L.nil ?_
  refine J.seq ?_
  refine J.seq ?_
  refine J.region ?_
  refine L.va rfl (X.assign (by conv => lhs; whnf)) ?_
  refine L.nil ?_
  refine J.block ?_
  refine J.loop (X := Nat × Option Addr × Nat × Nat × List (Int × Bool)) [6, 7, 8, 16, 17, 18, 19, 20, 21, 22, 23, 24, 25, 26, 27, 28, 29, 30, 31, 32, 33, 34, 35, 36, 37, 38, 39, 40, 41, 42, 43, 44, 45, 46, 47, 48, 49, 50, 51, 52, 53, 54] (fun (i, A2, n2, c2, l) => [(6, .int .i64 (i : Int))]) (fun (i, A2, n2, c2, l) w' => i ≤ q.no ∧ l = dd (q.o.take i) ∧ n2 = l.length ∧ n2 ≤ i ∧ w'.ownsRow w8.heap.size 98 2 (.slice A2 n2 c2) n2 (l.flatMap oV) ∧ Blk w' b4 54 #[.int .u32 (q.g : Int), r.val, .slice q.Ac q.nc q.cc, .slice A2 n2 c2, .int .i64 q.m] ∧ FisOwn r w5.heap.size w' ∧ Blk w' b2 54 q.vs.toArray ∧ Blk w' b3 54 #[.int .u32 0, .slice none 0 0, .slice none 0 0, .slice none 0 0, .int .i64 0] ∧ w8.heap.size ≤ w'.heap.size ∧ Ext w w') (fun (i, _) => q.no - i) ((0, none, 0, 0, [])) (At1 (by first | rfl | exact at_int rfl (by omega) | exact at_slice rfl (by omega) | exact at_int rfl (by simp))) ?_ ?_
  · exact ⟨Nat.zero_le _, rfl, rfl, Nat.le_refl _, own_nil _ _ _ _, hk8, hr8, hk28, hk38, Nat.le_refl _, he08⟩
  · rintro ⟨i, A2, n2, c2, l⟩ g w9 ⟨hi, hl, hn2, hni, hro, hkq, hfr, hkb, hkt, hz9, he9⟩
    have hq9 := hq.ext he9
    have z9 := he9.le
    refine J.seq ?_
    refine J.seq ?_
    refine J.region ?_
    refine L.va rfl (X.move (by conv => lhs; whnf)) ?_
    refine L.va rfl (X.fieldAddr rfl Try.underlying54 rfl sz_22 (by decide)) ?_
    refine L.va rfl (X.load rfl sc_22 (by first | exact Ld.blk hkq rfl | exact Ld.blk hkb rfl)) ?_
    refine L.va rfl (X.len rfl Try.underlying22) ?_
    refine L.va rfl (X.lss rfl rfl) ?_
    refine L.nil ?_
    refine J.dec rfl (fun hlt => ?_) (fun hlt => ?_)
    · have hin : i < q.no := by omega
      have hA := hq9.o.some_ (by omega)
      obtain ⟨x, hx⟩ : ∃ x, x = q.o.getD i o0 := ⟨_, rfl⟩
      have hgt := gtO (l := q.o) (i := i) (by omega)
      have hnx := dd_take (l := q.o) (i := i) (by omega)
      rw [← hx] at hgt hnx
      rw [← hl] at hnx
      have hcd := hasC_dd0 (q.o.take i) x.1
      have hck := hasC_take (l := q.o) (i := i) (by omega) x.1
      rw [show dd (q.o.take i) = l from hl.symm] at hcd
      refine J.skip ?_
      refine J.seq ?_
      refine J.block ?_
      refine J.seq ?_
      refine J.region ?_
      refine L.va rfl (X.assign (by conv => lhs; whnf)) ?_
      refine L.nil ?_
      refine J.seq ?_
      refine J.seq ?_
      refine J.region ?_
      refine L.va rfl (X.assign (by conv => lhs; whnf)) ?_
      refine L.nil ?_
      refine J.block ?_
      refine J.loop (X := Nat × Bool) [7, 8, 23, 24, 25, 26, 27, 28, 29, 30, 31, 32, 33, 34, 35, 36, 37, 38, 39, 40, 41, 42, 43] (fun (k, b) => [(8, .int .i64 (k : Int)), (7, .bool b)]) (fun (k, b) w' => k ≤ i ∧ (b = true ↔ ∀ j, j < k → (q.o.getD j o0).1 ≠ x.1) ∧ Ext w9 w') (fun (k, _) => i - k) ((0, true)) (At2 (by first | rfl | exact at_int rfl (by omega) | exact at_slice rfl (by omega) | exact at_int rfl (by simp)) (by first | rfl | exact at_int rfl (by omega) | exact at_slice rfl (by omega) | exact at_int rfl (by simp))) ?_ ?_
      · exact ⟨Nat.zero_le _, ⟨fun _ j hj => absurd hj (by omega), fun _ => rfl⟩, Ext.refl _⟩
      · rintro ⟨k, b⟩ g wa ⟨hk, hb, hea⟩
        have hqa := hq9.ext hea
        have hkqa := hkq.ext hea
        have hkba := hkb.ext hea
        refine J.seq ?_
        refine J.seq ?_
        refine J.region ?_
        refine L.va rfl (X.move (by conv => lhs; whnf)) ?_
        refine L.va rfl (X.move (by conv => lhs; whnf)) ?_
        refine L.va rfl (X.lss rfl rfl) ?_
        refine L.nil ?_
        refine J.dec rfl (fun hlt2 => ?_) (fun hlt2 => ?_)
        · have hki : k < i := by omega
          have hAk := hqa.o.some_ (by omega)
          have hgk := gtO (l := q.o) (i := k) (by omega)
          refine J.skip ?_
          refine J.seq ?_
          refine J.block ?_
          cases b
          · refine J.draw (ℓ := 1000000) (S := Ext wa) mixed (fun wb hS hS_h => ?_)
            refine D.va 0 rfl (by kernel_rfl) (fun _ _ _ h => h) rfl (fun w' hw => X.move (by conv => lhs; whnf)) hS ?_
            refine D.va 1 rfl (by kernel_rfl) (fun _ _ _ h => h) rfl (fun w' hw => X.move (by conv => lhs; whnf)) hS ?_
            refine D.caseBF (k := 29) rfl (by rfl) ?_
            refine D.no 2 rfl (by kernel_rfl) (fun _ _ _ h => h) rfl hS ?_
            refine D.no 3 rfl (by kernel_rfl) (fun _ _ _ h => h) rfl hS ?_
            refine D.no 4 rfl (by kernel_rfl) (fun _ _ _ h => h) rfl hS ?_
            refine D.no 5 rfl (by kernel_rfl) (fun _ _ _ h => h) rfl hS ?_
            refine D.no 6 rfl (by kernel_rfl) (fun _ _ _ h => h) rfl hS ?_
            refine D.no 7 rfl (by kernel_rfl) (fun _ _ _ h => h) rfl hS ?_
            refine D.no 8 rfl (by kernel_rfl) (fun _ _ _ h => h) rfl hS ?_
            refine D.no 9 rfl (by kernel_rfl) (fun _ _ _ h => h) rfl hS ?_
            refine D.no 10 rfl (by kernel_rfl) (fun _ _ _ h => h) rfl hS ?_
            refine D.no 11 rfl (by kernel_rfl) (fun _ _ _ h => h) rfl hS ?_
            refine D.no 12 rfl (by kernel_rfl) (fun _ _ _ h => h) rfl hS ?_
            refine D.no 13 rfl (by kernel_rfl) (fun _ _ _ h => h) rfl hS ?_
            refine D.no 14 rfl (by kernel_rfl) (fun _ _ _ h => h) rfl hS ?_
            refine D.va 15 rfl (by kernel_rfl) (fun _ _ _ h => h) rfl (fun w' hw => X.pickF rfl (by conv => lhs; whnf)) hS ?_
            refine D.va 16 rfl (by kernel_rfl) (fun _ _ _ h => h) rfl (fun w' hw => X.assign (by conv => lhs; whnf)) hS ?_
            refine D.done (by kernel_rfl) ?_
            replace hkqa := hkqa.ext hS
            replace hkba := hkba.ext hS
            refine J.region ?_
            refine L.va rfl (X.move (by conv => lhs; whnf)) ?_
            refine L.va rfl (X.add rfl rfl (by omega)) ?_
            refine L.va rfl (X.assign (by conv => lhs; whnf)) ?_
            refine L.nil ?_
            refine ⟨(k + 1, false), At2 (by first | rfl | exact at_int rfl (by omega) | exact at_slice rfl (by omega) | exact at_int rfl (by simp)) (by first | rfl | exact at_int rfl (by omega) | exact at_slice rfl (by omega) | exact at_int rfl (by simp)), (by (iterate 24 refine Agr.lk rfl ?_); exact Agr.lk rfl (Agr.hav rfl Agr.rfl')), ?_⟩
            refine ⟨⟨by omega, ⟨fun h => (by cases h), fun h => ?_⟩, hea.trans hS⟩, by show i - (k + 1) < i - k; omega⟩
            exact hb.2 (fun j hj => h j (by omega))
          · refine J.draw (ℓ := 1000000) (S := Ext wa) mixed (fun wb hS hS_h => ?_)
            refine D.va 0 rfl (by kernel_rfl) (fun _ _ _ h => h) rfl (fun w' hw => X.move (by conv => lhs; whnf)) hS ?_
            refine D.va 1 rfl (by kernel_rfl) (fun _ _ _ h => h) rfl (fun w' hw => X.move (by conv => lhs; whnf)) hS ?_
            refine D.caseBT (k := 29) rfl (by rfl) ?_
            refine D.va 2 rfl (by kernel_rfl) (fun _ _ _ h => h) rfl (fun w' hw => X.fieldAddr rfl Try.underlying54 rfl sz_22 (by decide)) hS ?_
            refine D.va 3 rfl (by kernel_rfl) (fun _ _ _ h => h) rfl (fun w' hw => X.load rfl sc_22 (by first | exact Ld.blk (hkqa.ext hw) rfl | exact Ld.blk (hkba.ext hw) rfl | exact hAk | exact Ld.flat2 oV_len (hqa.o.ext hw) hgk (r := 0) rfl | exact Ld.flat2 oV_len (hqa.o.ext hw) hgt (r := 0) rfl)) hS ?_
            refine D.va 4 rfl (by kernel_rfl) (fun _ _ _ h => h) rfl (fun w' hw => X.move (by conv => lhs; whnf)) hS ?_
            refine D.va 5 rfl (by kernel_rfl) (fun _ _ _ h => h) rfl (fun w' hw => (by first | exact X.indexAddrn rfl rfl Try.underlying22 sz_98 (by first | exact Option.some_ne_none _ | exact hAk) (by omega) | exact X.indexAddr rfl rfl Try.underlying22 sz_98 (by first | exact Option.some_ne_none _ | exact hAk) (by omega))) hS ?_
            refine D.va 6 rfl (by kernel_rfl) (fun _ _ _ h => h) rfl (fun w' hw => X.fieldP rfl Try.underlying98 rfl sz_3 (by decide) (by first | exact Option.some_ne_none _ | exact hAk)) hS ?_
            refine D.va 7 rfl (by kernel_rfl) (fun _ _ _ h => h) rfl (fun w' hw => X.load rfl sc_3 (by first | exact Ld.blk (hkqa.ext hw) rfl | exact Ld.blk (hkba.ext hw) rfl | exact hAk | exact Ld.flat2 oV_len (hqa.o.ext hw) hgk (r := 0) rfl | exact Ld.flat2 oV_len (hqa.o.ext hw) hgt (r := 0) rfl)) hS ?_
            refine D.va 8 rfl (by kernel_rfl) (fun _ _ _ h => h) rfl (fun w' hw => X.fieldAddr rfl Try.underlying54 rfl sz_22 (by decide)) hS ?_
            refine D.va 9 rfl (by kernel_rfl) (fun _ _ _ h => h) rfl (fun w' hw => X.load rfl sc_22 (by first | exact Ld.blk (hkqa.ext hw) rfl | exact Ld.blk (hkba.ext hw) rfl | exact hAk | exact Ld.flat2 oV_len (hqa.o.ext hw) hgk (r := 0) rfl | exact Ld.flat2 oV_len (hqa.o.ext hw) hgt (r := 0) rfl)) hS ?_
            refine D.va 10 rfl (by kernel_rfl) (fun _ _ _ h => h) rfl (fun w' hw => X.move (by conv => lhs; whnf)) hS ?_
            refine D.va 11 rfl (by kernel_rfl) (fun _ _ _ h => h) rfl (fun w' hw => (by first | exact X.indexAddrn rfl rfl Try.underlying22 sz_98 (by first | exact Option.some_ne_none _ | exact hAk) (by omega) | exact X.indexAddr rfl rfl Try.underlying22 sz_98 (by first | exact Option.some_ne_none _ | exact hAk) (by omega))) hS ?_
            refine D.va 12 rfl (by kernel_rfl) (fun _ _ _ h => h) rfl (fun w' hw => X.fieldP rfl Try.underlying98 rfl sz_3 (by decide) (by first | exact Option.some_ne_none _ | exact hAk)) hS ?_
            refine D.va 13 rfl (by kernel_rfl) (fun _ _ _ h => h) rfl (fun w' hw => X.load rfl sc_3 (by first | exact Ld.blk (hkqa.ext hw) rfl | exact Ld.blk (hkba.ext hw) rfl | exact hAk | exact Ld.flat2 oV_len (hqa.o.ext hw) hgk (r := 0) rfl | exact Ld.flat2 oV_len (hqa.o.ext hw) hgt (r := 0) rfl)) hS ?_
            refine D.va 14 rfl (by kernel_rfl) (fun _ _ _ h => h) rfl (fun w' hw => X.neq rfl rfl) hS ?_
            refine D.va 15 rfl (by kernel_rfl) (fun _ _ _ h => h) rfl (fun w' hw => X.pickT rfl (by conv => lhs; whnf)) hS ?_
            refine D.va 16 rfl (by kernel_rfl) (fun _ _ _ h => h) rfl (fun w' hw => X.assign (by conv => lhs; whnf)) hS ?_
            refine D.done (by kernel_rfl) ?_
            replace hkqa := hkqa.ext hS
            replace hkba := hkba.ext hS
            refine J.region ?_
            refine L.va rfl (X.move (by conv => lhs; whnf)) ?_
            refine L.va rfl (X.add rfl rfl (by omega)) ?_
            refine L.va rfl (X.assign (by conv => lhs; whnf)) ?_
            refine L.nil ?_
            refine ⟨(k + 1, _), At2 (by first | rfl | exact at_int rfl (by omega) | exact at_slice rfl (by omega) | exact at_int rfl (by simp)) (by first | rfl | exact at_int rfl (by omega) | exact at_slice rfl (by omega) | exact at_int rfl (by simp)), (by (iterate 24 refine Agr.lk rfl ?_); exact Agr.lk rfl (Agr.hav rfl Agr.rfl')), ?_⟩
            refine ⟨⟨by omega, ?_, hea.trans hS⟩, by show i - (k + 1) < i - k; omega⟩
            show (!decide ((q.o.getD k o0).1 = x.1)) = true ↔ _
            rw [show ((!decide ((q.o.getD k o0).1 = x.1)) = true) = ((q.o.getD k o0).1 ≠ x.1) by simp]
            constructor
            · intro h j hj
              rcases Nat.lt_or_ge j k with h' | h'
              · exact hb.1 rfl j h'
              · obtain rfl : j = k := by omega
                exact h
            · intro h
              exact h k (by omega)
        · obtain rfl : i = k := by omega
          have hbb : b = !hasC l x.1 := by
            rw [hcd]
            cases hh : hasC (q.o.take i) x.1
            · refine hb.2 fun j hj e => ?_
              have := hck.2 ⟨j, hj, e⟩
              rw [hh] at this
              cases this
            · obtain ⟨j, hj, e⟩ := hck.1 hh
              cases b
              · rfl
              · exact absurd e (hb.1 rfl j hj)
          have he0a := he9.trans hea
          have hroa := hro.ext hea
          have hfra := hfr.ext hea
          have hkta := hkt.ext hea
          have za := hea.le
          refine J.exit ?_
          refine J.seq ?_
          refine J.region ?_
          refine L.va rfl (X.move (by conv => lhs; whnf)) ?_
          refine L.nil ?_
          cases hh : hasC l x.1
          · rw [hh] at hbb
            subst hbb
            refine J.iteT rfl ?_
            refine J.draw (ℓ := 10) (S := (fun w' => Ext w w' ∧ Blk w' b4 54 #[.int .u32 (q.g : Int), r.val, .slice q.Ac q.nc q.cc, .slice A2 n2 c2, .int .i64 q.m] ∧ Blk w' b2 54 q.vs.toArray)) mixed (fun wb hSE hS_h => ?_)
            have hS : ((fun w' => Ext w w' ∧ Blk w' b4 54 #[.int .u32 (q.g : Int), r.val, .slice q.Ac q.nc q.cc, .slice A2 n2 c2, .int .i64 q.m] ∧ Blk w' b2 54 q.vs.toArray)) wb := ⟨he0a.trans hSE, hkqa.ext hSE, hkba.ext hSE⟩
            refine D.va 0 rfl (by kernel_rfl) (fun _ _ _ h => h) rfl (fun w' hw => X.fieldAddr rfl Try.underlying54 rfl sz_22 (by decide)) hS ?_
            refine D.va 1 rfl (by kernel_rfl) (fun _ _ _ h => h) rfl (fun w' hw => X.load rfl sc_22 (by first | exact hA | exact Ld.blk hw.2.1 rfl | exact Ld.blk hw.2.2 rfl)) hS ?_
            refine D.va 2 rfl (by kernel_rfl) (fun _ _ _ h => h) rfl (fun w' hw => X.fieldAddr rfl Try.underlying54 rfl sz_22 (by decide)) hS ?_
            refine D.va 3 rfl (by kernel_rfl) (fun _ _ _ h => h) rfl (fun w' hw => X.load rfl sc_22 (by first | exact hA | exact Ld.blk hw.2.1 rfl | exact Ld.blk hw.2.2 rfl)) hS ?_
            refine D.va 4 rfl (by kernel_rfl) (fun _ _ _ h => h) rfl (fun w' hw => X.move (by conv => lhs; whnf)) hS ?_
            refine D.va 5 rfl (by kernel_rfl) (fun _ _ _ h => h) rfl (fun w' hw => (by first | exact X.indexAddrn rfl rfl Try.underlying22 sz_98 (by first | exact Option.some_ne_none _ | exact hA) (by omega) | exact X.indexAddr rfl rfl Try.underlying22 sz_98 (by first | exact Option.some_ne_none _ | exact hA) (by omega))) hS ?_
            refine D.va 6 rfl (by kernel_rfl) (fun _ _ _ h => h) rfl (fun w' hw => X.loadRow (cs := oV x) rfl (hq.ext hw.1).o (fun r u hu => flat_row oV_len hgt r u hu) (Nat.zero_lt_succ _) Try.underlying98 rfl (by kernel_rfl)) hS ?_
            refine D.one 7 (by kernel_rfl) rfl ?_
            refine L.bslice1 (l := [_, _]) rfl rfl rfl Try.underlying22 sz_98 zr_98 rfl ?_
            intro bc wc hbc hsc hkc hec
            have hS1 := And.intro (hS.1.trans hec) (And.intro (hS.2.1.ext hec) (hS.2.2.ext hec))
            refine L.nil ?_
            refine ⟨fun _ => hS1, ?_⟩
            have heac := hSE.trans hec
            have hrc := hroa.ext heac
            have zc := heac.le
            have hkqc := hkqa.ext heac
            have hkbc := hkba.ext heac
            have he0c := he0a.trans heac
            have hones : ((oV x).all (·.oneCell')) = true := rfl
            refine D.one 8 (by kernel_rfl) rfl ?_
            refine L.appendV (q := n2 + 1) (ys := l.flatMap oV ++ oV x) rfl rfl rfl Try.underlying22 el_98 (hrc) (blk_readsN (sz := 2) (q := 1) (l := oV x) hkc hkc.lt rfl) (by first | rfl | exact strs_ones _ | assumption) (by omega) (by simp) (by unfold maxLen; omega) (by omega) ?_
            intro A3 c3 wd hod hgd hbd hord
            have hS2 := And.intro (he0c.grw hgd (fun g hg ↦ by have := (own_ofT hrc hg).2; omega)) (And.intro ((TCh.row hrc hgd).blk hkqc (by decide)) ((TCh.row hrc hgd).blk hkbc (by decide)))
            refine L.nil ?_
            refine ⟨fun _ => hS2, ?_⟩
            have hTd := TCh.row hrc hgd
            have hkqd := hTd.blk hkqc (by decide)
            have hkbd := hTd.blk hkbc (by decide)
            have hfrd := (hfra.ext heac).tch hTd (by decide) (by decide)
            have zd := hTd.size
            have he0d : Ext w wd := he0c.grw hgd (fun g hg => by have := (own_ofT hrc hg).2; omega)
            have hktd := hTd.blk (hkta.ext heac) (by decide)
            refine D.va 9 rfl (by kernel_rfl) (fun _ _ _ h => h) rfl (fun w' hw => X.fieldAddr rfl Try.underlying54 rfl sz_22 (by decide)) hS2 ?_
            refine D.one 10 (by kernel_rfl) rfl ?_
            refine L.store rfl rfl (by conv => lhs; whnf) rfl sz_22 (hkqd) (by first | decide | exact Nat.le_of_ble_eq_true rfl) ?_
            intro we hke hge hse
            refine L.nil ?_
            refine ⟨fun h => absurd rfl h, ?_⟩
            have hTe := TCh.put hkqd hge
            have hke : Blk we b4 54 #[.int .u32 (q.g : Int), r.val, .slice q.Ac q.nc q.cc, .slice A3 (n2 + 1) c3, .int .i64 q.m] := hke
            have ze := hTe.size
            refine D.done (by kernel_rfl) ?_
            refine J.region ?_
            refine L.va rfl (X.move (by conv => lhs; whnf)) ?_
            refine L.va rfl (X.add rfl rfl (by omega)) ?_
            refine L.va rfl (X.assign (by conv => lhs; whnf)) ?_
            refine L.nil ?_
            refine ⟨(i + 1, A3, n2 + 1, c3, l ++ [x]), At1 (by first | rfl | exact at_int rfl (by omega) | exact at_slice rfl (by omega) | exact at_int rfl (by simp)), (by (iterate 17 refine Agr.lk rfl ?_); refine Agr.lk rfl ?_; refine Agr.hav rfl ?_; (iterate 7 refine Agr.lk rfl ?_); exact Agr.lk rfl (Agr.hav rfl Agr.rfl')), ?_⟩
            refine ⟨⟨by omega, ?_, by simp [hn2], by omega, hTe.own (by simpa using hod) (by decide), hke, hfrd.tch hTe (by decide) (by decide), hkbd.grown hge (by intro e; injection e with e; exact hd42 e), hktd.grown hge (by intro e; injection e with e; exact hd43 e), by omega, he0d.grw hge (by intro g hg; injection hg with hg; omega)⟩, by show q.no - (i + 1) < q.no - i; omega⟩
            rw [hnx]; unfold ddS; rw [hh]; rfl
          · rw [hh] at hbb
            subst hbb
            refine J.iteF rfl ?_
            refine J.skip ?_
            refine J.region ?_
            refine L.va rfl (X.move (by conv => lhs; whnf)) ?_
            refine L.va rfl (X.add rfl rfl (by omega)) ?_
            refine L.va rfl (X.assign (by conv => lhs; whnf)) ?_
            refine L.nil ?_
            refine ⟨(i + 1, A2, n2, c2, l), At1 (by first | rfl | exact at_int rfl (by omega) | exact at_slice rfl (by omega) | exact at_int rfl (by simp)), (by (iterate 7 refine Agr.lk rfl ?_); refine Agr.lk rfl ?_; refine Agr.hav rfl ?_; (iterate 7 refine Agr.lk rfl ?_); exact Agr.lk rfl (Agr.hav rfl Agr.rfl')), ?_⟩
            refine ⟨⟨by omega, ?_, hn2, by omega, hroa, hkqa, hfra, hkba, hkta, by omega, he0a⟩, by show q.no - (i + 1) < q.no - i; omega⟩
            rw [hnx]; unfold ddS; rw [hh]; rfl
    · have e : q.o.take i = q.o := List.take_of_length_le (by omega)
      rw [e] at hl
      refine J.exit ?_
      refine J.seq ?_
      refine J.region ?_
      refine L.va rfl ((by first | exact X.loadAgg rfl (range_l hkq) Try.underlying54 rfl (by kernel_rfl) | exact X.loadAgg rfl (range_blk hkq) Try.underlying54 rfl (by kernel_rfl))) ?_
      refine L.storeAgg (vs := [_, _, _, _, _]) rfl rfl rfl rfl sz_54 (hkt) rfl ?_
      intro wa hka hga hsa
      have hT := TCh.put hkt hga
      refine L.nil ?_
      refine J.ret ?_
      refine finC rfl (run_cell hka Try.underlying54 rfl (by kernel_rfl)) ?_
      have hro9 := hT.own hro (by decide)
      have hfr9 := hfr.tch hT (by decide) (by decide)
      have hea : Ext w wa := he9.grw hga (by intro g hg; injection hg with hg; omega)
      refine ⟨⟨q.g, r, q.Ac, q.nc, q.cc, q.c, A2, n2, c2, l, q.m⟩, rfl, ⟨hq.g, hfr9.at, (hq.ext hea |>.more hea.le).c, lc, hq.mc, Reads.of_own hro9, hn2.symm, own_max hro9⟩, ⟨rfl, rfl, rfl, hl, hrk⟩, hea⟩
end Go.Proofs.Ytlipeplfjkgamaa
namespace Go.Proofs.Ytlipeplfjkgamaa
set_option maxRecDepth 100000
open Go.RowKit H
open Nrm (nrm)
set_option linter.unusedVariables false
theorem nrm_ok {s : Sch} {f r : Fis} (K : FOk s f) (hl : r.l.length = r.n) (hn : ∀ x, x ∈ r.l → x.l.length = x.n) (hsl : s.ds.length = s.nd) (hk : r.l.map Fi.key = nrm (f.l.map Fi.key) 0 (szs s s.nd)) : fcode s r = 0 := by
  have G := Sch.good K.c
  have hnd := G.1
  refine fcode_ok K.c ?_ fun x hx => ?_
  · have h1 := congrArg List.length hk
    rw [List.length_map] at h1
    have h2 := Nrm.nrm_len (f.l.map Fi.key) (szs s s.nd) 0
    rw [szs_len] at h2
    omega
  · have hm : x.key ∈ nrm (f.l.map Fi.key) 0 (szs s s.nd) := by rw [← hk]; exact List.mem_map_of_mem hx
    obtain ⟨k, hk1, e, hlt⟩ := (Nrm.nrm_mem _ _ _ _).1 hm
    rw [szs_len] at hk1
    rw [Nat.zero_add, szs_at s hk1] at e hlt
    have e1 : x.d = (k : Int) := congrArg Prod.fst e
    have e2 : x.l = Nrm.sel (szN s k) (Nrm.kp (f.l.map Fi.key) k) := congrArg Prod.snd e
    have hbd := szB_at (mono_b (szB_s s.ds) (by omega : k + 1 ≤ s.nd) G.2)
    have hzn : ((szN s k : Nat) : Int) = (s.ds.getD k d0).2 := by unfold szN; omega
    have hxn := hn x hx
    rw [← e2] at hlt
    refine fE_0 (by omega) (by omega) fun i hi => ?_
    unfold cOk
    rw [e1, Int.toNat_natCast, ← hzn]
    have hmem : x.l.getD i 0 ∈ x.l := by
      rw [List.getD, List.getElem?_eq_getElem (by omega)]
      exact List.getElem_mem _
    have := Nrm.mem_sel.1 (e2 ▸ hmem : x.l.getD i 0 ∈ Nrm.sel (szN s k) (Nrm.kp (f.l.map Fi.key) k))
    exact this.1
end Go.Proofs.Ytlipeplfjkgamaa
