/-
  Queries alike: query.Same, the reference's Same.
-/
import Derived.Test.YtlipeplfjkgamaaWQryF
namespace Go.Proofs.Ytlipeplfjkgamaa
set_option maxRecDepth 100000
open Go.RowKit H
set_option linter.unusedVariables false
theorem fil1 {x y : Fi} {w : World} {N : Nat} (hx : x.At N w) (hy : y.At N w) (hN : N ≤ w.heap.size) : Calls Try.prog 106 #[x.val, y.val] w fun e w' => e = .returned (.bool (decide (x.key = y.key))) ∧ Ext w w' := by
  refine enter Try.func106 rfl (by kernel_rfl) ?_
  refine J.seq ?_
  refine J.region ?_
  -- box
  refine L.boxA (l := [_, _]) rfl rfl ?_
  intro b1 w1 hb1 hs1 hk1 he1
  -- box
  refine L.boxA (l := [_, _]) rfl rfl ?_
  intro b2 w2 hb2 hs2 hk2 he2
  have hk12 := hk1.ext he2
  have he := he1.trans he2
  have z2 := he.le
  have hk12 : Blk w2 b1 150 x.vs.toArray := hk12
  have hk2 : Blk w2 b2 150 y.vs.toArray := hk2
  refine L.va rfl (X.assign (by conv => lhs; whnf)) ?_
  refine L.nil ?_
  refine J.seq ?_
  refine J.region ?_
  refine L.va rfl (X.fieldAddr rfl Try.underlying150 rfl sz_3 (by decide)) ?_
  refine L.va rfl (X.load rfl sc_3 (by first | exact Ld.blk hk2 rfl | exact Ld.blk hk12 rfl)) ?_
  refine L.va rfl (X.fieldAddr rfl Try.underlying150 rfl sz_3 (by decide)) ?_
  refine L.va rfl (X.load rfl sc_3 (by first | exact Ld.blk hk2 rfl | exact Ld.blk hk12 rfl)) ?_
  refine L.va rfl (X.eql rfl rfl) ?_
  refine L.va rfl (X.move (by conv => lhs; whnf)) ?_
  -- case t10
  refine L.caseDec (k := 10) rfl (fun hd => ?_) (fun hd => ?_)
  · refine L.va rfl (X.fieldAddr rfl Try.underlying150 rfl sz_23 (by decide)) ?_
    refine L.va rfl (X.load rfl sc_23 (by first | exact Ld.blk hk2 rfl | exact Ld.blk hk12 rfl)) ?_
    refine L.va rfl (X.fieldAddr rfl Try.underlying150 rfl sz_23 (by decide)) ?_
    refine L.va rfl (X.load rfl sc_23 (by first | exact Ld.blk hk2 rfl | exact Ld.blk hk12 rfl)) ?_
    -- callfn slices.Equal[[]int,int]
    refine L.call rfl en_68 rfl (inteq x.A x.n x.c y.A y.n y.c x.l y.l w2 (hx.ext he).r (hy.ext he).r hx.len hy.len hx.m hy.m (by omega)) ?_
    rintro e w3 ⟨rfl, he3⟩
    refine ⟨_, rfl, ?_⟩
    refine L.va rfl (X.pickT rfl (by conv => lhs; whnf)) ?_
    refine L.va rfl (X.assign (by conv => lhs; whnf)) ?_
    refine L.nil ?_
    -- ret
    refine J.ret ?_
    refine fin1 ?_
    have e : decide (x.key = y.key) = decide (x.l = y.l) := by
      by_cases h : x.l = y.l
      · rw [decide_eq_true h]; exact decide_eq_true (by show (x.d, x.l) = (y.d, y.l); rw [hd, h])
      · rw [decide_eq_false h]; exact decide_eq_false (fun e => h (congrArg Prod.snd e))
    rw [e]
    exact ⟨rfl, he.trans he3⟩
  · refine L.no rfl ?_
    refine L.no rfl ?_
    refine L.no rfl ?_
    refine L.no rfl ?_
    refine L.no rfl ?_
    refine L.va rfl (X.pickF rfl (by conv => lhs; whnf)) ?_
    refine L.va rfl (X.assign (by conv => lhs; whnf)) ?_
    refine L.nil ?_
    -- ret
    refine J.ret ?_
    refine fin1 ?_
    rw [show decide (x.key = y.key) = false from decide_eq_false (fun e => hd (congrArg Prod.fst e))]
    exact ⟨rfl, he⟩
theorem fileq {a b : Fis} {w : World} {N : Nat} (ha : a.At N w) (hb : b.At N w) (hN : N ≤ w.heap.size) : Calls Try.prog 105 #[a.val, b.val, .func (.func 106) #[] #[]] w fun e w' => e = .returned (.bool (decide (a.l.map Fi.key = b.l.map Fi.key))) ∧ Ext w w' := by
  have la := ha.l
  have lb := hb.l
  have ma := ha.m
  have mb := hb.m
  unfold maxLen at ma mb
  refine enter Try.func105 rfl (by kernel_rfl) ?_
  refine J.seq ?_
  refine J.region ?_
  refine L.va rfl (X.assign (by conv => lhs; whnf)) ?_
  refine L.nil ?_
  refine J.seq ?_
  refine J.seq ?_
  refine J.region ?_
  refine L.va rfl (X.move (by conv => lhs; whnf)) ?_
  refine L.va rfl (X.len rfl Try.underlying51) ?_
  refine L.va rfl (X.move (by conv => lhs; whnf)) ?_
  refine L.va rfl (X.len rfl Try.underlying51) ?_
  refine L.va rfl (X.neq rfl rfl) ?_
  refine L.nil ?_
  -- cond
  refine J.ndec rfl (fun h1 => ?_) (fun h1 => ?_)
  · have e : decide (a.l.map Fi.key = b.l.map Fi.key) = false := decide_eq_false fun e => by
      have := congrArg List.length e
      rw [List.length_map, List.length_map] at this
      omega
    rw [e]
    refine J.seq ?_
    refine J.region ?_
    refine L.va rfl (X.assign (by conv => lhs; whnf)) ?_
    refine L.nil ?_
    -- ret
    refine J.ret ?_
    refine thn_ret <| ?_
    refine fin1 ?_
    exact ⟨rfl, Ext.refl _⟩
  · refine J.skip ?_
    refine J.seq ?_
    refine J.seq ?_
    refine J.region ?_
    refine L.va rfl (X.move (by conv => lhs; whnf)) ?_
    refine L.va rfl (X.len rfl Try.underlying51) ?_
    refine L.va rfl (X.move (by conv => lhs; whnf)) ?_
    refine L.nil ?_
    refine J.block ?_
    -- loop
    refine J.loop (X := Nat) [6, 7, 8, 9, 17, 18, 19, 20, 21, 22, 23, 24, 25, 26, 27, 28, 29, 30, 31] (fun i => [(17, .int .i64 (i : Int))]) (fun i w' => i ≤ a.n ∧ (∀ j, j < i → (a.l.getD j fi0).key = (b.l.getD j fi0).key) ∧ Ext w w') (fun i => a.n - i) (0) (At1 (by first | rfl | exact at_int rfl (by omega) | exact at_slice rfl (by omega) | exact at_int rfl (by simp))) ?_ ?_
    · exact ⟨Nat.zero_le _, fun j hj => absurd hj (by omega), Ext.refl _⟩
    · rintro i g w3 ⟨hi, hP, he3⟩
      have z3 := he3.le
      have ha3 := ha.ext he3
      have hb3 := hb.ext he3
      refine J.seq ?_
      refine J.region ?_
      refine L.va rfl (X.lss rfl rfl) ?_
      refine L.nil ?_
      refine J.seq ?_
      -- cond
      refine J.dec rfl (fun hlt => ?_) (fun hlt => ?_)
      · have hin : i < a.n := by omega
        have hA := ha3.r.some_ (by omega)
        have hB := hb3.r.some_ (by omega)
        have hbad := keys_no (a := a.l) (b := b.l) (i := i) (by omega) (by omega)
        obtain ⟨x, hx⟩ : ∃ x, x = a.l.getD i fi0 := ⟨_, rfl⟩
        obtain ⟨y, hy⟩ : ∃ y, y = b.l.getD i fi0 := ⟨_, rfl⟩
        have hX := ha3.one hin
        have hY := hb3.one (i := i) (by omega)
        have gx := gtF (l := a.l) (i := i) (by omega)
        have gy := gtF (l := b.l) (i := i) (by omega)
        rw [← hx] at hX gx hbad
        rw [← hy] at hY gy hbad
        -- t21
        refine J.skip ?_
        refine J.seq ?_
        refine J.block ?_
        refine J.seq ?_
        refine J.region ?_
        refine L.va rfl (X.move (by conv => lhs; whnf)) ?_
        refine L.va rfl ((by first | exact X.indexAddrn rfl rfl Try.underlying51 sz_150 (by first | exact Option.some_ne_none _ | exact hA | exact hB) (by omega) | exact X.indexAddr rfl rfl Try.underlying51 sz_150 (by first | exact Option.some_ne_none _ | exact hA | exact hB) (by omega))) ?_
        refine L.va rfl (X.loadRow (cs := x.vs) rfl ha3.r (fun r u hu => flat_row fi_len gx r u hu) (Nat.zero_lt_succ _) Try.underlying150 rfl (by kernel_rfl)) ?_
        -- alloc
        refine L.alloc rfl zr_150 ?_
        intro b4 w4 hb4 hs4 hk4 he4
        refine L.va rfl (X.assign (by conv => lhs; whnf)) ?_
        -- store
        refine L.storeAgg (vs := [_, _]) rfl rfl rfl rfl sz_150 (hk4) rfl ?_
        intro w5 hk5 hg5 hs5
        have he35 : Ext w3 w5 := he4.grw hg5 (by intro g hg; injection hg with hg; omega)
        have hk5 : Blk w5 b4 150 x.vs.toArray := hk5
        have hb5 := hb3.ext he35
        have z5 := he35.le
        -- t25
        refine L.nil ?_
        refine J.seq ?_
        refine J.region ?_
        refine L.va rfl (X.move (by conv => lhs; whnf)) ?_
        refine L.va rfl (X.move (by conv => lhs; whnf)) ?_
        refine L.va rfl ((by first | exact X.indexAddrn rfl rfl Try.underlying51 sz_150 (by first | exact Option.some_ne_none _ | exact hA | exact hB) (by omega) | exact X.indexAddr rfl rfl Try.underlying51 sz_150 (by first | exact Option.some_ne_none _ | exact hA | exact hB) (by omega))) ?_
        refine L.va rfl (X.loadRow (cs := y.vs) rfl hb5.r (fun r u hu => flat_row fi_len gy r u hu) (Nat.zero_lt_succ _) Try.underlying150 rfl (by kernel_rfl)) ?_
        -- alloc
        refine L.alloc rfl zr_150 ?_
        intro b6 w6 hb6 hs6 hk6 he6
        -- store
        refine L.storeAgg (vs := [_, _]) rfl rfl rfl rfl sz_150 (hk6) rfl ?_
        intro w7 hk7 hg7 hs7
        have he57 : Ext w5 w7 := he6.grw hg7 (by intro g hg; injection hg with hg; omega)
        have hk7 : Blk w7 b6 150 y.vs.toArray := hk7
        have hk57 := hk5.ext he57
        have he37 := he35.trans he57
        have z7 := he37.le
        refine L.nil ?_
        refine J.seq ?_
        refine J.region ?_
        refine L.va rfl (X.move (by conv => lhs; whnf)) ?_
        refine L.va rfl ((by first | exact X.loadAgg rfl (range_l hk7) Try.underlying150 rfl (by kernel_rfl) | exact X.loadAgg rfl (range_blk hk7) Try.underlying150 rfl (by kernel_rfl) | exact X.loadAgg rfl (range_l hk57) Try.underlying150 rfl (by kernel_rfl) | exact X.loadAgg rfl (range_blk hk57) Try.underlying150 rfl (by kernel_rfl))) ?_
        refine L.va rfl ((by first | exact X.loadAgg rfl (range_l hk7) Try.underlying150 rfl (by kernel_rfl) | exact X.loadAgg rfl (range_blk hk7) Try.underlying150 rfl (by kernel_rfl) | exact X.loadAgg rfl (range_l hk57) Try.underlying150 rfl (by kernel_rfl) | exact X.loadAgg rfl (range_blk hk57) Try.underlying150 rfl (by kernel_rfl))) ?_
        -- callval
        refine L.callV rfl en_106 rfl rfl (fil1 (hX.ext he37) (hY.ext he37) (by omega)) ?_
        rintro e w8 ⟨rfl, he8⟩
        refine ⟨_, rfl, ?_⟩
        have he38 := he37.trans he8
        refine L.va rfl (X.not rfl) ?_
        refine L.nil ?_
        -- cond
        by_cases hk : x.key = y.key
        · rw [decide_eq_true hk]
          refine J.iteF rfl ?_
          refine J.skip ?_
          refine J.region ?_
          refine L.va rfl (X.add rfl rfl (by omega)) ?_
          refine L.va rfl (X.move (by conv => lhs; whnf)) ?_
          refine L.nil ?_
          -- loopend
          refine ⟨i + 1, At1 (by first | rfl | exact at_int rfl (by omega) | exact at_slice rfl (by omega) | exact at_int rfl (by simp)), (by (iterate 18 refine Agr.lk rfl ?_); exact Agr.lk rfl (Agr.hav rfl Agr.rfl')), ?_⟩
          refine ⟨⟨by omega, fun j hj => ?_, he3.trans he38⟩, by omega⟩
          rcases Nat.lt_or_ge j i with h | h
          · exact hP j h
          · obtain rfl : j = i := by omega
            rw [← hx, ← hy]; exact hk
        · rw [decide_eq_false hk]
          refine J.iteT rfl ?_
          rw [hbad hk]
          refine J.seq ?_
          refine J.region ?_
          refine L.va rfl (X.assign (by conv => lhs; whnf)) ?_
          refine L.nil ?_
          -- ret
          refine J.ret ?_
          refine inB_ret <|  thn_ret <|  thn_ret <|  inB_ret <|  thn_ret <| ?_
          refine fin1 ?_
          exact ⟨rfl, he3.trans he38⟩
      · rw [keys_all (by omega) (fun j hj => hP j (by omega))]
        refine J.exit ?_
        refine J.seq ?_
        refine J.region ?_
        refine L.va rfl (X.assign (by conv => lhs; whnf)) ?_
        refine L.nil ?_
        -- ret
        refine J.ret ?_
        refine fin1 ?_
        exact ⟨rfl, he3⟩
/-- what a query says -/
structure Qu.Eqv (a b : Qu) : Prop where
  g : a.g = b.g
  m : a.m = b.m
  c : a.c = b.c
  o : a.o = b.o
  f : a.f.l.map Fi.key = b.f.l.map Fi.key
instance (a b : Qu) : Decidable (a.Eqv b) := decidable_of_iff (a.g = b.g ∧ a.m = b.m ∧ a.c = b.c ∧ a.o = b.o ∧ a.f.l.map Fi.key = b.f.l.map Fi.key) ⟨fun ⟨h1, h2, h3, h4, h5⟩ => ⟨h1, h2, h3, h4, h5⟩, fun h => ⟨h.g, h.m, h.c, h.o, h.f⟩⟩
theorem qsame {a b : Qu} {w : World} (ha : a.At w.heap.size w) (hb : b.At w.heap.size w) : Calls Try.prog 39 #[a.val, b.val] w fun e w' => e = .returned (.bool (decide (a.Eqv b))) ∧ Ext w w' := by
  have z0 : (a.g : Int) = (b.g : Int) ↔ a.g = b.g := by omega
  refine enter Try.func39 rfl (by kernel_rfl) ?_
  refine J.seq ?_
  refine J.region ?_
  -- box
  refine L.boxA (l := [_, _, _, _, _]) rfl rfl ?_
  intro b1 w1 hb1 hs1 hk1 he1
  -- box
  refine L.boxA (l := [_, _, _, _, _]) rfl rfl ?_
  intro b2 w2 hb2 hs2 hk2 he2
  have hk12 := hk1.ext he2
  have he := he1.trans he2
  have z2 := he.le
  have hk12 : Blk w2 b1 54 a.vs.toArray := hk12
  have hk2 : Blk w2 b2 54 b.vs.toArray := hk2
  have ha2 := ha.ext he
  have hb2 := hb.ext he
  refine L.va rfl (X.assign (by conv => lhs; whnf)) ?_
  refine L.nil ?_
  refine J.seq ?_
  refine J.region ?_
  refine L.va rfl (X.fieldAddr rfl Try.underlying54 rfl sz_50 (by decide)) ?_
  refine L.va rfl (X.load rfl sc_50 (by first | exact Ld.blk hk2 rfl | exact Ld.blk hk12 rfl)) ?_
  refine L.va rfl (X.fieldAddr rfl Try.underlying54 rfl sz_50 (by decide)) ?_
  refine L.va rfl (X.load rfl sc_50 (by first | exact Ld.blk hk2 rfl | exact Ld.blk hk12 rfl)) ?_
  refine L.va rfl (X.eql rfl rfl) ?_
  refine L.va rfl (X.move (by conv => lhs; whnf)) ?_
  -- case t10
  refine L.caseDec (k := 10) rfl (fun h1 => ?_) (fun h1 => ?_)
  · refine L.va rfl (X.fieldAddr rfl Try.underlying54 rfl sz_3 (by decide)) ?_
    refine L.va rfl (X.load rfl sc_3 (by first | exact Ld.blk hk2 rfl | exact Ld.blk hk12 rfl)) ?_
    refine L.va rfl (X.fieldAddr rfl Try.underlying54 rfl sz_3 (by decide)) ?_
    refine L.va rfl (X.load rfl sc_3 (by first | exact Ld.blk hk2 rfl | exact Ld.blk hk12 rfl)) ?_
    refine L.va rfl (X.eql rfl rfl) ?_
    refine L.va rfl (X.pickT rfl (by conv => lhs; whnf)) ?_
    refine L.va rfl (X.move (by conv => lhs; whnf)) ?_
    -- case t17
    refine L.caseDec (k := 17) rfl (fun h2 => ?_) (fun h2 => ?_)
    · refine L.va rfl (X.fieldAddr rfl Try.underlying54 rfl sz_52 (by decide)) ?_
      refine L.va rfl (X.load rfl sc_52 (by first | exact Ld.blk hk2 rfl | exact Ld.blk hk12 rfl)) ?_
      refine L.va rfl (X.fieldAddr rfl Try.underlying54 rfl sz_52 (by decide)) ?_
      refine L.va rfl (X.load rfl sc_52 (by first | exact Ld.blk hk2 rfl | exact Ld.blk hk12 rfl)) ?_
      -- callfn slices.Equal[[]bushel/api.Col,bushel/api.Col]
      refine L.call rfl en_103 rfl (coleq a.Ac a.nc a.cc b.Ac b.nc b.cc a.c b.c w2 ha2.c hb2.c ha.lc hb.lc ha.mc hb.mc z2) ?_
      rintro e w3 ⟨rfl, he3⟩
      refine ⟨_, rfl, ?_⟩
      have he03 := he.trans he3
      have z3 := he03.le
      replace hk2 := hk2.ext he3
      replace hk12 := hk12.ext he3
      refine L.va rfl (X.pickT rfl (by conv => lhs; whnf)) ?_
      refine L.va rfl (X.move (by conv => lhs; whnf)) ?_
      -- case t24
      by_cases h3 : a.c = b.c
      · rw [decide_eq_true h3]
        refine L.caseBT (k := 24) rfl (by rfl) ?_
        refine L.va rfl (X.fieldAddr rfl Try.underlying54 rfl sz_22 (by decide)) ?_
        refine L.va rfl (X.load rfl sc_22 (by first | exact Ld.blk hk2 rfl | exact Ld.blk hk12 rfl)) ?_
        refine L.va rfl (X.fieldAddr rfl Try.underlying54 rfl sz_22 (by decide)) ?_
        refine L.va rfl (X.load rfl sc_22 (by first | exact Ld.blk hk2 rfl | exact Ld.blk hk12 rfl)) ?_
        -- callfn slices.Equal[[]bushel/api.Sort,bushel/api.Sort]
        refine L.call rfl en_104 rfl (srteq a.Ao a.no a.co b.Ao b.no b.co a.o b.o w3 (ha.ext he03).o (hb.ext he03).o ha.lo hb.lo ha.mo hb.mo z3) ?_
        rintro e w4 ⟨rfl, he4⟩
        refine ⟨_, rfl, ?_⟩
        have he04 := he03.trans he4
        have z4 := he04.le
        replace hk2 := hk2.ext he4
        replace hk12 := hk12.ext he4
        refine L.va rfl (X.pickT rfl (by conv => lhs; whnf)) ?_
        refine L.va rfl (X.move (by conv => lhs; whnf)) ?_
        -- case t31
        by_cases h4 : a.o = b.o
        · rw [decide_eq_true h4]
          refine L.caseBT (k := 31) rfl (by rfl) ?_
          refine L.va rfl (X.fieldAddr rfl Try.underlying54 rfl sz_51 (by decide)) ?_
          refine L.va rfl (X.load rfl sc_51 (by first | exact Ld.blk hk2 rfl | exact Ld.blk hk12 rfl)) ?_
          refine L.va rfl (X.fieldAddr rfl Try.underlying54 rfl sz_51 (by decide)) ?_
          refine L.va rfl (X.load rfl sc_51 (by first | exact Ld.blk hk2 rfl | exact Ld.blk hk12 rfl)) ?_
          -- callfn slices.EqualFunc[[]bushel/api.Filter,[]bushel/api.Filter,bushel/api.Filter,bushel/api.Filter]
          refine L.call rfl en_105 rfl (fileq (ha.f.ext he04) (hb.f.ext he04) z4) ?_
          rintro e w5 ⟨rfl, he5⟩
          refine ⟨_, rfl, ?_⟩
          refine L.va rfl (X.pickT rfl (by conv => lhs; whnf)) ?_
          refine L.va rfl (X.assign (by conv => lhs; whnf)) ?_
          refine L.nil ?_
          -- ret
          refine J.ret ?_
          refine fin1 ?_
          have e : decide (a.Eqv b) = decide (a.f.l.map Fi.key = b.f.l.map Fi.key) := by
            by_cases h : a.f.l.map Fi.key = b.f.l.map Fi.key
            · rw [decide_eq_true h]
              exact decide_eq_true ⟨z0.1 h1, h2, h3, h4, h⟩
            · rw [decide_eq_false h]
              exact decide_eq_false (fun e => h e.f)
          rw [e]
          exact ⟨rfl, he04.trans he5⟩
        · rw [decide_eq_false h4]
          refine L.caseBF (k := 31) rfl (by rfl) ?_
          refine L.no rfl ?_
          refine L.no rfl ?_
          refine L.no rfl ?_
          refine L.no rfl ?_
          refine L.no rfl ?_
          refine L.va rfl (X.pickF rfl (by conv => lhs; whnf)) ?_
          refine L.va rfl (X.assign (by conv => lhs; whnf)) ?_
          refine L.nil ?_
          -- ret
          refine J.ret ?_
          refine fin1 ?_
          rw [show decide (a.Eqv b) = false from decide_eq_false (fun e => h4 e.o)]
          exact ⟨rfl, he04⟩
      · rw [decide_eq_false h3]
        refine L.caseBF (k := 24) rfl (by rfl) ?_
        refine L.no rfl ?_
        refine L.no rfl ?_
        refine L.no rfl ?_
        refine L.no rfl ?_
        refine L.no rfl ?_
        refine L.va rfl (X.pickF rfl (by conv => lhs; whnf)) ?_
        refine L.va rfl (X.move (by conv => lhs; whnf)) ?_
        refine L.no rfl ?_
        refine L.no rfl ?_
        refine L.no rfl ?_
        refine L.no rfl ?_
        refine L.no rfl ?_
        refine L.va rfl (X.pickF rfl (by conv => lhs; whnf)) ?_
        refine L.va rfl (X.assign (by conv => lhs; whnf)) ?_
        refine L.nil ?_
        -- ret
        refine J.ret ?_
        refine fin1 ?_
        rw [show decide (a.Eqv b) = false from decide_eq_false (fun e => h3 e.c)]
        exact ⟨rfl, he03⟩
    · refine L.no rfl ?_
      refine L.no rfl ?_
      refine L.no rfl ?_
      refine L.no rfl ?_
      refine L.no rfl ?_
      refine L.va rfl (X.pickF rfl (by conv => lhs; whnf)) ?_
      refine L.va rfl (X.move (by conv => lhs; whnf)) ?_
      refine L.no rfl ?_
      refine L.no rfl ?_
      refine L.no rfl ?_
      refine L.no rfl ?_
      refine L.no rfl ?_
      refine L.va rfl (X.pickF rfl (by conv => lhs; whnf)) ?_
      refine L.va rfl (X.move (by conv => lhs; whnf)) ?_
      refine L.no rfl ?_
      refine L.no rfl ?_
      refine L.no rfl ?_
      refine L.no rfl ?_
      refine L.no rfl ?_
      refine L.va rfl (X.pickF rfl (by conv => lhs; whnf)) ?_
      refine L.va rfl (X.assign (by conv => lhs; whnf)) ?_
      refine L.nil ?_
      -- ret
      refine J.ret ?_
      refine fin1 ?_
      rw [show decide (a.Eqv b) = false from decide_eq_false (fun e => h2 e.m)]
      exact ⟨rfl, he⟩
  · refine L.no rfl ?_
    refine L.no rfl ?_
    refine L.no rfl ?_
    refine L.no rfl ?_
    refine L.no rfl ?_
    refine L.va rfl (X.pickF rfl (by conv => lhs; whnf)) ?_
    refine L.va rfl (X.move (by conv => lhs; whnf)) ?_
    refine L.no rfl ?_
    refine L.no rfl ?_
    refine L.no rfl ?_
    refine L.no rfl ?_
    refine L.no rfl ?_
    refine L.va rfl (X.pickF rfl (by conv => lhs; whnf)) ?_
    refine L.va rfl (X.move (by conv => lhs; whnf)) ?_
    refine L.no rfl ?_
    refine L.no rfl ?_
    refine L.no rfl ?_
    refine L.no rfl ?_
    refine L.no rfl ?_
    refine L.va rfl (X.pickF rfl (by conv => lhs; whnf)) ?_
    refine L.va rfl (X.move (by conv => lhs; whnf)) ?_
    refine L.no rfl ?_
    refine L.no rfl ?_
    refine L.no rfl ?_
    refine L.no rfl ?_
    refine L.no rfl ?_
    refine L.va rfl (X.pickF rfl (by conv => lhs; whnf)) ?_
    refine L.va rfl (X.assign (by conv => lhs; whnf)) ?_
    refine L.nil ?_
    -- ret
    refine J.ret ?_
    refine fin1 ?_
    rw [show decide (a.Eqv b) = false from decide_eq_false (fun e => h1 (z0.2 e.g))]
    exact ⟨rfl, he⟩
end Go.Proofs.Ytlipeplfjkgamaa
