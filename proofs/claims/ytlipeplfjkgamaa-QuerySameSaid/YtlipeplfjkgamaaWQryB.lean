/-
  Queries: in memory; why one may not be, in the program and in the reference.
-/
import Derived.Test.YtlipeplfjkgamaaWQryA
namespace Go.Proofs.Ytlipeplfjkgamaa
set_option maxRecDepth 100000
open Go.RowKit H
set_option linter.unusedVariables false
abbrev oV (x : Int × Bool) : List Value := [.int .i64 x.1, .bool x.2]
theorem cV_len (x : Int × Int) : (cV x).length = 2 := rfl
theorem oV_len (x : Int × Bool) : (oV x).length = 2 := rfl
def c0 : Int × Int := (0, 0)
def o0 : Int × Bool := (0, false)
theorem gtC {l : List (Int × Int)} {i : Nat} (h : i < l.length) : l[i]? = some (l.getD i c0) := by rw [List.getD, List.getElem?_eq_getElem h]; rfl
theorem gtO {l : List (Int × Bool)} {i : Nat} (h : i < l.length) : l[i]? = some (l.getD i o0) := by rw [List.getD, List.getElem?_eq_getElem h]; rfl
/-- a query -/
structure Qu where
  (g : Nat) (f : Fis) (Ac : Option Addr) (nc cc : Nat) (c : List (Int × Int)) (Ao : Option Addr) (no co : Nat) (o : List (Int × Bool)) (m : Int)
namespace Qu
abbrev vs (q : Qu) : List Value := [.int .u32 (q.g : Int), q.f.val, .slice q.Ac q.nc q.cc, .slice q.Ao q.no q.co, .int .i64 q.m]
abbrev val (q : Qu) : Value := .agg q.vs.toArray
structure At (q : Qu) (N : Nat) (w : World) : Prop where
  g : q.g < 4294967296
  f : q.f.At N w
  c : Reads w N 2 q.Ac q.nc (q.c.flatMap cV)
  lc : q.c.length = q.nc
  mc : q.nc ≤ maxLen
  o : Reads w N 2 q.Ao q.no (q.o.flatMap oV)
  lo : q.o.length = q.no
  mo : q.no ≤ maxLen
theorem At.ext {q : Qu} {N : Nat} {w w' : World} (h : q.At N w) (he : Ext w w') : q.At N w' := ⟨h.g, h.f.ext he, h.c.ext he, h.lc, h.mc, h.o.ext he, h.lo, h.mo⟩
theorem At.low {q : Qu} {N B : Nat} {w w' : World} (h : q.At N w) (he : Below B w w') (hB : N ≤ B) : q.At N w' := ⟨h.g, h.f.low he hB, h.c.low he hB, h.lc, h.mc, h.o.low he hB, h.lo, h.mo⟩
theorem At.more {q : Qu} {N N' : Nat} {w : World} (h : q.At N w) (hN : N ≤ N') : q.At N' w := ⟨h.g, h.f.more hN, h.c.more hN, h.lc, h.mc, h.o.more hN, h.lo, h.mo⟩
/-- an order's column may be -/
abbrev oOk (q : Qu) (x : Int × Bool) : Prop := 0 ≤ x.1 ∧ x.1 < (q.nc : Int)
end Qu
/-- why a query may not be -/
def qcode (s : Sch) (q : Qu) : Int :=
  if s.code ≠ 0 then 1 else if ¬ (q.g : Int) ≤ s.F then 11 else if fcode s q.f ≠ 0 then fcode s q.f
  else if q.nc < 1 ∨ 16 < q.nc ∨ 8 < q.no then 3
  else if (∃ i, i < q.nc ∧ ¬ colOk s (q.c.getD i c0)) ∨ (∃ i, i < q.no ∧ ¬ q.oOk (q.o.getD i o0)) ∨ q.m < 0 then 2 else 0
section
variable {s : Sch} {q : Qu}
theorem qc_1 (h : s.code ≠ 0) : qcode s q = 1 := by unfold qcode; rw [if_pos h]
theorem qc_11 (h : s.code = 0) (h2 : ¬ (q.g : Int) ≤ s.F) : qcode s q = 11 := by unfold qcode; rw [if_neg (fun k => k h), if_pos h2]
theorem qc_f (h : s.code = 0) (h2 : (q.g : Int) ≤ s.F) (h3 : fcode s q.f ≠ 0) : qcode s q = fcode s q.f := by unfold qcode; rw [if_neg (fun k => k h), if_neg (fun k => k h2), if_pos h3]
theorem qc_3 (h : s.code = 0) (h2 : (q.g : Int) ≤ s.F) (h3 : fcode s q.f = 0) (h4 : q.nc < 1 ∨ 16 < q.nc ∨ 8 < q.no) : qcode s q = 3 := by unfold qcode; rw [if_neg (fun k => k h), if_neg (fun k => k h2), if_neg (fun k => k h3), if_pos h4]
theorem qc_2 (h : s.code = 0) (h2 : (q.g : Int) ≤ s.F) (h3 : fcode s q.f = 0) (h4 : ¬ (q.nc < 1 ∨ 16 < q.nc ∨ 8 < q.no)) (h5 : (∃ i, i < q.nc ∧ ¬ colOk s (q.c.getD i c0)) ∨ (∃ i, i < q.no ∧ ¬ q.oOk (q.o.getD i o0)) ∨ q.m < 0) : qcode s q = 2 := by
  unfold qcode; rw [if_neg (fun k => k h), if_neg (fun k => k h2), if_neg (fun k => k h3), if_neg h4, if_pos h5]
theorem qc_0 (h : s.code = 0) (h2 : (q.g : Int) ≤ s.F) (h3 : fcode s q.f = 0) (h4 : ¬ (q.nc < 1 ∨ 16 < q.nc ∨ 8 < q.no)) (h5 : ∀ i, i < q.nc → colOk s (q.c.getD i c0)) (h6 : ∀ i, i < q.no → q.oOk (q.o.getD i o0)) (h7 : ¬ q.m < 0) : qcode s q = 0 := by
  unfold qcode; rw [if_neg (fun k => k h), if_neg (fun k => k h2), if_neg (fun k => k h3), if_neg h4, if_neg]
  rintro (⟨i, hi, k⟩ | ⟨i, hi, k⟩ | k)
  · exact k (h5 i hi)
  · exact k (h6 i hi)
  · exact h7 k
theorem qc_ok (h : qcode s q = 0) : s.code = 0 ∧ (q.g : Int) ≤ s.F ∧ fcode s q.f = 0 ∧ ¬ (q.nc < 1 ∨ 16 < q.nc ∨ 8 < q.no) := by
  unfold qcode at h
  split at h
  · cases h
  · rename_i h1
    split at h
    · cases h
    · rename_i h2
      split at h
      · rename_i h3; exact absurd h h3
      · rename_i h3
        split at h
        · cases h
        · rename_i h4
          exact ⟨Decidable.not_not.1 h1, Decidable.not_not.1 h2, Decidable.not_not.1 h3, h4⟩
end
theorem qcheck {s : Sch} {q : Qu} {w : World} (H : s.Here w) (hq : q.At w.heap.size w) : Calls Try.prog 33 #[s.val, q.val] w fun e w' => e = .returned (.int .i64 (qcode s q)) ∧ Ext w w' := by
  have hle := H.hle
  have hg := hq.g
  have lc := hq.lc
  have mc := hq.mc
  have lo := hq.lo
  have mo := hq.mo
  unfold maxLen at mc mo
  refine enter Try.func33 rfl (by kernel_rfl) ?_
  refine J.seq ?_
  refine J.region ?_
  -- box
  refine L.boxA (l := [_, _, _, _]) rfl rfl ?_
  intro b1 w1 hb1 hs1 hk1 he1
  -- box
  refine L.boxA (l := [_, _, _, _, _]) rfl rfl ?_
  intro b2 w2 hb2 hs2 hk2 he2
  have hk12 := hk1.ext he2
  have he02 := he1.trans he2
  have H2 := H.ext he02
  have hk2 : Blk w2 b2 54 q.vs.toArray := hk2
  by_cases hc : s.code = 0
  · refine L.va rfl (X.assign (by conv => lhs; whnf)) ?_
    refine L.nil ?_
    refine J.seq ?_
    refine J.region ?_
    refine L.va rfl ((by first | exact X.loadAgg rfl (range_l hk2) Try.underlying49 rfl (by kernel_rfl) | exact X.loadAgg rfl (range_blk hk2) Try.underlying49 rfl (by kernel_rfl) | exact X.loadAgg rfl (range_l hk12) Try.underlying49 rfl (by kernel_rfl) | exact X.loadAgg rfl (range_blk hk12) Try.underlying49 rfl (by kernel_rfl))) ?_
    -- callfn bushel/schema.Full
    refine L.call rfl en_90 rfl (H2.full_ok hc) ?_
    rintro e w3 ⟨rfl, he3⟩
    refine ⟨_, rfl, ?_⟩
    have he03 := he02.trans he3
    have hF := Sch.F_bd hc
    have hnd := (Sch.good hc).1.2.1
    have hand := Sch.andNot_full (s := s) (m := q.g) hg hnd
    replace hk2 := hk2.ext he3
    replace hk12 := hk12.ext he3
    refine L.va rfl (X.assign (by conv => lhs; whnf)) ?_
    refine L.nil ?_
    refine J.seq ?_
    refine J.seq ?_
    refine J.region ?_
    refine L.va rfl (X.move (by conv => lhs; whnf)) ?_
    refine L.va rfl (X.eql rfl rfl) ?_
    refine L.nil ?_
    -- cond
    refine J.decF rfl (by omega) ?_
    refine J.skip ?_
    refine J.seq ?_
    refine J.seq ?_
    refine J.region ?_
    refine L.va rfl (X.fieldAddr rfl Try.underlying54 rfl sz_50 (by decide)) ?_
    refine L.va rfl (X.load rfl sc_50 (by first | exact Ld.blk hk2 rfl | exact Ld.blk hk12 rfl)) ?_
    refine L.va rfl (X.move (by conv => lhs; whnf)) ?_
    refine L.va rfl (X.andNot rfl rfl) ?_
    refine L.va rfl (X.neq rfl rfl) ?_
    refine L.nil ?_
    -- cond
    refine J.ndec rfl (fun h2 => ?_) (fun h2 => ?_)
    · rw [qc_11 hc (fun h => h2 (hand.2 h))]
      refine J.seq ?_
      refine J.region ?_
      refine L.va rfl (X.assign (by conv => lhs; whnf)) ?_
      refine L.nil ?_
      -- ret
      refine J.ret ?_
      refine thn_ret <| ?_
      refine fin1 ?_
      exact ⟨rfl, he03⟩
    have h2 := hand.1 h2
    have q3 := (hq.ext he03).more he03.le
    refine J.skip ?_
    refine J.seq ?_
    refine J.seq ?_
    refine J.region ?_
    refine L.va rfl ((by first | exact X.loadAgg rfl (range_l hk2) Try.underlying49 rfl (by kernel_rfl) | exact X.loadAgg rfl (range_blk hk2) Try.underlying49 rfl (by kernel_rfl) | exact X.loadAgg rfl (range_l hk12) Try.underlying49 rfl (by kernel_rfl) | exact X.loadAgg rfl (range_blk hk12) Try.underlying49 rfl (by kernel_rfl))) ?_
    refine L.va rfl (X.fieldAddr rfl Try.underlying54 rfl sz_51 (by decide)) ?_
    refine L.va rfl (X.load rfl sc_51 (by first | exact Ld.blk hk2 rfl | exact Ld.blk hk12 rfl)) ?_
    -- callfn bushel/filter.Check
    refine L.call rfl en_91 rfl (fcheck (H.ext he03) q3.f) ?_
    rintro e w4 ⟨rfl, he4⟩
    refine ⟨_, rfl, ?_⟩
    have he04 := he03.trans he4
    replace hk2 := hk2.ext he4
    replace hk12 := hk12.ext he4
    refine L.va rfl (X.assign (by conv => lhs; whnf)) ?_
    refine L.nil ?_
    refine J.seq ?_
    refine J.region ?_
    refine L.va rfl (X.move (by conv => lhs; whnf)) ?_
    refine L.va rfl (X.neq rfl rfl) ?_
    refine L.nil ?_
    -- cond
    refine J.ndec rfl (fun h3 => ?_) (fun h3 => ?_)
    · rw [qc_f hc h2 h3]
      refine J.seq ?_
      refine J.region ?_
      refine L.va rfl (X.move (by conv => lhs; whnf)) ?_
      refine L.va rfl (X.assign (by conv => lhs; whnf)) ?_
      refine L.nil ?_
      -- ret
      refine J.ret ?_
      refine thn_ret <| ?_
      refine fin1 ?_
      exact ⟨rfl, he04⟩
    refine J.skip ?_
    refine J.seq ?_
    refine J.seq ?_
    refine J.region ?_
    refine L.va rfl (X.fieldAddr rfl Try.underlying54 rfl sz_52 (by decide)) ?_
    refine L.va rfl (X.load rfl sc_52 (by first | exact Ld.blk hk2 rfl | exact Ld.blk hk12 rfl)) ?_
    refine L.va rfl (X.len rfl Try.underlying52) ?_
    refine L.va rfl (X.eql rfl rfl) ?_
    refine L.va rfl (X.move (by conv => lhs; whnf)) ?_
    -- case t31
    refine L.caseDec (k := 31) rfl (fun h4 => ?_) (fun h4 => ?_)
    · refine L.no rfl ?_
      refine L.no rfl ?_
      refine L.no rfl ?_
      refine L.no rfl ?_
      refine L.va rfl (X.pickT rfl (by conv => lhs; whnf)) ?_
      refine L.va rfl (X.move (by conv => lhs; whnf)) ?_
      refine L.no rfl ?_
      refine L.no rfl ?_
      refine L.no rfl ?_
      refine L.no rfl ?_
      refine L.va rfl (X.pickT rfl (by conv => lhs; whnf)) ?_
      refine L.nil ?_
      -- cond
      refine J.iteT rfl ?_
      rw [qc_3 hc h2 h3 (by omega)]
      refine J.seq ?_
      refine J.region ?_
      refine L.va rfl (X.assign (by conv => lhs; whnf)) ?_
      refine L.nil ?_
      -- ret
      refine J.ret ?_
      refine thn_ret <| ?_
      refine fin1 ?_
      exact ⟨rfl, he04⟩
    refine L.va rfl (X.fieldAddr rfl Try.underlying54 rfl sz_52 (by decide)) ?_
    refine L.va rfl (X.load rfl sc_52 (by first | exact Ld.blk hk2 rfl | exact Ld.blk hk12 rfl)) ?_
    refine L.va rfl (X.len rfl Try.underlying52) ?_
    refine L.va rfl (X.gtr rfl rfl) ?_
    refine L.va rfl (X.pickF rfl (by conv => lhs; whnf)) ?_
    refine L.va rfl (X.move (by conv => lhs; whnf)) ?_
    -- case t37
    refine L.caseDec (k := 37) rfl (fun h5 => ?_) (fun h5 => ?_)
    · refine L.no rfl ?_
      refine L.no rfl ?_
      refine L.no rfl ?_
      refine L.no rfl ?_
      refine L.va rfl (X.pickT rfl (by conv => lhs; whnf)) ?_
      refine L.nil ?_
      -- cond
      refine J.iteT rfl ?_
      rw [qc_3 hc h2 h3 (by omega)]
      refine J.seq ?_
      refine J.region ?_
      refine L.va rfl (X.assign (by conv => lhs; whnf)) ?_
      refine L.nil ?_
      -- ret
      refine J.ret ?_
      refine thn_ret <| ?_
      refine fin1 ?_
      exact ⟨rfl, he04⟩
    refine L.va rfl (X.fieldAddr rfl Try.underlying54 rfl sz_22 (by decide)) ?_
    refine L.va rfl (X.load rfl sc_22 (by first | exact Ld.blk hk2 rfl | exact Ld.blk hk12 rfl)) ?_
    refine L.va rfl (X.len rfl Try.underlying22) ?_
    refine L.va rfl (X.gtr rfl rfl) ?_
    refine L.va rfl (X.pickF rfl (by conv => lhs; whnf)) ?_
    refine L.nil ?_
    -- cond
    refine J.dec rfl (fun h6 => ?_) (fun h6 => ?_)
    · rw [qc_3 hc h2 h3 (by omega)]
      refine J.seq ?_
      refine J.region ?_
      refine L.va rfl (X.assign (by conv => lhs; whnf)) ?_
      refine L.nil ?_
      -- ret
      refine J.ret ?_
      refine thn_ret <| ?_
      refine fin1 ?_
      exact ⟨rfl, he04⟩
    have H4 := H.ext he04
    have z4 := he04.le
    refine J.skip ?_
    refine J.seq ?_
    refine J.seq ?_
    refine J.region ?_
    refine L.va rfl (X.fieldAddr rfl Try.underlying54 rfl sz_52 (by decide)) ?_
    refine L.va rfl (X.load rfl sc_52 (by first | exact Ld.blk hk2 rfl | exact Ld.blk hk12 rfl)) ?_
    refine L.va rfl (X.len rfl Try.underlying52) ?_
    refine L.va rfl (X.move (by conv => lhs; whnf)) ?_
    refine L.nil ?_
    refine J.block ?_
    -- loop
    refine J.loop (X := Nat) [4, 8, 46, 47, 48, 49, 50, 51, 52, 53, 54] (fun i => [(46, .int .i64 (i : Int))]) (fun i w' => i ≤ q.nc ∧ (∀ j, j < i → colOk s (q.c.getD j c0)) ∧ Ext w4 w') (fun i => q.nc - i) (0) (At1 (by first | rfl | exact at_int rfl (by omega) | exact at_slice rfl (by omega) | exact at_int rfl (by simp))) ?_ ?_
    · exact ⟨Nat.zero_le _, fun j hj => absurd hj (by omega), Ext.refl _⟩
    · rintro i g w5 ⟨hi, hP, he5⟩
      have he05 := he04.trans he5
      have z5 := he5.le
      have hk5 := hk2.ext he5
      have hk15 := hk12.ext he5
      have c5 := hq.c.ext he05
      refine J.seq ?_
      refine J.region ?_
      refine L.va rfl (X.lss rfl rfl) ?_
      refine L.nil ?_
      refine J.seq ?_
      -- cond
      refine J.dec rfl (fun hlt => ?_) (fun hlt => ?_)
      · have hin : i < q.nc := by omega
        have hA := c5.some_ (by omega)
        obtain ⟨k, m, hkm⟩ : ∃ k m, q.c.getD i c0 = (k, m) := ⟨_, _, rfl⟩
        have hgt := gtC (l := q.c) (i := i) (by omega)
        rw [hkm] at hgt
        -- t49
        refine J.skip ?_
        refine J.seq ?_
        refine J.block ?_
        refine J.seq ?_
        refine J.region ?_
        refine L.va rfl ((by first | exact X.indexAddrn rfl rfl Try.underlying52 sz_130 (by first | exact Option.some_ne_none _ | exact hA) (by omega) | exact X.indexAddr rfl rfl Try.underlying52 sz_130 (by first | exact Option.some_ne_none _ | exact hA) (by omega))) ?_
        refine L.va rfl (X.loadRow (cs := cV (k, m)) rfl c5 (fun r u hu => flat_row cV_len hgt r u hu) (Nat.zero_lt_succ _) Try.underlying130 rfl (by kernel_rfl)) ?_
        -- alloc
        refine L.alloc rfl zr_130 ?_
        intro b6 w6 hb6 hs6 hk6 he6
        have hk56 := hk5.ext he6
        have hk156 := hk15.ext he6
        have l56 := hk5.lt
        have l156 := hk15.lt
        -- store
        refine L.storeAgg (vs := [_, _]) rfl rfl rfl rfl sz_130 (hk6) rfl ?_
        intro w7 hk7 hg7 hs7
        have he57 : Ext w5 w7 := he6.grw hg7 (by intro g hg; injection hg with hg; omega)
        have hk7 : Blk w7 b6 130 (cV (k, m)).toArray := hk7
        have hk57 := hk5.ext he57
        have hk157 := hk15.ext he57
        have he07 := he05.trans he57
        refine L.nil ?_
        refine J.seq ?_
        refine J.region ?_
        refine L.va rfl ((by first | exact X.loadAgg rfl (range_l hk7) Try.underlying49 rfl (by kernel_rfl) | exact X.loadAgg rfl (range_blk hk7) Try.underlying49 rfl (by kernel_rfl) | exact X.loadAgg rfl (range_l hk57) Try.underlying49 rfl (by kernel_rfl) | exact X.loadAgg rfl (range_blk hk57) Try.underlying49 rfl (by kernel_rfl) | exact X.loadAgg rfl (range_l hk157) Try.underlying49 rfl (by kernel_rfl) | exact X.loadAgg rfl (range_blk hk157) Try.underlying49 rfl (by kernel_rfl))) ?_
        refine L.va rfl ((by first | exact X.loadAgg rfl (range_l hk7) Try.underlying130 rfl (by kernel_rfl) | exact X.loadAgg rfl (range_blk hk7) Try.underlying130 rfl (by kernel_rfl) | exact X.loadAgg rfl (range_l hk57) Try.underlying130 rfl (by kernel_rfl) | exact X.loadAgg rfl (range_blk hk57) Try.underlying130 rfl (by kernel_rfl) | exact X.loadAgg rfl (range_l hk157) Try.underlying130 rfl (by kernel_rfl) | exact X.loadAgg rfl (range_blk hk157) Try.underlying130 rfl (by kernel_rfl))) ?_
        -- callfn bushel/query.column
        refine L.call rfl en_92 rfl (qcolumn k m (H.ext he07)) ?_
        rintro e w8 ⟨rfl, he8⟩
        refine ⟨_, rfl, ?_⟩
        refine L.va rfl (X.not rfl) ?_
        refine L.nil ?_
        -- cond
        by_cases hok : colOk s (k, m)
        · rw [decide_eq_true hok]
          refine J.iteF rfl ?_
          refine J.skip ?_
          refine J.region ?_
          refine L.va rfl (X.add rfl rfl (by omega)) ?_
          refine L.va rfl (X.move (by conv => lhs; whnf)) ?_
          refine L.nil ?_
          -- loopend
          refine ⟨i + 1, At1 (by first | rfl | exact at_int rfl (by omega) | exact at_slice rfl (by omega) | exact at_int rfl (by simp)), (by (iterate 10 refine Agr.lk rfl ?_); exact Agr.lk rfl (Agr.hav rfl Agr.rfl')), ?_⟩
          refine ⟨⟨by omega, fun j hj => ?_, he5.trans (he57.trans he8)⟩, by omega⟩
          rcases Nat.lt_or_ge j i with h | h
          · exact hP j h
          · obtain rfl : j = i := by omega
            rw [hkm]; exact hok
        · rw [decide_eq_false hok, qc_2 hc h2 h3 (by omega) (.inl ⟨i, hin, by rw [hkm]; exact hok⟩)]
          refine J.iteT rfl ?_
          refine J.seq ?_
          refine J.region ?_
          refine L.va rfl (X.assign (by conv => lhs; whnf)) ?_
          refine L.nil ?_
          -- ret
          refine J.ret ?_
          refine inB_ret <|  thn_ret <|  thn_ret <|  inB_ret <|  thn_ret <| ?_
          refine fin1 ?_
          exact ⟨rfl, he07.trans he8⟩
      · refine J.exit ?_
        refine J.seq ?_
        refine J.seq ?_
        refine J.region ?_
        refine L.va rfl (X.fieldAddr rfl Try.underlying54 rfl sz_22 (by decide)) ?_
        refine L.va rfl (X.load rfl sc_22 (by first | exact Ld.blk hk5 rfl | exact Ld.blk hk15 rfl)) ?_
        refine L.va rfl (X.len rfl Try.underlying22) ?_
        refine L.va rfl (X.move (by conv => lhs; whnf)) ?_
        refine L.nil ?_
        refine J.block ?_
        -- loop
        refine J.loop (X := Nat) [4, 10, 58, 59, 60, 61, 62, 63, 64, 65, 66, 67, 68, 69, 70, 71, 72, 73] (fun i => [(58, .int .i64 (i : Int))]) (fun i w' => i ≤ q.no ∧ (∀ j, j < i → q.oOk (q.o.getD j o0)) ∧ Ext w4 w') (fun i => q.no - i) (0) (At1 (by first | rfl | exact at_int rfl (by omega) | exact at_slice rfl (by omega) | exact at_int rfl (by simp))) ?_ ?_
        · exact ⟨Nat.zero_le _, fun j hj => absurd hj (by omega), he5⟩
        · rintro j g w6 ⟨hj, hQ, he6⟩
          have he06 := he04.trans he6
          have z6 := he6.le
          have hk6 := hk2.ext he6
          have o6 := hq.o.ext he06
          refine J.seq ?_
          refine J.region ?_
          refine L.va rfl (X.lss rfl rfl) ?_
          refine L.nil ?_
          refine J.seq ?_
          -- cond
          refine J.dec rfl (fun hlt2 => ?_) (fun hlt2 => ?_)
          · have hjn : j < q.no := by omega
            have hA := o6.some_ (by omega)
            obtain ⟨k, m, hkm⟩ : ∃ k m, q.o.getD j o0 = (k, m) := ⟨_, _, rfl⟩
            have hgt := gtO (l := q.o) (i := j) (by omega)
            rw [hkm] at hgt
            -- t61
            refine J.skip ?_
            refine J.seq ?_
            refine J.block ?_
            refine J.seq ?_
            refine J.region ?_
            refine L.va rfl ((by first | exact X.indexAddrn rfl rfl Try.underlying22 sz_98 (by first | exact Option.some_ne_none _ | exact hA) (by omega) | exact X.indexAddr rfl rfl Try.underlying22 sz_98 (by first | exact Option.some_ne_none _ | exact hA) (by omega))) ?_
            refine L.va rfl (X.loadRow (cs := oV (k, m)) rfl o6 (fun r u hu => flat_row oV_len hgt r u hu) (Nat.zero_lt_succ _) Try.underlying98 rfl (by kernel_rfl)) ?_
            -- alloc
            refine L.alloc rfl zr_98 ?_
            intro b7 w7 hb7 hs7 hk7 he7
            -- store
            refine L.storeAgg (vs := [_, _]) rfl rfl rfl rfl sz_98 (hk7) rfl ?_
            intro w8 hk8 hg8 hs8
            have he68 : Ext w6 w8 := he7.grw hg8 (by intro g hg; injection hg with hg; omega)
            have hk8 : Blk w8 b7 98 (oV (k, m)).toArray := hk8
            have hk68 := hk6.ext he68
            have he08 := he06.trans he68
            refine L.nil ?_
            refine J.seq ?_
            refine J.region ?_
            refine L.va rfl (X.fieldAddr rfl Try.underlying98 rfl sz_3 (by decide)) ?_
            refine L.va rfl (X.load rfl sc_3 (by first | exact Ld.blk hk8 rfl | exact Ld.blk hk68 rfl | exact hA)) ?_
            refine L.va rfl (X.lss rfl rfl) ?_
            refine L.va rfl (X.move (by conv => lhs; whnf)) ?_
            -- case t65
            refine L.caseDec (k := 65) rfl (fun h7 => ?_) (fun h7 => ?_)
            · refine L.no rfl ?_
              refine L.no rfl ?_
              refine L.no rfl ?_
              refine L.no rfl ?_
              refine L.no rfl ?_
              refine L.no rfl ?_
              refine L.va rfl (X.pickT rfl (by conv => lhs; whnf)) ?_
              refine L.nil ?_
              -- cond
              refine J.iteT rfl ?_
              rw [qc_2 hc h2 h3 (by omega) (.inr (.inl ⟨j, hjn, by rw [hkm]; unfold Qu.oOk; dsimp only; omega⟩))]
              refine J.seq ?_
              refine J.region ?_
              refine L.va rfl (X.assign (by conv => lhs; whnf)) ?_
              refine L.nil ?_
              -- ret
              refine J.ret ?_
              refine inB_ret <|  thn_ret <|  thn_ret <|  inB_ret <|  thn_ret <| ?_
              refine fin1 ?_
              exact ⟨rfl, he08⟩
            refine L.va rfl (X.fieldAddr rfl Try.underlying98 rfl sz_3 (by decide)) ?_
            refine L.va rfl (X.load rfl sc_3 (by first | exact Ld.blk hk8 rfl | exact Ld.blk hk68 rfl | exact hA)) ?_
            refine L.va rfl (X.fieldAddr rfl Try.underlying54 rfl sz_52 (by decide)) ?_
            refine L.va rfl (X.load rfl sc_52 (by first | exact Ld.blk hk8 rfl | exact Ld.blk hk68 rfl | exact hA)) ?_
            refine L.va rfl (X.len rfl Try.underlying52) ?_
            refine L.va rfl (X.geq rfl rfl) ?_
            refine L.va rfl (X.pickF rfl (by conv => lhs; whnf)) ?_
            refine L.nil ?_
            -- cond
            refine J.dec rfl (fun h8 => ?_) (fun h8 => ?_)
            · rw [qc_2 hc h2 h3 (by omega) (.inr (.inl ⟨j, hjn, by rw [hkm]; unfold Qu.oOk; dsimp only; omega⟩))]
              refine J.seq ?_
              refine J.region ?_
              refine L.va rfl (X.assign (by conv => lhs; whnf)) ?_
              refine L.nil ?_
              -- ret
              refine J.ret ?_
              refine inB_ret <|  thn_ret <|  thn_ret <|  inB_ret <|  thn_ret <| ?_
              refine fin1 ?_
              exact ⟨rfl, he08⟩
            refine J.skip ?_
            refine J.region ?_
            refine L.va rfl (X.add rfl rfl (by omega)) ?_
            refine L.va rfl (X.move (by conv => lhs; whnf)) ?_
            refine L.nil ?_
            -- loopend
            refine ⟨j + 1, At1 (by first | rfl | exact at_int rfl (by omega) | exact at_slice rfl (by omega) | exact at_int rfl (by simp)), (by (iterate 18 refine Agr.lk rfl ?_); exact Agr.lk rfl (Agr.hav rfl Agr.rfl')), ?_⟩
            refine ⟨⟨by omega, fun j' hj' => ?_, he6.trans he68⟩, by omega⟩
            rcases Nat.lt_or_ge j' j with h | h
            · exact hQ j' h
            · obtain rfl : j' = j := by omega
              rw [hkm]; exact ⟨by dsimp only; omega, by dsimp only; omega⟩
          · refine J.exit ?_
            refine J.seq ?_
            refine J.seq ?_
            refine J.region ?_
            refine L.va rfl (X.fieldAddr rfl Try.underlying54 rfl sz_3 (by decide)) ?_
            refine L.va rfl (X.load rfl sc_3 (by first | exact Ld.blk hk6 rfl)) ?_
            refine L.va rfl (X.lss rfl rfl) ?_
            refine L.nil ?_
            -- cond
            refine J.dec rfl (fun h9 => ?_) (fun h9 => ?_)
            · rw [qc_2 hc h2 h3 (by omega) (.inr (.inr h9))]
              refine J.seq ?_
              refine J.region ?_
              refine L.va rfl (X.assign (by conv => lhs; whnf)) ?_
              refine L.nil ?_
              -- ret
              refine J.ret ?_
              refine thn_ret <| ?_
              refine fin1 ?_
              exact ⟨rfl, he06⟩
            · rw [qc_0 hc h2 h3 (by omega) (fun i hi => hP i (by omega)) (fun i hi => hQ i (by omega)) h9]
              refine J.skip ?_
              refine J.seq ?_
              refine J.region ?_
              refine L.va rfl (X.assign (by conv => lhs; whnf)) ?_
              refine L.nil ?_
              -- ret
              refine J.ret ?_
              refine fin1 ?_
              exact ⟨rfl, he06⟩
  · refine L.va rfl (X.assign (by conv => lhs; whnf)) ?_
    refine L.nil ?_
    refine J.seq ?_
    refine J.region ?_
    refine L.va rfl ((by first | exact X.loadAgg rfl (range_l hk2) Try.underlying49 rfl (by kernel_rfl) | exact X.loadAgg rfl (range_blk hk2) Try.underlying49 rfl (by kernel_rfl) | exact X.loadAgg rfl (range_l hk12) Try.underlying49 rfl (by kernel_rfl) | exact X.loadAgg rfl (range_blk hk12) Try.underlying49 rfl (by kernel_rfl))) ?_
    -- callfn bushel/schema.Full
    refine L.call rfl en_90 rfl (H2.full_no hc) ?_
    rintro e w3 ⟨rfl, he3⟩
    refine ⟨_, rfl, ?_⟩
    rw [qc_1 hc]
    refine L.va rfl (X.assign (by conv => lhs; whnf)) ?_
    refine L.nil ?_
    refine J.seq ?_
    refine J.seq ?_
    refine J.region ?_
    refine L.va rfl (X.move (by conv => lhs; whnf)) ?_
    refine L.va rfl (X.eql rfl rfl) ?_
    refine L.nil ?_
    -- cond
    refine J.iteT rfl ?_
    refine J.seq ?_
    refine J.region ?_
    refine L.va rfl (X.assign (by conv => lhs; whnf)) ?_
    refine L.nil ?_
    -- ret
    refine J.ret ?_
    refine thn_ret <| ?_
    refine fin1 ?_
    exact ⟨rfl, he02.trans he3⟩
end Go.Proofs.Ytlipeplfjkgamaa
