/-
  Codes that pass: filter.Pass, the reference's Pass; filters alike: the reference's Same.
-/
import Derived.Test.YtmnlaekcojblkaaWNrmD
namespace Go.Proofs.Ytmnlaekcojblkaa
set_option maxRecDepth 100000
open Go.RowKit H
open Nrm (pk pk_iff)
set_option linter.unusedVariables false
/-- one filter lets codes pass -/
def p1 (x : Fi) (cs : List Int) : Bool := decide (0 ≤ x.d ∧ x.d < cs.length) && x.l.contains (cs.getD x.d.toNat 0)
theorem pk_next (l : Nrm.Ks) (f : Int × List Int) (cs : List Int) : pk (l ++ [f]) cs = (pk l cs && (decide (0 ≤ f.1 ∧ f.1 < cs.length) && f.2.contains (cs.getD f.1.toNat 0))) := by
  unfold pk
  simp
theorem pk_bad {l : List Fi} {cs : List Int} {i : Nat} (hi : i < l.length) (h : p1 (l.getD i fi0) cs = false) : pk (l.map Fi.key) cs = false := by
  unfold pk
  rw [List.all_eq_false]
  refine ⟨(l.getD i fi0).key, List.mem_map.2 ⟨_, memF hi, rfl⟩, ?_⟩
  unfold p1 at h
  show ¬ (decide (0 ≤ (l.getD i fi0).d ∧ (l.getD i fi0).d < cs.length) && (l.getD i fi0).l.contains (cs.getD (l.getD i fi0).d.toNat 0)) = true
  rw [h]
  decide
theorem p1_lo {x : Fi} {cs : List Int} (h : x.d < 0) : p1 x cs = false := by unfold p1; rw [decide_eq_false (by omega)]; rfl
theorem p1_hi {x : Fi} {cs : List Int} (h : (cs.length : Int) ≤ x.d) : p1 x cs = false := by unfold p1; rw [decide_eq_false (by omega)]; rfl
theorem p1_in {x : Fi} {cs : List Int} (h : 0 ≤ x.d) (hd : x.d < (cs.length : Int)) : p1 x cs = x.l.contains (cs.getD x.d.toNat 0) := by
  unfold p1
  rw [decide_eq_true ⟨h, hd⟩]
  rfl
theorem pass_ {f : Fis} {A : Option Addr} {n c : Nat} {cs : List Int} {w : World} (hf : f.At w.heap.size w) (hr : Reads w w.heap.size 1 A n (nums .i64 cs)) (hn : n ≤ maxLen) : Calls Try.prog 60 #[f.val, .slice A n c] w fun e w' => e = .returned (.bool (pk (f.l.map Fi.key) cs)) ∧ Ext w w' := by
  have hl := hf.l
  have hm := hf.m
  have hcl : cs.length = n := by have := hr.1; simpa [nums] using this
  unfold maxLen at hn hm
  refine enter Try.func60 rfl (by kernel_rfl) ?_
  refine J.seq ?_
  refine J.region ?_
  refine L.va rfl (X.assign (by conv => lhs; whnf)) ?_
  refine L.nil ?_
  refine J.seq ?_
  refine J.seq ?_
  refine J.region ?_
  refine L.va rfl (X.move (by conv => lhs; whnf)) ?_
  refine L.va rfl (X.len rfl Try.underlying71) ?_
  refine L.va rfl (X.move (by conv => lhs; whnf)) ?_
  refine L.nil ?_
  refine J.block ?_
  -- loop
  refine J.loop (X := Nat) [4, 6, 9, 10, 11, 12, 13, 14, 15, 16, 17, 18, 19, 20, 21, 22, 23, 24, 25, 26, 27, 28, 29, 30, 31, 32, 33, 34] (fun i => [(9, .int .i64 (i : Int))]) (fun i w' => i ≤ f.n ∧ pk ((f.l.map Fi.key).take i) cs = true ∧ Ext w w') (fun i => f.n - i) (0) (At1 (by first | rfl | exact at_int rfl (by omega) | exact at_slice rfl (by omega) | exact at_int rfl (by simp))) ?_ ?_
  · exact ⟨Nat.zero_le _, rfl, Ext.refl _⟩
  · rintro i g w3 ⟨hi, hP, he3⟩
    have z3 := he3.le
    have hf3 := hf.ext he3
    refine J.seq ?_
    refine J.region ?_
    refine L.va rfl (X.lss rfl rfl) ?_
    refine L.nil ?_
    refine J.seq ?_
    -- cond
    refine J.dec rfl (fun hlt => ?_) (fun hlt => ?_)
    · have hin : i < f.n := by omega
      have hA := hf3.r.some_ (by omega)
      have hnk := key_at (l := f.l) (i := i) (by omega)
      have hbad := pk_bad (l := f.l) (cs := cs) (i := i) (by omega)
      obtain ⟨x, hx⟩ : ∃ x, x = f.l.getD i fi0 := ⟨_, rfl⟩
      have hX := hf3.one hin
      have hgt := gtF (l := f.l) (i := i) (by omega)
      rw [← hx] at hX hgt hnk hbad
      -- t12
      refine J.skip ?_
      refine J.seq ?_
      refine J.block ?_
      refine J.seq ?_
      refine J.region ?_
      refine L.va rfl ((by first | exact X.indexAddrn rfl rfl Try.underlying71 sz_144 (by first | exact Option.some_ne_none _ | exact hA) (by omega) | exact X.indexAddr rfl rfl Try.underlying71 sz_144 (by first | exact Option.some_ne_none _ | exact hA) (by omega))) ?_
      refine L.va rfl (X.loadRow (cs := x.vs) rfl hf3.r (fun r u hu => flat_row fi_len hgt r u hu) (Nat.zero_lt_succ _) Try.underlying144 rfl (by kernel_rfl)) ?_
      -- alloc
      refine L.alloc rfl zr_144 ?_
      intro b4 w4 hb4 hs4 hk4 he4
      -- store
      refine L.storeAgg (vs := [_, _]) rfl rfl rfl rfl sz_144 (hk4) rfl ?_
      intro w5 hk5 hg5 hs5
      have he35 : Ext w3 w5 := he4.grw hg5 (by intro g hg; injection hg with hg; omega)
      have hk5 : Blk w5 b4 144 x.vs.toArray := hk5
      have he5 := he3.trans he35
      have z5 := he5.le
      have hX5 := hX.ext he35
      have hr5 := hr.ext he5
      have hxm := hX.m
      refine L.nil ?_
      refine J.seq ?_
      -- draw
      refine J.quiet mixed (by kernel_rfl) ?_
      refine Qt.va rfl (fun w' hw => X.fieldAddr rfl Try.underlying144 rfl sz_3 (by decide)) ?_
      refine Qt.va rfl (fun w' hw => X.load rfl sc_3 (by first | exact Ld.blk (hk5.ext hw) rfl | exact Ld.num (hr5.ext hw) (by omega) | exact hA)) ?_
      refine Qt.va rfl (fun w' hw => X.lss rfl rfl) ?_
      refine Qt.va rfl (fun w' hw => X.move (by conv => lhs; whnf)) ?_
      -- case t16
      refine Qt.caseDec (k := 16) rfl (fun h1 => ?_) (fun h1 => ?_)
      · refine Qt.no rfl ?_
        refine Qt.no rfl ?_
        refine Qt.no rfl ?_
        refine Qt.no rfl ?_
        refine Qt.no rfl ?_
        refine Qt.va rfl (fun w' hw => X.pickT rfl (by conv => lhs; whnf)) ?_
        refine Qt.va rfl (fun w' hw => X.move (by conv => lhs; whnf)) ?_
        refine Qt.no rfl ?_
        refine Qt.no rfl ?_
        refine Qt.no rfl ?_
        refine Qt.no rfl ?_
        refine Qt.no rfl ?_
        refine Qt.no rfl ?_
        refine Qt.no rfl ?_
        refine Qt.no rfl ?_
        refine Qt.no rfl ?_
        refine Qt.va rfl (fun w' hw => X.pickT rfl (by conv => lhs; whnf)) ?_
        refine Qt.nil (fun w6 hq => ?_)
        replace hk5 := hk5.ext hq
        replace hr5 := hr5.ext hq
        -- cond
        refine J.iteT rfl ?_
        rw [hbad (p1_lo h1)]
        refine J.seq ?_
        refine J.region ?_
        refine L.va rfl (X.assign (by conv => lhs; whnf)) ?_
        refine L.nil ?_
        -- ret
        refine J.ret ?_
        refine inB_ret <|  thn_ret <|  thn_ret <|  inB_ret <|  thn_ret <| ?_
        refine fin1 ?_
        exact ⟨rfl, he5.trans hq⟩
      · refine Qt.va rfl (fun w' hw => X.fieldAddr rfl Try.underlying144 rfl sz_3 (by decide)) ?_
        refine Qt.va rfl (fun w' hw => X.load rfl sc_3 (by first | exact Ld.blk (hk5.ext hw) rfl | exact Ld.num (hr5.ext hw) (by omega) | exact hA)) ?_
        refine Qt.va rfl (fun w' hw => X.move (by conv => lhs; whnf)) ?_
        refine Qt.va rfl (fun w' hw => X.len rfl Try.underlying29) ?_
        refine Qt.va rfl (fun w' hw => X.geq rfl rfl) ?_
        refine Qt.va rfl (fun w' hw => X.pickF rfl (by conv => lhs; whnf)) ?_
        refine Qt.va rfl (fun w' hw => X.move (by conv => lhs; whnf)) ?_
        -- case t23
        refine Qt.caseDec (k := 23) rfl (fun h2 => ?_) (fun h2 => ?_)
        · refine Qt.no rfl ?_
          refine Qt.no rfl ?_
          refine Qt.no rfl ?_
          refine Qt.no rfl ?_
          refine Qt.no rfl ?_
          refine Qt.no rfl ?_
          refine Qt.no rfl ?_
          refine Qt.no rfl ?_
          refine Qt.no rfl ?_
          refine Qt.va rfl (fun w' hw => X.pickT rfl (by conv => lhs; whnf)) ?_
          refine Qt.nil (fun w6 hq => ?_)
          replace hk5 := hk5.ext hq
          replace hr5 := hr5.ext hq
          -- cond
          refine J.iteT rfl ?_
          rw [hbad (p1_hi (by omega))]
          refine J.seq ?_
          refine J.region ?_
          refine L.va rfl (X.assign (by conv => lhs; whnf)) ?_
          refine L.nil ?_
          -- ret
          refine J.ret ?_
          refine inB_ret <|  thn_ret <|  thn_ret <|  inB_ret <|  thn_ret <| ?_
          refine fin1 ?_
          exact ⟨rfl, he5.trans hq⟩
        · have hd : 0 ≤ x.d ∧ x.d < (cs.length : Int) := by omega
          have hA2 := hr.some_ (by omega)
          refine Qt.va rfl (fun w' hw => X.fieldAddr rfl Try.underlying144 rfl sz_29 (by decide)) ?_
          refine Qt.va rfl (fun w' hw => X.load rfl sc_29 (by first | exact Ld.blk (hk5.ext hw) rfl | exact Ld.num (hr5.ext hw) (by omega) | exact hA2)) ?_
          refine Qt.va rfl (fun w' hw => X.move (by conv => lhs; whnf)) ?_
          refine Qt.va rfl (fun w' hw => X.fieldAddr rfl Try.underlying144 rfl sz_3 (by decide)) ?_
          refine Qt.va rfl (fun w' hw => X.load rfl sc_3 (by first | exact Ld.blk (hk5.ext hw) rfl | exact Ld.num (hr5.ext hw) (by omega) | exact hA2)) ?_
          refine Qt.va rfl (fun w' hw => (by first | exact X.index1n rfl rfl Try.underlying29 sz_3 (by first | exact Option.some_ne_none _ | exact hr5.some_ (by omega) | exact hA2) (by omega) | exact X.index1 rfl rfl Try.underlying29 sz_3 (by first | exact Option.some_ne_none _ | exact hr5.some_ (by omega) | exact hA2) (by omega))) ?_
          refine Qt.va rfl (fun w' hw => X.load rfl sc_3 (by first | exact Ld.blk (hk5.ext hw) rfl | exact Ld.num (hr5.ext hw) (by omega) | exact hA2)) ?_
          -- callfn slices.Contains[[]int,int]
          refine Qt.call rfl en_115 rfl (fun w' hw => calls_same hw (containsI x.A x.n x.c x.l (cs.getD x.d.toNat 0) w' (((hX5.ext hw).r.more (by have := hw.le; omega))) hxm)) ?_
          refine Qt.va rfl (fun w' hw => X.not rfl) ?_
          refine Qt.va rfl (fun w' hw => X.pickF rfl (by conv => lhs; whnf)) ?_
          refine Qt.nil (fun w6 hq => ?_)
          replace hk5 := hk5.ext hq
          replace hr5 := hr5.ext hq
          -- cond
          rw [p1_in hd.1 hd.2] at hbad
          cases hc : x.l.contains (cs.getD x.d.toNat 0)
          · refine J.iteT rfl ?_
            rw [hbad hc]
            refine J.seq ?_
            refine J.region ?_
            refine L.va rfl (X.assign (by conv => lhs; whnf)) ?_
            refine L.nil ?_
            -- ret
            refine J.ret ?_
            refine inB_ret <|  thn_ret <|  thn_ret <|  inB_ret <|  thn_ret <| ?_
            refine fin1 ?_
            exact ⟨rfl, he5.trans hq⟩
          · refine J.iteF rfl ?_
            refine J.skip ?_
            refine J.region ?_
            refine L.va rfl (X.add rfl rfl (by omega)) ?_
            refine L.va rfl (X.move (by conv => lhs; whnf)) ?_
            refine L.nil ?_
            -- loopend
            refine ⟨i + 1, At1 (by first | rfl | exact at_int rfl (by omega) | exact at_slice rfl (by omega) | exact at_int rfl (by simp)), (by (iterate 29 refine Agr.lk rfl ?_); exact Agr.lk rfl (Agr.hav rfl Agr.rfl')), ?_⟩
            refine ⟨⟨by omega, ?_, he5.trans hq⟩, by omega⟩
            rw [hnk, pk_next, hP, Bool.true_and]
            show p1 x cs = true
            rw [p1_in hd.1 hd.2, hc]
    · obtain rfl : i = f.n := by omega
      rw [List.take_of_length_le (by rw [List.length_map]; omega)] at hP
      rw [hP]
      refine J.exit ?_
      refine J.seq ?_
      refine J.region ?_
      refine L.va rfl (X.assign (by conv => lhs; whnf)) ?_
      refine L.nil ?_
      -- ret
      refine J.ret ?_
      refine fin1 ?_
      exact ⟨rfl, he3⟩
theorem rpass_ {f : Fis} {A : Option Addr} {n c : Nat} {cs : List Int} {w : World} (hf : f.At w.heap.size w) (hr : Reads w w.heap.size 1 A n (nums .i64 cs)) (hn : n ≤ maxLen) : Calls Try.prog 61 #[f.val, .slice A n c] w fun e w' => e = .returned (.bool (pk (f.l.map Fi.key) cs)) ∧ Ext w w' := by
  have hl := hf.l
  have hm := hf.m
  have hcl : cs.length = n := by have := hr.1; simpa [nums] using this
  unfold maxLen at hn hm
  refine enter Try.func61 rfl (by kernel_rfl) ?_
  refine J.seq ?_
  refine J.region ?_
  refine L.va rfl (X.assign (by conv => lhs; whnf)) ?_
  refine L.nil ?_
  refine J.seq ?_
  refine J.seq ?_
  refine J.region ?_
  refine L.va rfl (X.assign (by conv => lhs; whnf)) ?_
  refine L.nil ?_
  refine J.block ?_
  -- loop
  refine J.loop (X := Nat) [4, 5, 6, 7, 8, 9, 10, 11, 12, 13, 14, 15, 16, 17, 18, 19, 20, 21, 22, 23, 24, 25, 26, 27, 28, 29, 30, 31, 32, 33, 34, 35, 36, 37, 38, 39, 40, 41, 42, 43, 44] (fun i => [(5, .int .i64 (i : Int))]) (fun i w' => i ≤ f.n ∧ pk ((f.l.map Fi.key).take i) cs = true ∧ Ext w w') (fun i => f.n - i) (0) (At1 (by first | rfl | exact at_int rfl (by omega) | exact at_slice rfl (by omega) | exact at_int rfl (by simp))) ?_ ?_
  · exact ⟨Nat.zero_le _, rfl, Ext.refl _⟩
  · rintro i g w3 ⟨hi, hP, he3⟩
    have z3 := he3.le
    have hf3 := hf.ext he3
    have hr3 := hr.ext he3
    refine J.seq ?_
    refine J.seq ?_
    refine J.region ?_
    refine L.va rfl (X.move (by conv => lhs; whnf)) ?_
    refine L.va rfl (X.move (by conv => lhs; whnf)) ?_
    refine L.va rfl (X.len rfl Try.underlying71) ?_
    refine L.va rfl (X.lss rfl rfl) ?_
    refine L.nil ?_
    -- cond
    refine J.dec rfl (fun hlt => ?_) (fun hlt => ?_)
    · have hin : i < f.n := by omega
      have hA := hf3.r.some_ (by omega)
      have hnk := key_at (l := f.l) (i := i) (by omega)
      have hbad := pk_bad (l := f.l) (cs := cs) (i := i) (by omega)
      obtain ⟨x, hx⟩ : ∃ x, x = f.l.getD i fi0 := ⟨_, rfl⟩
      have hX := hf3.one hin
      have hgt := gtF (l := f.l) (i := i) (by omega)
      rw [← hx] at hX hgt hnk hbad
      have hxm := hX.m
      refine J.skip ?_
      refine J.seq ?_
      refine J.block ?_
      refine J.seq ?_
      -- draw
      refine J.quiet mixed (by kernel_rfl) ?_
      refine Qt.va rfl (fun w' hw => X.move (by conv => lhs; whnf)) ?_
      refine Qt.va rfl (fun w' hw => X.move (by conv => lhs; whnf)) ?_
      refine Qt.va rfl (fun w' hw => (by first | exact X.indexAddrn rfl rfl Try.underlying71 sz_144 (by first | exact Option.some_ne_none _ | exact hr3.some_ (by omega) | exact hA) (by omega) | exact X.indexAddr rfl rfl Try.underlying71 sz_144 (by first | exact Option.some_ne_none _ | exact hr3.some_ (by omega) | exact hA) (by omega))) ?_
      refine Qt.va rfl (fun w' hw => X.fieldP rfl Try.underlying144 rfl sz_3 (by decide) (by first | exact Option.some_ne_none _ | exact hr3.some_ (by omega) | exact hA)) ?_
      refine Qt.va rfl (fun w' hw => X.load rfl sc_3 (by first | exact Ld.num (hr3.ext hw) (by omega) | exact hA | exact Ld.flat2 fi_len (hf3.r.ext hw) hgt (r := 0) rfl | exact Ld.flat2 fi_len (hf3.r.ext hw) hgt (r := 1) rfl)) ?_
      refine Qt.va rfl (fun w' hw => X.lss rfl rfl) ?_
      refine Qt.va rfl (fun w' hw => X.move (by conv => lhs; whnf)) ?_
      -- case t18
      refine Qt.caseDec (k := 18) rfl (fun h1 => ?_) (fun h1 => ?_)
      · refine Qt.no rfl ?_
        refine Qt.no rfl ?_
        refine Qt.no rfl ?_
        refine Qt.no rfl ?_
        refine Qt.no rfl ?_
        refine Qt.no rfl ?_
        refine Qt.no rfl ?_
        refine Qt.no rfl ?_
        refine Qt.va rfl (fun w' hw => X.pickT rfl (by conv => lhs; whnf)) ?_
        refine Qt.va rfl (fun w' hw => X.move (by conv => lhs; whnf)) ?_
        refine Qt.no rfl ?_
        refine Qt.no rfl ?_
        refine Qt.no rfl ?_
        refine Qt.no rfl ?_
        refine Qt.no rfl ?_
        refine Qt.no rfl ?_
        refine Qt.no rfl ?_
        refine Qt.no rfl ?_
        refine Qt.no rfl ?_
        refine Qt.no rfl ?_
        refine Qt.no rfl ?_
        refine Qt.no rfl ?_
        refine Qt.no rfl ?_
        refine Qt.no rfl ?_
        refine Qt.no rfl ?_
        refine Qt.va rfl (fun w' hw => X.pickT rfl (by conv => lhs; whnf)) ?_
        refine Qt.nil (fun w6 hq => ?_)
        replace hr3 := hr3.ext hq
        -- cond
        refine J.iteT rfl ?_
        rw [hbad (p1_lo h1)]
        refine J.seq ?_
        refine J.region ?_
        refine L.va rfl (X.assign (by conv => lhs; whnf)) ?_
        refine L.nil ?_
        -- ret
        refine J.ret ?_
        refine inB_ret <|  thn_ret <|  thn_ret <|  inB_ret <|  thn_ret <| ?_
        refine fin1 ?_
        exact ⟨rfl, he3.trans hq⟩
      · refine Qt.va rfl (fun w' hw => X.move (by conv => lhs; whnf)) ?_
        refine Qt.va rfl (fun w' hw => X.move (by conv => lhs; whnf)) ?_
        refine Qt.va rfl (fun w' hw => (by first | exact X.indexAddrn rfl rfl Try.underlying71 sz_144 (by first | exact Option.some_ne_none _ | exact hr3.some_ (by omega) | exact hA) (by omega) | exact X.indexAddr rfl rfl Try.underlying71 sz_144 (by first | exact Option.some_ne_none _ | exact hr3.some_ (by omega) | exact hA) (by omega))) ?_
        refine Qt.va rfl (fun w' hw => X.fieldP rfl Try.underlying144 rfl sz_3 (by decide) (by first | exact Option.some_ne_none _ | exact hr3.some_ (by omega) | exact hA)) ?_
        refine Qt.va rfl (fun w' hw => X.load rfl sc_3 (by first | exact Ld.num (hr3.ext hw) (by omega) | exact hA | exact Ld.flat2 fi_len (hf3.r.ext hw) hgt (r := 0) rfl | exact Ld.flat2 fi_len (hf3.r.ext hw) hgt (r := 1) rfl)) ?_
        refine Qt.va rfl (fun w' hw => X.move (by conv => lhs; whnf)) ?_
        refine Qt.va rfl (fun w' hw => X.len rfl Try.underlying29) ?_
        refine Qt.va rfl (fun w' hw => X.geq rfl rfl) ?_
        refine Qt.va rfl (fun w' hw => X.pickF rfl (by conv => lhs; whnf)) ?_
        refine Qt.va rfl (fun w' hw => X.move (by conv => lhs; whnf)) ?_
        -- case t28
        refine Qt.caseDec (k := 28) rfl (fun h2 => ?_) (fun h2 => ?_)
        · refine Qt.no rfl ?_
          refine Qt.no rfl ?_
          refine Qt.no rfl ?_
          refine Qt.no rfl ?_
          refine Qt.no rfl ?_
          refine Qt.no rfl ?_
          refine Qt.no rfl ?_
          refine Qt.no rfl ?_
          refine Qt.no rfl ?_
          refine Qt.no rfl ?_
          refine Qt.no rfl ?_
          refine Qt.no rfl ?_
          refine Qt.no rfl ?_
          refine Qt.no rfl ?_
          refine Qt.no rfl ?_
          refine Qt.va rfl (fun w' hw => X.pickT rfl (by conv => lhs; whnf)) ?_
          refine Qt.nil (fun w6 hq => ?_)
          replace hr3 := hr3.ext hq
          -- cond
          refine J.iteT rfl ?_
          rw [hbad (p1_hi (by omega))]
          refine J.seq ?_
          refine J.region ?_
          refine L.va rfl (X.assign (by conv => lhs; whnf)) ?_
          refine L.nil ?_
          -- ret
          refine J.ret ?_
          refine inB_ret <|  thn_ret <|  thn_ret <|  inB_ret <|  thn_ret <| ?_
          refine fin1 ?_
          exact ⟨rfl, he3.trans hq⟩
        · have hd : 0 ≤ x.d ∧ x.d < (cs.length : Int) := by omega
          have hA2 := hr.some_ (by omega)
          refine Qt.va rfl (fun w' hw => X.move (by conv => lhs; whnf)) ?_
          refine Qt.va rfl (fun w' hw => X.move (by conv => lhs; whnf)) ?_
          refine Qt.va rfl (fun w' hw => (by first | exact X.indexAddrn rfl rfl Try.underlying71 sz_144 (by first | exact Option.some_ne_none _ | exact hr3.some_ (by omega) | exact hA | exact hA2) (by omega) | exact X.indexAddr rfl rfl Try.underlying71 sz_144 (by first | exact Option.some_ne_none _ | exact hr3.some_ (by omega) | exact hA | exact hA2) (by omega))) ?_
          refine Qt.va rfl (fun w' hw => X.fieldP rfl Try.underlying144 rfl sz_29 (by decide) (by first | exact Option.some_ne_none _ | exact hr3.some_ (by omega) | exact hA | exact hA2)) ?_
          refine Qt.va rfl (fun w' hw => X.load rfl sc_29 (by first | exact Ld.num (hr3.ext hw) (by omega) | exact hA | exact hA2 | exact Ld.flat2 fi_len (hf3.r.ext hw) hgt (r := 0) rfl | exact Ld.flat2 fi_len (hf3.r.ext hw) hgt (r := 1) rfl)) ?_
          refine Qt.va rfl (fun w' hw => X.move (by conv => lhs; whnf)) ?_
          refine Qt.va rfl (fun w' hw => X.move (by conv => lhs; whnf)) ?_
          refine Qt.va rfl (fun w' hw => X.move (by conv => lhs; whnf)) ?_
          refine Qt.va rfl (fun w' hw => (by first | exact X.indexAddrn rfl rfl Try.underlying71 sz_144 (by first | exact Option.some_ne_none _ | exact hr3.some_ (by omega) | exact hA | exact hA2) (by omega) | exact X.indexAddr rfl rfl Try.underlying71 sz_144 (by first | exact Option.some_ne_none _ | exact hr3.some_ (by omega) | exact hA | exact hA2) (by omega))) ?_
          refine Qt.va rfl (fun w' hw => X.fieldP rfl Try.underlying144 rfl sz_3 (by decide) (by first | exact Option.some_ne_none _ | exact hr3.some_ (by omega) | exact hA | exact hA2)) ?_
          refine Qt.va rfl (fun w' hw => X.load rfl sc_3 (by first | exact Ld.num (hr3.ext hw) (by omega) | exact hA | exact hA2 | exact Ld.flat2 fi_len (hf3.r.ext hw) hgt (r := 0) rfl | exact Ld.flat2 fi_len (hf3.r.ext hw) hgt (r := 1) rfl)) ?_
          refine Qt.va rfl (fun w' hw => (by first | exact X.index1n rfl rfl Try.underlying29 sz_3 (by first | exact Option.some_ne_none _ | exact hr3.some_ (by omega) | exact hA | exact hA2) (by omega) | exact X.index1 rfl rfl Try.underlying29 sz_3 (by first | exact Option.some_ne_none _ | exact hr3.some_ (by omega) | exact hA | exact hA2) (by omega))) ?_
          refine Qt.va rfl (fun w' hw => X.load rfl sc_3 (by first | exact Ld.num (hr3.ext hw) (by omega) | exact hA | exact hA2 | exact Ld.flat2 fi_len (hf3.r.ext hw) hgt (r := 0) rfl | exact Ld.flat2 fi_len (hf3.r.ext hw) hgt (r := 1) rfl)) ?_
          -- callfn bushel/bushelref28.has
          refine Qt.call rfl en_114 rfl (fun w' hw => calls_same hw (has28 x.A x.n x.c x.l (cs.getD x.d.toNat 0) w' (((hX.ext hw).r.more (by have := hw.le; omega))) hxm)) ?_
          refine Qt.va rfl (fun w' hw => X.not rfl) ?_
          refine Qt.va rfl (fun w' hw => X.pickF rfl (by conv => lhs; whnf)) ?_
          refine Qt.nil (fun w6 hq => ?_)
          replace hr3 := hr3.ext hq
          -- cond
          rw [p1_in hd.1 hd.2] at hbad
          cases hc : x.l.contains (cs.getD x.d.toNat 0)
          · refine J.iteT rfl ?_
            rw [hbad hc]
            refine J.seq ?_
            refine J.region ?_
            refine L.va rfl (X.assign (by conv => lhs; whnf)) ?_
            refine L.nil ?_
            -- ret
            refine J.ret ?_
            refine inB_ret <|  thn_ret <|  thn_ret <|  inB_ret <|  thn_ret <| ?_
            refine fin1 ?_
            exact ⟨rfl, he3.trans hq⟩
          · refine J.iteF rfl ?_
            refine J.skip ?_
            refine J.region ?_
            refine L.va rfl (X.move (by conv => lhs; whnf)) ?_
            refine L.va rfl (X.add rfl rfl (by omega)) ?_
            refine L.va rfl (X.assign (by conv => lhs; whnf)) ?_
            refine L.nil ?_
            -- loopend
            refine ⟨i + 1, At1 (by first | rfl | exact at_int rfl (by omega) | exact at_slice rfl (by omega) | exact at_int rfl (by simp)), (by (iterate 42 refine Agr.lk rfl ?_); exact Agr.lk rfl (Agr.hav rfl Agr.rfl')), ?_⟩
            refine ⟨⟨by omega, ?_, he3.trans hq⟩, by omega⟩
            rw [hnk, pk_next, hP, Bool.true_and]
            show p1 x cs = true
            rw [p1_in hd.1 hd.2, hc]
    · obtain rfl : i = f.n := by omega
      rw [List.take_of_length_le (by rw [List.length_map]; omega)] at hP
      rw [hP]
      refine J.exit ?_
      refine J.seq ?_
      refine J.region ?_
      refine L.va rfl (X.assign (by conv => lhs; whnf)) ?_
      refine L.nil ?_
      -- ret
      refine J.ret ?_
      refine fin1 ?_
      exact ⟨rfl, he3⟩
end Go.Proofs.Ytmnlaekcojblkaa
