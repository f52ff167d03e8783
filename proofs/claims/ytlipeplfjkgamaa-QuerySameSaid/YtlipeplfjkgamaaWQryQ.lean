/-
  A plain query may be; the example of chapter 29.
-/
import Derived.Test.YtlipeplfjkgamaaWQryP
import Derived.Test.YtlipeplfjkgamaaNrmOk
import Derived.Test.YtlipeplfjkgamaaWQryF
namespace Go.Proofs.Ytlipeplfjkgamaa
set_option maxRecDepth 100000
open Go.RowKit H
open Nrm (nrm)
set_option linter.unusedVariables false
theorem qc_all {s : Sch} {q : Qu} (h : qcode s q = 0) : (∀ i, i < q.nc → colOk s (q.c.getD i c0)) ∧ (∀ i, i < q.no → q.oOk (q.o.getD i o0)) ∧ ¬ q.m < 0 := by
  obtain ⟨h1, h2, h3, h4⟩ := qc_ok h
  unfold qcode at h
  rw [if_neg (fun k => k h1), if_neg (fun k => k h2), if_neg (fun k => k h3), if_neg h4] at h
  have hn : ¬ ((∃ i, i < q.nc ∧ ¬ colOk s (q.c.getD i c0)) ∨ (∃ i, i < q.no ∧ ¬ q.oOk (q.o.getD i o0)) ∨ q.m < 0) := by
    intro k
    rw [if_pos k] at h
    cases h
  refine ⟨fun i hi => Decidable.byContradiction fun k => hn (.inl ⟨i, hi, k⟩), fun i hi => Decidable.byContradiction fun k => hn (.inr (.inl ⟨i, hi, k⟩)), fun k => hn (.inr (.inr k))⟩
/-- what is in plain form may be -/
theorem qn_ok {s : Sch} {q r : Qu} {w w' : World} {N N' : Nat} (H : s.Here w) (hc : qcode s q = 0) (hq : q.At N w) (hr : r.At N' w') (K : Qn s q r) : qcode s r = 0 := by
  obtain ⟨h1, h2, h3, h4⟩ := qc_ok hc
  obtain ⟨k1, k2, k3⟩ := qc_all hc
  have e1 : r.nc = q.nc := by rw [← hr.lc, ← hq.lc, K.c]
  have e2 : r.no ≤ q.no := by
    rw [← hr.lo, ← hq.lo, K.o]
    have := dd_len q.o []
    rw [List.length_nil, Nat.zero_add] at this
    exact this
  refine qc_0 h1 (by rw [K.g]; exact h2) (nrm_ok (fok hq.f.l h3) hr.f.l (fun x hx => (hr.f.h x hx).len) H.len K.k) (by rw [e1]; omega) (fun i hi => by rw [K.c]; exact k1 i (by omega)) (fun i hi => ?_) (by rw [K.m]; exact k3)
  have hm : r.o.getD i o0 ∈ q.o := by
    have : r.o.getD i o0 ∈ dd q.o := by
      rw [← K.o]
      exact List.mem_of_getElem? (gtO (by rw [hr.lo]; exact hi))
    rcases dd_mem q.o [] this with h | h
    · cases h
    · exact h
  obtain ⟨j, hj, e⟩ := List.getElem_of_mem hm
  have := k2 j (by rw [← hq.lo]; exact hj)
  rw [List.getD, List.getElem?_eq_getElem hj, Option.getD_some, e] at this
  show 0 ≤ _ ∧ _ < (r.nc : Int)
  rw [e1]
  exact this
abbrev qC (b2 b3 : Nat) : Qu := ⟨0, ⟨none, 0, 0, []⟩, some ⟨b2, 0, none⟩, 2, 2, [(0, 0), (0, 0)], some ⟨b3, 0, none⟩, 3, 3, [(0, false), (1, true), (0, true)], 0⟩
abbrev q0 : Qu := ⟨0, ⟨none, 0, 0, []⟩, none, 0, 0, [], none, 0, 0, [], 0⟩
theorem q0_at {w : World} {N : Nat} : q0.At N w := ⟨by decide, ⟨Reads.none_, (fun x hx => by cases hx), rfl, Nat.zero_le _⟩, Reads.none_, rfl, Nat.zero_le _, Reads.none_, rfl, Nat.zero_le _⟩
theorem fis0_code (b1 : Nat) : fcode (sC b1) ⟨none, 0, 0, []⟩ = 0 := fcode_ok (sC_code b1) (Nat.zero_le _) (by intro x hx; cases hx)
theorem q0_code (b1 : Nat) : qcode (sC b1) q0 = 3 := qc_3 (sC_code b1) (by show (0 : Int) ≤ (sC 0).F; decide +kernel) (fis0_code b1) (.inl (by decide))
theorem qC_code (b1 b2 b3 : Nat) : qcode (sC b1) (qC b2 b3) = 0 := by
  refine qc_0 (sC_code b1) (by show (0 : Int) ≤ (sC 0).F; decide +kernel) (fis0_code b1) (by show ¬ (2 < 1 ∨ 16 < 2 ∨ 8 < 3); decide) (fun i hi => ?_) (fun i hi => ?_) (by show ¬ (0 : Int) < 0; decide)
  · have hi : i < 2 := hi
    have : i = 0 ∨ i = 1 := by omega
    rcases this with rfl | rfl
    · show colOk (sC 0) (0, 0); decide +kernel
    · show colOk (sC 0) (0, 0); decide +kernel
  · have hi : i < 3 := hi
    have : i = 0 ∨ i = 1 ∨ i = 2 := by omega
    rcases this with rfl | rfl | rfl
    · show (0 : Int) ≤ 0 ∧ (0 : Int) < 2; decide
    · show (0 : Int) ≤ 1 ∧ (1 : Int) < 2; decide
    · show (0 : Int) ≤ 0 ∧ (0 : Int) < 2; decide
theorem awake29 (w : World) : Calls Try.prog 31 #[] w fun e w' => e = .returned (.bool true) ∧ Ext w w' := by
  refine enter Try.func31 rfl (by kernel_rfl) ?_
  refine J.seq ?_
  refine J.region ?_
  refine L.va rfl (X.assign (by conv => lhs; whnf)) ?_
  refine L.nil ?_
  refine J.seq ?_
  refine J.region ?_
  refine L.va rfl (X.build (l := [_, _]) (Evs.cons (by conv => lhs; whnf) (Evs.cons (by conv => lhs; whnf) Evs.nil)) (bld_run Try.underlying128 (bp_128 Try.underlying128) zr_128 rfl)) ?_
  -- buildSlice
  refine L.bslice1 (l := [_, _]) rfl rfl rfl Try.underlying45 sz_128 zr_128 rfl ?_
  intro b1 w1 hb1 hs1 hk1 he1
  refine L.va rfl (X.build (l := [_, _, _, _]) (Evs.cons (by conv => lhs; whnf) Evs.nil) (bld_run Try.underlying49 (bp_49 Try.underlying49) zr_49 rfl)) ?_
  -- alloc
  refine L.alloc rfl zr_49 ?_
  intro b2 w2 hb2 hs2 hk2 he2
  -- store
  refine L.storeAgg (vs := [_, _, _, _]) rfl rfl rfl rfl sz_49 (hk2) rfl ?_
  intro w3 hk3 hg3 hs3
  have he13 : Ext w1 w3 := he2.grw hg3 (by intro g hg; injection hg with hg; omega)
  have he03 := he1.trans he13
  have hk13 := hk1.ext he13
  have H3 : (sC b1).Here w3 := sC_here b1 hk13
  refine L.nil ?_
  refine J.seq ?_
  refine J.region ?_
  refine L.va rfl ((by first | exact X.loadAgg rfl (range_l hk3) Try.underlying49 rfl (by kernel_rfl) | exact X.loadAgg rfl (range_blk hk3) Try.underlying49 rfl (by kernel_rfl))) ?_
  refine L.va rfl (X.build (l := [_, _]) Evs.nil (bld_run Try.underlying130 (bp_130 Try.underlying130) zr_130 rfl)) ?_
  refine L.va rfl (X.build (l := [_, _]) Evs.nil (bld_run Try.underlying130 (bp_130 Try.underlying130) zr_130 rfl)) ?_
  -- buildSlice
  refine L.bsliceR (ls := [[_, _], [_, _]]) rfl (Evs.cons (by conv => lhs; whnf) (Evs.cons (by conv => lhs; whnf) Evs.nil)) rfl rfl rfl rfl Try.underlying52 sz_130 zr_130 (by decide) ?_
  intro b4 w4 hb4 hs4 hk4 he4
  refine L.va rfl (X.build (l := [_, _]) (Evs.cons (by conv => lhs; whnf) Evs.nil) (bld_run Try.underlying98 (bp_98 Try.underlying98) zr_98 rfl)) ?_
  refine L.va rfl (X.build (l := [_, _]) (Evs.cons (by conv => lhs; whnf) (Evs.cons (by conv => lhs; whnf) Evs.nil)) (bld_run Try.underlying98 (bp_98 Try.underlying98) zr_98 rfl)) ?_
  refine L.va rfl (X.build (l := [_, _]) (Evs.cons (by conv => lhs; whnf) (Evs.cons (by conv => lhs; whnf) Evs.nil)) (bld_run Try.underlying98 (bp_98 Try.underlying98) zr_98 rfl)) ?_
  -- buildSlice
  refine L.bsliceR (ls := [[_, _], [_, _], [_, _]]) rfl (Evs.cons (by conv => lhs; whnf) (Evs.cons (by conv => lhs; whnf) (Evs.cons (by conv => lhs; whnf) Evs.nil))) rfl rfl rfl rfl Try.underlying22 sz_98 zr_98 (by decide) ?_
  intro b5 w5 hb5 hs5 hk5 he5
  have hk45 := hk4.ext he5
  have he35 := he4.trans he5
  have q5 : (qC b4 b5).At w5.heap.size w5 := ⟨(by show 0 < 4294967296; decide), ⟨Reads.none_, (fun x hx => by cases hx), rfl, Nat.zero_le _⟩, blk_readsN hk45 hk45.lt rfl, rfl, (by decide : 2 ≤ maxLen), blk_readsN hk5 hk5.lt rfl, rfl, (by decide : 3 ≤ maxLen)⟩
  have c1 := qnorm_ok (H3.ext he35) q5 (qC_code b1 b4 b5)
  replace hk3 := hk3.ext he35
  refine L.va rfl (X.build (l := [_, _, _, _, _]) (Evs.cons (by conv => lhs; whnf) (Evs.cons (by conv => lhs; whnf) Evs.nil)) (bld_run Try.underlying54 (bp_54 Try.underlying54) zr_54 rfl)) ?_
  -- callfn bushel/query.Norm
  refine L.call rfl en_32 rfl (c1) ?_
  rintro e w6 ⟨r, rfl, hr, K, he6⟩
  refine ⟨_, rfl, ?_⟩
  have he06 := (he03.trans he35).trans he6
  have ho : r.o = [(0, false), (1, true)] := K.o
  have hno : r.no = 2 := by rw [← hr.lo, ho]; rfl
  have z6 := he6.le
  replace hk3 := hk3.ext he6
  refine L.va rfl (X.move (by conv => lhs; whnf)) ?_
  refine L.va rfl (X.extract rfl rfl) ?_
  refine L.va rfl (X.extract rfl rfl) ?_
  -- alloc
  refine L.alloc rfl zr_54 ?_
  intro b7 w7 hb7 hs7 hk7 he7
  replace hk3 := hk3.ext he7
  -- store
  refine L.storeAgg (vs := [_, _, _, _, _]) rfl rfl rfl rfl sz_54 (hk7) rfl ?_
  intro w8 hk8 hg8 hs8
  have he68 : Ext w6 w8 := he7.grw hg8 (by intro g hg; injection hg with hg; omega)
  have hk8 : Blk w8 b7 54 r.vs.toArray := hk8
  have hk38 := hk3.grown hg8 (by intro e; injection e with e; have := hk3.lt; omega)
  have r8 := hr.ext he68
  have he08 := he06.trans he68
  have hA := r8.o.some_ (by omega)
  have hgt := gtO (l := r.o) (i := 1) (by rw [ho]; decide)
  have e1 : r.o.getD 1 o0 = (1, true) := by rw [ho]; rfl
  rw [e1] at hgt
  refine L.va rfl (X.assign (by conv => lhs; whnf)) ?_
  refine L.nil ?_
  refine J.seq ?_
  refine J.region ?_
  refine L.va rfl (X.move (by conv => lhs; whnf)) ?_
  refine L.va rfl (X.eql rfl rfl) ?_
  refine L.va rfl (X.move (by conv => lhs; whnf)) ?_
  -- case t22
  refine L.caseDecT (k := 22) rfl (by rfl) ?_
  refine L.va rfl (X.fieldAddr rfl Try.underlying54 rfl sz_22 (by decide)) ?_
  refine L.va rfl (X.load rfl sc_22 (by first | exact Ld.blk hk8 rfl | exact Ld.blk hk38 rfl)) ?_
  refine L.va rfl (X.len rfl Try.underlying22) ?_
  refine L.va rfl (X.eql rfl rfl) ?_
  refine L.va rfl (X.pickT rfl (by conv => lhs; whnf)) ?_
  refine L.va rfl (X.move (by conv => lhs; whnf)) ?_
  -- case t28
  refine L.caseDecT (k := 28) rfl (by exact (show ((r.no : Nat) : Int) = 2 by omega)) ?_
  -- t32
  -- t34
  refine L.va rfl (X.fieldAddr rfl Try.underlying54 rfl sz_22 (by decide)) ?_
  refine L.va rfl (X.load rfl sc_22 (by first | exact Ld.blk hk8 rfl | exact Ld.blk hk38 rfl | exact hA | exact Ld.flat2 oV_len (r8.o) hgt (r := 0) rfl | exact Ld.flat2 oV_len (r8.o) hgt (r := 1) rfl)) ?_
  refine L.va rfl (X.indexAddrn (j := 1) rfl rfl Try.underlying22 sz_98 (by first | exact Option.some_ne_none _ | exact hA) (by omega)) ?_
  refine L.va rfl (X.loadRow (cs := oV (1, true)) rfl r8.o (fun r u hu => flat_row oV_len hgt r u hu) (Nat.zero_lt_succ _) Try.underlying98 rfl (by kernel_rfl)) ?_
  refine L.va rfl (X.build (l := [_, _]) (Evs.cons (by conv => lhs; whnf) (Evs.cons (by conv => lhs; whnf) Evs.nil)) (bld_run Try.underlying98 (bp_98 Try.underlying98) zr_98 rfl)) ?_
  refine L.va rfl (X.eqlTwo two_srt rfl rfl sc_3 sc_4 (eq_int Try.underlying3) (eq_boo Try.underlying4)) ?_
  refine L.va rfl (X.pickT rfl (by conv => lhs; whnf)) ?_
  refine L.va rfl (X.move (by conv => lhs; whnf)) ?_
  -- case t36
  refine L.caseBT (k := 36) rfl (by rfl) ?_
  refine L.va rfl ((by first | exact X.loadAgg rfl (range_l hk8) Try.underlying49 rfl (by kernel_rfl) | exact X.loadAgg rfl (range_blk hk8) Try.underlying49 rfl (by kernel_rfl) | exact X.loadAgg rfl (range_l hk38) Try.underlying49 rfl (by kernel_rfl) | exact X.loadAgg rfl (range_blk hk38) Try.underlying49 rfl (by kernel_rfl))) ?_
  refine L.va rfl (X.build (l := [_, _, _, _, _]) Evs.nil (bld_run Try.underlying54 (bp_54 Try.underlying54) zr_54 rfl)) ?_
  -- callfn bushel/query.Check
  have c2 := qcheck (H3.ext ((he35.trans he6).trans he68)) (q0_at (N := w8.heap.size))
  refine L.call rfl en_33 rfl (c2) ?_
  rintro e w9 ⟨rfl, he9⟩
  refine ⟨_, rfl, ?_⟩
  rw [q0_code]
  refine L.va rfl (X.eql rfl rfl) ?_
  refine L.va rfl (X.pickT rfl (by conv => lhs; whnf)) ?_
  refine L.va rfl (X.assign (by conv => lhs; whnf)) ?_
  refine L.nil ?_
  -- ret
  refine J.ret ?_
  refine fin1 ?_
  exact ⟨rfl, he08.trans he9⟩
end Go.Proofs.Ytlipeplfjkgamaa
