/-
  The examples of chapter 28.
-/
import Derived.Test.YtlipeplfjkgamaaWNrmF
import Derived.Test.YtlipeplfjkgamaaWQryIn
namespace Go.Proofs.Ytlipeplfjkgamaa
set_option maxRecDepth 100000
open Go.RowKit H
open Nrm (nrm)
set_option linter.unusedVariables false
abbrev sC (b1 : Nat) : Sch := ⟨some ⟨b1, 0, none⟩, 1, 1, none, 0, 0, none, 0, 0, none, 0, 0, [(aA, 4)], [], [], []⟩
theorem sC_code (b1 : Nat) : (sC b1).code = 0 := by
  show chk 1 0 0 0 [(aA, 4)] [] [] [] = 0
  decide +kernel
theorem sC_here (b1 : Nat) {w : World} (h1 : Blk w b1 128 (dimsV [(aA, 4)]).toArray) : (sC b1).Here w :=
  ⟨blk_readsN h1 h1.lt rfl, Reads.none_, Reads.none_, Reads.none_, fun i => ⟨by simp, by simp⟩, (show 1 ≤ 100 ∧ 0 ≤ 100 ∧ 0 ≤ 100 ∧ 0 ≤ 100 by decide)⟩
theorem sC_szs (b1 : Nat) : szs (sC b1) (sC b1).nd = [4] := rfl
theorem fcode_ok {s : Sch} {f : Fis} (hc : s.code = 0) (hn : f.n ≤ 20) (h : ∀ x, x ∈ f.l → fE s x = 0) : fcode s f = 0 := by
  unfold fcode
  rw [if_neg (fun k => k hc), if_neg (by omega)]
  exact fst_0 (d := fi0) fun j hj => h _ (memF hj)
abbrev fC (b2 b3 b4 : Nat) : Fis := ⟨some ⟨b4, 0, none⟩, 2, 2, [⟨0, some ⟨b2, 0, none⟩, 2, 2, [1, 2]⟩, ⟨0, some ⟨b3, 0, none⟩, 2, 2, [3, 2]⟩]⟩
abbrev fC4 (b2 b3 : Nat) : Fis := ⟨some ⟨b3, 0, none⟩, 1, 1, [⟨0, some ⟨b2, 0, none⟩, 4, 4, [0, 1, 3, 2]⟩]⟩
abbrev fC1 (b2 b3 : Nat) : Fis := ⟨some ⟨b3, 0, none⟩, 1, 1, [⟨0, some ⟨b2, 0, none⟩, 1, 1, [2]⟩]⟩
theorem fEC (b1 : Nat) {A : Option Addr} {n c : Nat} {l : List Int} (hn : n ≤ 4) (h : ∀ i, i < n → 0 ≤ l.getD i 0 ∧ l.getD i 0 < 4) : fE (sC b1) ⟨0, A, n, c, l⟩ = 0 :=
  fE_0 (show ¬ ((0 : Int) < 0 ∨ (1 : Int) ≤ 0) by decide) (show ¬ 4096 < n by omega) (fun i hi => h i hi)
theorem fC_code (b1 b2 b3 b4 : Nat) : fcode (sC b1) (fC b2 b3 b4) = 0 :=
  fcode_ok (sC_code b1) (show 2 ≤ 20 by decide) (by
    intro x hx
    rcases List.mem_cons.1 hx with rfl | hx
    · exact fEC b1 (by decide) (by decide)
    · rcases List.mem_cons.1 hx with rfl | hx
      · exact fEC b1 (by decide) (by decide)
      · cases hx)
theorem fC4_code (b1 b2 b3 : Nat) : fcode (sC b1) (fC4 b2 b3) = 0 :=
  fcode_ok (sC_code b1) (show 1 ≤ 20 by decide) (by
    intro x hx
    rcases List.mem_cons.1 hx with rfl | hx
    · exact fEC b1 (by decide) (by decide)
    · cases hx)
theorem fC_nrm : nrm [(0, [1, 2]), (0, [3, 2])] 0 [4] = [(0, [2])] := by decide +kernel
theorem fC4_nrm : nrm [(0, [0, 1, 3, 2])] 0 [4] = [] := by decide +kernel
theorem awake28 (w : World) : Calls Try.prog 50 #[] w fun e w' => e = .returned (.bool true) ∧ Ext w w' := by
  refine enter Try.func50 rfl (by kernel_rfl) ?_
  refine J.seq ?_
  refine J.region ?_
  refine L.va rfl (X.assign (by conv => lhs; whnf)) ?_
  refine L.nil ?_
  refine J.seq ?_
  refine J.region ?_
  refine L.va rfl (X.build (l := [_, _]) (Evs.cons (by conv => lhs; whnf) (Evs.cons (by conv => lhs; whnf) Evs.nil)) (bld_run Try.underlying128 (bp_128 Try.underlying128) zr_128 rfl)) ?_
  -- buildSlice
  refine L.bslice1 (l := [_, _]) rfl rfl rfl Try.underlying45 sz_128 zr_128 rfl ?_
  intro b1 w1 hb1 hs1 hk1 he1
  refine L.va rfl (X.build (l := [_, _, _, _]) (Evs.cons (by conv => lhs; whnf) Evs.nil) (bld_run Try.underlying49 (bp_49 Try.underlying49) zr_49 rfl)) ?_
  -- alloc
  refine L.alloc rfl zr_49 ?_
  intro b2 w2 hb2 hs2 hk2 he2
  -- store
  refine L.storeAgg (vs := [_, _, _, _]) rfl rfl rfl rfl sz_49 (hk2) rfl ?_
  intro w3 hk3 hg3 hs3
  have he13 : Ext w1 w3 := he2.grw hg3 (by intro g hg; injection hg with hg; omega)
  have he03 := he1.trans he13
  have hk13 := hk1.ext he13
  have H3 : (sC b1).Here w3 := sC_here b1 hk13
  refine L.nil ?_
  refine J.seq ?_
  refine J.region ?_
  refine L.va rfl ((by first | exact X.loadAgg rfl (range_l hk3) Try.underlying49 rfl (by kernel_rfl) | exact X.loadAgg rfl (range_blk hk3) Try.underlying49 rfl (by kernel_rfl))) ?_
  -- buildSlice
  refine L.bslice (vs := [_, _]) rfl (Evs.cons (by conv => lhs; whnf) (Evs.cons (by conv => lhs; whnf) Evs.nil)) rfl rfl rfl rfl Try.underlying23 sz_3 zr_3 (by decide) ?_
  intro b4 w4 hb4 hs4 hk4 he4
  refine L.va rfl (X.build (l := [_, _]) (Evs.cons (by conv => lhs; whnf) Evs.nil) (bld_run Try.underlying150 (bp_150 Try.underlying150) zr_150 rfl)) ?_
  -- buildSlice
  refine L.bslice (vs := [_, _]) rfl (Evs.cons (by conv => lhs; whnf) (Evs.cons (by conv => lhs; whnf) Evs.nil)) rfl rfl rfl rfl Try.underlying23 sz_3 zr_3 (by decide) ?_
  intro b5 w5 hb5 hs5 hk5 he5
  refine L.va rfl (X.build (l := [_, _]) (Evs.cons (by conv => lhs; whnf) Evs.nil) (bld_run Try.underlying150 (bp_150 Try.underlying150) zr_150 rfl)) ?_
  -- buildSlice
  refine L.bsliceR (ls := [[_, _], [_, _]]) rfl (Evs.cons (by conv => lhs; whnf) (Evs.cons (by conv => lhs; whnf) Evs.nil)) rfl rfl rfl rfl Try.underlying51 sz_150 zr_150 (by decide) ?_
  intro b6 w6 hb6 hs6 hk6 he6
  have he46 := he5.trans he6
  have he36 := he4.trans he46
  have hk46 := hk4.ext he46
  have hk56 := hk5.ext he6
  have q6 : (fC b4 b5 b6).At w6.heap.size w6 := ⟨blk_readsN hk6 hk6.lt rfl, (fun x hx => by
    rcases List.mem_cons.1 hx with rfl | hx
    · exact ⟨blk_reads hk46 hk46.lt rfl, (show 2 ≤ maxLen by decide)⟩
    · rcases List.mem_cons.1 hx with rfl | hx
      · exact ⟨blk_reads hk56 hk56.lt rfl, (show 2 ≤ maxLen by decide)⟩
      · cases hx), rfl, (show 2 ≤ maxLen by decide)⟩
  replace hk3 := hk3.ext he36
  -- callfn bushel/filter.Norm
  have c1 := fnorm_ok (H3.ext he36) q6 (fC_code b1 b4 b5 b6)
  refine L.call rfl en_87 rfl (c1) ?_
  rintro e w7 ⟨r, rfl, hr, hrk, he7⟩
  refine ⟨_, rfl, ?_⟩
  rw [sC_szs] at hrk
  have hrk : r.l.map Fi.key = [(0, [2])] := hrk.trans fC_nrm
  have he37 := he36.trans he7
  have hr7 := hr.at
  replace hk3 := hk3.ext he7
  refine L.va rfl (X.move (by conv => lhs; whnf)) ?_
  refine L.va rfl (X.extract rfl rfl) ?_
  refine L.va rfl (X.extract rfl rfl) ?_
  refine L.va rfl (X.assign (by conv => lhs; whnf)) ?_
  refine L.va rfl (X.assign (by conv => lhs; whnf)) ?_
  refine L.nil ?_
  refine J.seq ?_
  refine J.region ?_
  refine L.va rfl ((by first | exact X.loadAgg rfl (range_l hk3) Try.underlying49 rfl (by kernel_rfl) | exact X.loadAgg rfl (range_blk hk3) Try.underlying49 rfl (by kernel_rfl))) ?_
  -- buildSlice
  refine L.bslice (vs := [_, _, _, _]) rfl (Evs.cons (by conv => lhs; whnf) (Evs.cons (by conv => lhs; whnf) (Evs.cons (by conv => lhs; whnf) (Evs.cons (by conv => lhs; whnf) Evs.nil)))) rfl rfl rfl rfl Try.underlying23 sz_3 zr_3 (by decide) ?_
  intro b8 w8 hb8 hs8 hk8 he8
  refine L.va rfl (X.build (l := [_, _]) (Evs.cons (by conv => lhs; whnf) Evs.nil) (bld_run Try.underlying150 (bp_150 Try.underlying150) zr_150 rfl)) ?_
  -- buildSlice
  refine L.bslice1 (l := [_, _]) rfl rfl rfl Try.underlying51 sz_150 zr_150 rfl ?_
  intro b9 w9 hb9 hs9 hk9 he9
  have he39 := (he37.trans he8).trans he9
  have hk89 := hk8.ext he9
  have q9 : (fC4 b8 b9).At w9.heap.size w9 := ⟨blk_readsN hk9 hk9.lt rfl, (fun x hx => by
    rcases List.mem_cons.1 hx with rfl | hx
    · exact ⟨blk_reads hk89 hk89.lt rfl, (show 4 ≤ maxLen by decide)⟩
    · cases hx), rfl, (show 1 ≤ maxLen by decide)⟩
  have c2 := fnorm_ok (H3.ext he39) q9 (fC4_code b1 b8 b9)
  have he79 := he8.trans he9
  replace hk3 := hk3.ext he79
  -- callfn bushel/filter.Norm
  refine L.call rfl en_87 rfl (c2) ?_
  rintro e wa ⟨r2, rfl, hr2, hrk2, hea⟩
  refine ⟨_, rfl, ?_⟩
  rw [sC_szs] at hrk2
  have hrk2 : r2.l.map Fi.key = [] := hrk2.trans fC4_nrm
  obtain ⟨A2, n2, d2, l2⟩ := r2
  have hn2 : n2 = 0 := by
    have := hr2.l
    rw [show l2 = [] from List.map_eq_nil_iff.1 hrk2] at this
    exact this.symm
  have he3a := he39.trans hea
  have hra := hr7.ext ((he8.trans he9).trans hea)
  subst hn2
  refine L.va rfl (X.move (by conv => lhs; whnf)) ?_
  refine L.va rfl (X.extract rfl rfl) ?_
  refine L.va rfl (X.extract rfl rfl) ?_
  refine L.va rfl (X.assign (by conv => lhs; whnf)) ?_
  refine L.va rfl (X.assign (by conv => lhs; whnf)) ?_
  refine L.nil ?_
  refine J.seq ?_
  refine J.region ?_
  refine L.va rfl (X.move (by conv => lhs; whnf)) ?_
  refine L.va rfl (X.eql rfl rfl) ?_
  refine L.va rfl (X.move (by conv => lhs; whnf)) ?_
  -- case t29
  refine L.caseDecT (k := 29) rfl (by rfl) ?_
  refine L.va rfl (X.move (by conv => lhs; whnf)) ?_
  -- buildSlice
  refine L.bslice (vs := [_]) rfl (Evs.cons (by conv => lhs; whnf) Evs.nil) rfl rfl rfl rfl Try.underlying23 sz_3 zr_3 (by decide) ?_
  intro bb wb hbb hsb hkb heb
  refine L.va rfl (X.build (l := [_, _]) (Evs.cons (by conv => lhs; whnf) Evs.nil) (bld_run Try.underlying150 (bp_150 Try.underlying150) zr_150 rfl)) ?_
  -- buildSlice
  refine L.bslice1 (l := [_, _]) rfl rfl rfl Try.underlying51 sz_150 zr_150 rfl ?_
  intro bc wc hbc hsc hkc hec
  have hkbc := hkb.ext hec
  have heac := heb.trans hec
  have qc : (fC1 bb bc).At wc.heap.size wc := ⟨blk_readsN hkc hkc.lt rfl, (fun x hx => by
    rcases List.mem_cons.1 hx with rfl | hx
    · exact ⟨blk_reads hkbc hkbc.lt rfl, (show 1 ≤ maxLen by decide)⟩
    · cases hx), rfl, (show 1 ≤ maxLen by decide)⟩
  have c3 := rsame28 ((hra.ext heac).more (((he8.trans he9).trans hea).trans heac).le) qc
  rw [hrk] at c3
  -- callfn bushel/bushelref28.Same
  refine L.call rfl en_101 rfl (c3) ?_
  rintro e wd ⟨rfl, hed⟩
  refine ⟨_, rfl, ?_⟩
  refine L.va rfl (X.pickT rfl (by conv => lhs; whnf)) ?_
  refine L.va rfl (X.move (by conv => lhs; whnf)) ?_
  -- case t36
  refine L.caseBT (k := 36) rfl (by rfl) ?_
  refine L.va rfl (X.move (by conv => lhs; whnf)) ?_
  refine L.va rfl (X.eql rfl rfl) ?_
  refine L.va rfl (X.pickT rfl (by conv => lhs; whnf)) ?_
  refine L.va rfl (X.move (by conv => lhs; whnf)) ?_
  -- case t40
  refine L.caseDecT (k := 40) rfl (by rfl) ?_
  refine L.va rfl (X.move (by conv => lhs; whnf)) ?_
  refine L.va rfl (X.len rfl Try.underlying51) ?_
  refine L.va rfl (X.eql rfl rfl) ?_
  refine L.va rfl (X.pickT rfl (by conv => lhs; whnf)) ?_
  refine L.va rfl (X.assign (by conv => lhs; whnf)) ?_
  refine L.nil ?_
  -- ret
  refine J.ret ?_
  refine fin1 ?_
  exact ⟨rfl, (((he03.trans he3a).trans heac).trans hed)⟩
end Go.Proofs.Ytlipeplfjkgamaa
