/-
  Manifests: the example; an argument opened.
-/
import Derived.Test.YtlohbkcedpkjaaaDoorWManG
import Derived.Test.YtlohbkcedpkjaaaDoorWManD
namespace Go.Proofs.YtlohbkcedpkjaaaDoor
set_option maxRecDepth 100000
open Go.RowKit H
open Byts Cod Seal
set_option linter.unusedVariables false
namespace Man
theorem sc_bytes {m : M} (h : may m) (hi : In m) : ∀ z ∈ sc smZ m, 0 ≤ z ∧ z < 256 := by
  intro z hzm
  unfold sc sec at hzm
  rw [List.mem_append] at hzm
  rcases hzm with h1 | h1
  · exact hd_bytes _ _ _ _ (by decide) (body_bytes h hi) z h1
  · exact smZ_bytes _ z h1
theorem man5 {w : World} {B : Nat} {vs : List Value} {x : (Nm .u64) × (Nm .u64) × (Nm .u64) × (Nm .i64) × (List ((Nm .i64) × (Nm .i64)))} (h : Lay.lies w B vs x) :
    ∃ m A c, vs = Man.vs m A c ∧ In m ∧ m.r.length ≤ maxLen ∧ Reads w B 2 A m.r.length (m.r.flatMap rV) := by
  obtain ⟨us, ws, rfl, h1, us2, ws2, rfl, h2, us3, ws3, rfl, h3, us4, ws4, rfl, h4, A, n, c, rfl, hn, hc, _, hl⟩ := h
  obtain rfl : us = [.int .u64 x.1.z] := h1
  obtain rfl : us2 = [.int .u64 x.2.1.z] := h2
  obtain rfl : us3 = [.int .u64 x.2.2.1.z] := h3
  obtain rfl : us4 = [.int .i64 x.2.2.2.1.z] := h4
  obtain ⟨l, hll, hr, _⟩ := hl.rows (X := Int × Int) (f := rV) (g := fun _ => True) (fun _ => rfl) (fun us a hl => by
    obtain ⟨u1, u2, rfl, k1, k2⟩ := hl
    exact ⟨(a.1.z, a.2.z), by rw [show u1 = [.int .i64 a.1.z] from k1, show u2 = [.int .i64 a.2.z] from k2]; rfl, trivial⟩)
  subst hll
  obtain ⟨x0, x1⟩ := x.1.u64
  obtain ⟨y0, y1⟩ := x.2.1.u64
  obtain ⟨z0, z1⟩ := x.2.2.1.u64
  exact ⟨⟨x.1.z, x.2.1.z, x.2.2.1.z, x.2.2.2.1.z, l⟩, A, c, rfl, ⟨x0, x1, y0, y1, z0, z1⟩, Nat.le_trans hn hc, hr⟩
theorem mg_len {zs : List Int} (hz : ∀ z ∈ zs, 0 ≤ z ∧ z < 256) : (mg smZ zs).1.r.length ≤ 1000000 := by
  by_cases h : (mg smZ zs).2 = 0
  · have := ((mg_in smZ hz).2 h).2.2.2.2.1
    omega
  · rw [mg_zm smZ zs h]; decide
theorem mc_len {a b : List Int} (ha : ∀ z ∈ a, 0 ≤ z ∧ z < 256) (hb : ∀ z ∈ b, 0 ≤ z ∧ z < 256) : (mc smZ a b).2.1.r.length ≤ 1000000 := by
  unfold mc
  split
  · decide
  · split
    · exact mg_len ha
    · exact mg_len hb
theorem awake23 (w : World) (ht : Tab w) : Calls Tryd.prog 8 #[] w fun e w' => e = .returned (.bool true) ∧ Ext w w' := by
  refine enter Tryd.func8 rfl (by kernel_rfl) ?_
  refine J.seq ?_
  refine J.region ?_
  refine L.va rfl (X.assign (by conv => lhs; whnf)) ?_
  refine L.nil ?_
  refine J.seq ?_
  refine J.region ?_
  refine L.va rfl (X.build (l := [_, _]) Evs.nil (bld_run Tryd.underlying59 (bp_59 Tryd.underlying59) zr_59 rfl)) ?_
  -- buildSlice
  refine L.bslice1 (l := [_, _]) rfl rfl rfl Tryd.underlying28 sz_59 zr_59 rfl ?_
  intro b1 w1 hb1 hs1 hk1 he1
  refine L.va rfl (X.build (l := [_, _, _, _, _]) (Evs.cons (by conv => lhs; whnf) (Evs.cons (by conv => lhs; whnf) Evs.nil)) (bld_run Tryd.underlying30 (bp_30 Tryd.underlying30) zr_30 rfl)) ?_
  -- callfn bushel/manifest.Put
  refine L.call rfl en_17 rfl (put_no ⟨0, 0, 0, 1, [(0, 0)]⟩ (some ⟨b1, 0, none⟩) 1 (blk_readsN (sz := 2) (q := 1) (l := rV (0, 0)) hk1 hk1.lt rfl) (Nat.le_refl _) (by decide) (by decide) (by decide)) ?_
  rintro e w2 ⟨rfl, he2⟩
  refine ⟨_, rfl, ?_⟩
  refine L.va rfl (X.move (by conv => lhs; whnf)) ?_
  refine L.va rfl (X.extract rfl rfl) ?_
  refine L.va rfl (X.extract rfl rfl) ?_
  refine L.va rfl (X.assign (by conv => lhs; whnf)) ?_
  refine L.va rfl (X.assign (by conv => lhs; whnf)) ?_
  refine L.nil ?_
  refine J.seq ?_
  refine J.region ?_
  refine L.va rfl (X.build (l := [_, _]) Evs.nil (bld_run Tryd.underlying59 (bp_59 Tryd.underlying59) zr_59 rfl)) ?_
  -- buildSlice
  refine L.bslice1 (l := [_, _]) rfl rfl rfl Tryd.underlying28 sz_59 zr_59 rfl ?_
  intro b3 w3 hb3 hs3 hk3 he3
  have hm : may ⟨3, 0, 0, 1, [(0, 0)]⟩ := by decide
  have hi : In ⟨3, 0, 0, 1, [(0, 0)]⟩ := by unfold In; decide
  refine L.va rfl (X.build (l := [_, _, _, _, _]) (Evs.cons (by conv => lhs; whnf) (Evs.cons (by conv => lhs; whnf) (Evs.cons (by conv => lhs; whnf) Evs.nil))) (bld_run Tryd.underlying30 (bp_30 Tryd.underlying30) zr_30 rfl)) ?_
  -- callfn bushel/manifest.Put
  refine L.call rfl en_17 rfl (put_yes (tab_ext ht ((he1.trans he2).trans he3)) ⟨3, 0, 0, 1, [(0, 0)]⟩ (some ⟨b3, 0, none⟩) 1 (blk_readsN (sz := 2) (q := 1) (l := rV (0, 0)) hk3 hk3.lt rfl) (Nat.le_refl _) hi hm) ?_
  rintro e w4 ⟨A4, c4, rfl, ho4, he4⟩
  refine ⟨_, rfl, ?_⟩
  have hx := ((he1.trans he2).trans he3).trans he4
  have hbd := own_bd ho4
  unfold maxLen at hbd
  refine L.va rfl (X.move (by conv => lhs; whnf)) ?_
  refine L.va rfl (X.extract rfl rfl) ?_
  refine L.va rfl (X.extract rfl rfl) ?_
  refine L.va rfl (X.assign (by conv => lhs; whnf)) ?_
  refine L.va rfl (X.assign (by conv => lhs; whnf)) ?_
  refine L.nil ?_
  refine J.seq ?_
  refine J.region ?_
  refine L.va rfl (X.move (by conv => lhs; whnf)) ?_
  -- callfn bushel/manifest.Get
  refine L.call rfl en_10 rfl (get_ A4 1024 c4 _ w4 (tab_ext ht hx) (Reads.of_own ho4) (sc_bytes hm hi) hbd.1 (by omega)) ?_
  rintro e w5 ⟨A5, c5, rfl, ho5, he5⟩
  refine ⟨_, rfl, ?_⟩
  rw [mg_sc smZ smZ_length hm hi]
  refine L.va rfl (X.move (by conv => lhs; whnf)) ?_
  refine L.va rfl (X.extract rfl rfl) ?_
  refine L.va rfl (X.extract rfl rfl) ?_
  -- alloc
  refine L.alloc rfl zr_30 ?_
  intro b6 w6 hb6 hs6 hk6 he6
  -- store
  refine L.storeAgg (vs := [_, _, _, _, _]) rfl rfl rfl rfl sz_30 (hk6) rfl ?_
  intro w7 hk7 hg7 hs7
  have he57 : Ext w5 w7 := he6.grw hg7 (by intro g hg; injection hg with hg; omega)
  refine L.va rfl (X.assign (by conv => lhs; whnf)) ?_
  refine L.nil ?_
  refine J.seq ?_
  refine J.region ?_
  refine L.va rfl (X.move (by conv => lhs; whnf)) ?_
  refine L.va rfl (X.eql rfl rfl) ?_
  refine L.va rfl (X.move (by conv => lhs; whnf)) ?_
  -- case t28
  refine L.caseDecT (k := 28) rfl (by rfl) ?_
  refine L.va rfl (X.move (by conv => lhs; whnf)) ?_
  refine L.va rfl (X.eql rfl rfl) ?_
  refine L.va rfl (X.pickT rfl (by conv => lhs; whnf)) ?_
  refine L.va rfl (X.move (by conv => lhs; whnf)) ?_
  -- case t32
  refine L.caseDecT (k := 32) rfl (by rfl) ?_
  refine L.va rfl (X.move (by conv => lhs; whnf)) ?_
  refine L.va rfl (X.eql rfl rfl) ?_
  refine L.va rfl (X.pickT rfl (by conv => lhs; whnf)) ?_
  refine L.va rfl (X.move (by conv => lhs; whnf)) ?_
  -- case t36
  refine L.caseDecT (k := 36) rfl (by rfl) ?_
  refine L.va rfl (X.fieldAddr rfl Tryd.underlying30 rfl sz_22 (by decide)) ?_
  refine L.va rfl (X.load rfl sc_22 (by first | exact Ld.blk hk7 rfl)) ?_
  refine L.va rfl (X.eql rfl rfl) ?_
  refine L.va rfl (X.pickT rfl (by conv => lhs; whnf)) ?_
  refine L.va rfl (X.move (by conv => lhs; whnf)) ?_
  -- case t41
  refine L.caseDecT (k := 41) rfl (by rfl) ?_
  refine L.va rfl (X.fieldAddr rfl Tryd.underlying30 rfl sz_3 (by decide)) ?_
  refine L.va rfl (X.load rfl sc_3 (by first | exact Ld.blk hk7 rfl)) ?_
  refine L.va rfl (X.eql rfl rfl) ?_
  refine L.va rfl (X.pickT rfl (by conv => lhs; whnf)) ?_
  refine L.va rfl (X.move (by conv => lhs; whnf)) ?_
  -- case t46
  refine L.caseDecT (k := 46) rfl (by rfl) ?_
  refine L.va rfl (X.fieldAddr rfl Tryd.underlying30 rfl sz_28 (by decide)) ?_
  refine L.va rfl (X.load rfl sc_28 (by first | exact Ld.blk hk7 rfl)) ?_
  refine L.va rfl (X.len rfl Tryd.underlying28) ?_
  refine L.va rfl (X.eql rfl rfl) ?_
  refine L.va rfl (X.pickT rfl (by conv => lhs; whnf)) ?_
  refine L.va rfl (X.assign (by conv => lhs; whnf)) ?_
  refine L.nil ?_
  -- ret
  refine J.ret ?_
  refine fin1 ?_
  exact ⟨rfl, (hx.trans he5).trans he57⟩
end Man
end Go.Proofs.YtlohbkcedpkjaaaDoor
