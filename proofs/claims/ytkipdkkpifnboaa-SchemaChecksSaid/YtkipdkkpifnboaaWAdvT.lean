/-
  The laws of package advise: what wakes them.
-/
import Derived.Test.YtkipdkkpifnboaaWAdvS
import Derived.Test.YtkipdkkpifnboaaOpen
namespace Go.Proofs.Ytkipdkkpifnboaa
open Go.RowKit H
open Mk Ad
set_option linter.unusedVariables false
theorem awake18 (w : World) : Calls Try.prog 15 #[] w fun e w' => e = .returned (.bool true) ∧ Ext w w' := by
  have hask : askE 1 [1, 9] = 0 := by decide
  have hch : chL 1 [1, 9] 2 = [0] := by unfold chL; rw [if_pos hask]; decide
  have hg0 : gnE 1 [1, 9] [0] = 0 := by unfold gnE; rw [hask]; decide
  have hg1 : gnE 1 [1, 9] [] = 0 := by unfold gnE; rw [hask]; decide
  have hc0 : coV 1 [1, 9] [0] = 10 := by unfold coV; rw [if_pos hg0]; decide
  have hc1 : coV 1 [1, 9] [] = 18 := by unfold coV; rw [if_pos hg1]; decide
  have ho : Ext w w := Ext.refl w
  refine enter Try.func15 rfl (by kernel_rfl) ?_
  refine J.seq ?_
  refine J.region ?_
  refine L.va rfl (X.assign (by conv => lhs; whnf)) ?_
  refine L.nil ?_
  refine J.seq ?_
  refine J.region ?_
  -- buildSlice
  refine L.bslice (vs := [_, _]) rfl (Evs.cons (by conv => lhs; whnf) (Evs.cons (by conv => lhs; whnf) Evs.nil)) rfl rfl rfl rfl Try.underlying22 sz_2 zr_2 (by decide) ?_
  intro b1 w1 hb1 hs1 hk1 he1
  replace ho := ho.trans he1
  -- callfn bushel/advise.Choose
  have ka := advchoose_any 1 (some ⟨b1, 0, none⟩) 2 2 2 [1, 9] w1 (blk_reads hk1 (by omega) rfl) (by decide)
  rw [hch, hask] at ka
  refine L.call rfl en_20 rfl (ka) ?_
  rintro e w2 ⟨A2, c2, rfl, hc, he2⟩
  refine ⟨_, rfl, ?_⟩
  have he2 : Ext w1 w2 := he2
  replace ho := ho.trans he2
  refine L.va rfl (X.move (by conv => lhs; whnf)) ?_
  refine L.va rfl (X.extract rfl rfl) ?_
  refine L.va rfl (X.extract rfl rfl) ?_
  refine L.va rfl (X.assign (by conv => lhs; whnf)) ?_
  refine L.va rfl (X.assign (by conv => lhs; whnf)) ?_
  refine L.nil ?_
  refine J.seq ?_
  refine J.region ?_
  -- buildSlice
  refine L.bslice (vs := [_, _]) rfl (Evs.cons (by conv => lhs; whnf) (Evs.cons (by conv => lhs; whnf) Evs.nil)) rfl rfl rfl rfl Try.underlying22 sz_2 zr_2 (by decide) ?_
  intro b3 w3 hb3 hs3 hk3 he3
  replace hc := hc.ext he3
  replace ho := ho.ext he3
  refine L.va rfl (X.move (by conv => lhs; whnf)) ?_
  -- callfn bushel/advise.Cost
  have kb := advcost_any 1 (some ⟨b3, 0, none⟩) 2 2 A2 1 c2 [1, 9] [0] w3 (blk_reads hk3 (by omega) rfl) (by decide) (own_reads hc) (by decide) (by decide)
  rw [hc0, hg0] at kb
  refine L.call rfl en_16 rfl (kb) ?_
  rintro e w4 ⟨rfl, he4⟩
  refine ⟨_, rfl, ?_⟩
  have he4 : Ext w3 w4 := he4
  replace hc := hc.ext he4
  replace ho := ho.ext he4
  refine L.va rfl (X.move (by conv => lhs; whnf)) ?_
  refine L.va rfl (X.extract rfl rfl) ?_
  refine L.va rfl (X.extract rfl rfl) ?_
  refine L.va rfl (X.assign (by conv => lhs; whnf)) ?_
  refine L.va rfl (X.assign (by conv => lhs; whnf)) ?_
  refine L.nil ?_
  refine J.seq ?_
  refine J.region ?_
  -- buildSlice
  refine L.bslice (vs := [_, _]) rfl (Evs.cons (by conv => lhs; whnf) (Evs.cons (by conv => lhs; whnf) Evs.nil)) rfl rfl rfl rfl Try.underlying22 sz_2 zr_2 (by decide) ?_
  intro b5 w5 hb5 hs5 hk5 he5
  replace hc := hc.ext he5
  replace ho := ho.ext he5
  -- callfn bushel/advise.Cost
  have kc := advcost_any 1 (some ⟨b5, 0, none⟩) 2 2 none 0 0 [1, 9] [] w5 (blk_reads hk5 (by omega) rfl) (by decide) Reads.none_ (by decide) (by decide)
  rw [hc1, hg1] at kc
  refine L.call rfl en_16 rfl (kc) ?_
  rintro e w6 ⟨rfl, he6⟩
  refine ⟨_, rfl, ?_⟩
  have he6 : Ext w5 w6 := he6
  replace hc := hc.ext he6
  replace ho := ho.ext he6
  refine L.va rfl (X.move (by conv => lhs; whnf)) ?_
  refine L.va rfl (X.extract rfl rfl) ?_
  refine L.va rfl (X.extract rfl rfl) ?_
  refine L.va rfl (X.assign (by conv => lhs; whnf)) ?_
  refine L.va rfl (X.assign (by conv => lhs; whnf)) ?_
  refine L.nil ?_
  refine J.seq ?_
  refine J.region ?_
  refine L.va rfl (X.move (by conv => lhs; whnf)) ?_
  refine L.va rfl (X.eql rfl rfl) ?_
  refine L.va rfl (X.move (by conv => lhs; whnf)) ?_
  -- case t25
  refine L.caseDecT (k := 25) rfl (by rfl) ?_
  refine L.va rfl (X.move (by conv => lhs; whnf)) ?_
  -- buildSlice
  refine L.bslice (vs := [_]) rfl (Evs.cons (by conv => lhs; whnf) Evs.nil) rfl rfl rfl rfl Try.underlying23 sz_29 zr_29 (by decide) ?_
  intro b7 w7 hb7 hs7 hk7 he7
  replace hc := hc.ext he7
  replace ho := ho.ext he7
  -- callfn bushel/bushelref11.Masks
  refine L.call rfl en_21 rfl (rmasks_same A2 (some ⟨b7, 0, none⟩) 1 c2 1 [0] _ (own_reads hc) (blk_reads hk7 (by omega) rfl) (by decide)) ?_
  rintro e w8 ⟨rfl, he8⟩
  refine ⟨_, rfl, ?_⟩
  have he8 : Ext w7 w8 := he8
  replace hc := hc.ext he8
  replace ho := ho.ext he8
  refine L.va rfl (X.pickT rfl (by conv => lhs; whnf)) ?_
  refine L.va rfl (X.move (by conv => lhs; whnf)) ?_
  -- case t30
  refine L.caseBT (k := 30) rfl (by rfl) ?_
  refine L.va rfl (X.move (by conv => lhs; whnf)) ?_
  refine L.va rfl (X.eql rfl rfl) ?_
  refine L.va rfl (X.pickT rfl (by conv => lhs; whnf)) ?_
  refine L.va rfl (X.move (by conv => lhs; whnf)) ?_
  -- case t34
  refine L.caseDecT (k := 34) rfl (by rfl) ?_
  refine L.va rfl (X.move (by conv => lhs; whnf)) ?_
  refine L.va rfl (X.eql rfl rfl) ?_
  refine L.va rfl (X.pickT rfl (by conv => lhs; whnf)) ?_
  refine L.va rfl (X.move (by conv => lhs; whnf)) ?_
  -- case t38
  refine L.caseDecT (k := 38) rfl (by rfl) ?_
  refine L.va rfl (X.move (by conv => lhs; whnf)) ?_
  refine L.va rfl (X.eql rfl rfl) ?_
  refine L.va rfl (X.pickT rfl (by conv => lhs; whnf)) ?_
  refine L.va rfl (X.move (by conv => lhs; whnf)) ?_
  -- case t42
  refine L.caseDecT (k := 42) rfl (by rfl) ?_
  refine L.va rfl (X.move (by conv => lhs; whnf)) ?_
  refine L.va rfl (X.eql rfl rfl) ?_
  refine L.va rfl (X.pickT rfl (by conv => lhs; whnf)) ?_
  refine L.va rfl (X.assign (by conv => lhs; whnf)) ?_
  refine L.nil ?_
  -- ret
  refine J.ret ?_
  refine fin1 ?_
  exact ⟨rfl, ho⟩
/-- whole numbers that are not less than nothing -/
theorem zl_of : ∀ (zs : List Int), (∀ z ∈ zs, 0 ≤ z) → zl (zs.map Int.toNat) = zs
  | [], _ => rfl
  | z :: zs, h => by
    have h1 := h z (by simp)
    have h2 := zl_of zs (fun u hu => h u (by simp [hu]))
    simp only [zl, List.map_cons] at h2 ⊢
    rw [h2, Int.toNat_of_nonneg h1]
theorem u32_list (xs : List (Nm .u32)) : ∃ vs : List Nat, zsOf xs = zl vs ∧ ∀ v ∈ vs, v < 4294967296 := by
  refine ⟨(zsOf xs).map Int.toNat, (zl_of _ ?_).symm, ?_⟩
  · intro z hz
    simp only [zsOf, List.mem_map] at hz
    obtain ⟨x, _, rfl⟩ := hz
    exact x.u32.1
  · intro v hv
    simp only [zsOf, List.mem_map] at hv
    obtain ⟨z, ⟨x, _, rfl⟩, rfl⟩ := hv
    have := x.u32
    omega
theorem gnE_stick {n : Int} {ss : List Int} {l l' : List Nat} (h : gnE n ss l ≠ 0) : gnE n ss (l ++ l') = gnE n ss l := by
  unfold gnE at *
  split at h
  · rename_i h0; rw [if_pos h0, if_pos h0]
  · rename_i h0
    rw [if_neg h0, if_neg h0]
    split at h
    · rename_i h1
      obtain ⟨v, hv, hc⟩ := h1
      rw [if_pos ⟨v, List.mem_append_left _ hv, hc⟩, if_pos ⟨v, hv, hc⟩]
    · exact absurd rfl h
theorem gnE_next {n : Int} {ss : List Int} {l : List Nat} {v : Nat} (h : gnE n ss l = 0) : gnE n ss (l ++ [v]) = if ss.length ≤ v then 11 else 0 := by
  obtain ⟨h0, h1⟩ := gnE_ask h
  unfold gnE
  rw [if_neg (by omega)]
  by_cases hv : ss.length ≤ v
  · rw [if_pos ⟨v, by simp, hv⟩, if_pos hv]
  · rw [if_neg, if_neg hv]
    rintro ⟨u, hu, hc⟩
    rcases List.mem_append.1 hu with hm | hm
    · have := h1 u hm; omega
    · obtain rfl : u = v := by simpa using hm
      exact hv hc
end Go.Proofs.Ytkipdkkpifnboaa
