/-
  The law AdviseGood, walked.
-/
import Derived.Test.YtkipdkkpifnboaaWAdvT
namespace Go.Proofs.Ytkipdkkpifnboaa
open Go.RowKit H
open Mk Ad
set_option linter.unusedVariables false
namespace H
/-- slices of an array at hand -/
theorem X.arrTo {P : Program} {w : World} {f : Operand → Value} {x z : Operand} {a : Addr} {q sz : Nat} {kx : IntKind} {m' : Int} {e t ty : TypeId} {d : Option Tmp} {pos : String} {aft : Array Edge} {g : Option (Nat × Bool)} (hx : f x = .pointer (some a)) (hz : f z = .int kx m') (ht : P.underlying t = some (.array q e)) (hs : Siz P e sz) (hij : 0 ≤ m' ∧ m' ≤ (q : Int)) :
    (execOp f ⟨d, .slice t x none (some z) none, ty, pos, aft, g⟩).run P w = .ok (.value (.slice (some a) m'.toNat q)) w := by
  simp only [execOp, Instr.sliceAt, Instr.sureAddr, Instr.sliceBounds, Instr.sliceBound, Option.map_some, Option.map_none, hx, hz, Sem.run_bind, run_underlying ht, Result.andThen_ok, asIntOf, Sem.run_pure, hs.run]
  simp [hij, Addr.add_zero']
theorem X.arrAll {P : Program} {w : World} {f : Operand → Value} {x : Operand} {a : Addr} {q sz : Nat} {e t ty : TypeId} {d : Option Tmp} {pos : String} {aft : Array Edge} {g : Option (Nat × Bool)} (hx : f x = .pointer (some a)) (ht : P.underlying t = some (.array q e)) (hs : Siz P e sz) :
    (execOp f ⟨d, .slice t x none none none, ty, pos, aft, g⟩).run P w = .ok (.value (.slice (some a) q q)) w := by
  simp only [execOp, Instr.sliceAt, Instr.sureAddr, Instr.sliceBounds, Option.map_none, hx, Sem.run_bind, run_underlying ht, Result.andThen_ok, Sem.run_pure, hs.run]
  simp [Addr.add_zero']
end H
theorem vec3u {w : World} {B : Nat} {vs : List Value} {a : Vec 3 (Nm .u32)} (h : Lay.lies w B vs a) : ∃ y0 y1 y2 : Nat, (∀ v ∈ [y0, y1, y2], v < 4294967296) ∧ vs = nums .u32 (zl [y0, y1, y2]) := by
  obtain ⟨l, hl⟩ := a
  obtain ⟨h1, h2⟩ := h
  match l, hl with
  | [y0, y1, y2], _ =>
    have hs : vs.length = 3 := h1
    match vs, hs with
    | [v0, v1, v2], _ =>
      have g0 : [v0] = [.int .u32 y0.z] := h2 0 y0 rfl
      have g1 : [v1] = [.int .u32 y1.z] := h2 1 y1 rfl
      have g2 : [v2] = [.int .u32 y2.z] := h2 2 y2 rfl
      injection g0 with g0
      injection g1 with g1
      injection g2 with g2
      subst g0 g1 g2
      have b0 := y0.u32
      have b1 := y1.u32
      have b2 := y2.u32
      refine ⟨y0.z.toNat, y1.z.toNat, y2.z.toNat, ?_, ?_⟩
      · intro v hv
        simp only [List.mem_cons, List.not_mem_nil, or_false] at hv
        rcases hv with rfl | rfl | rfl <;> omega
      · simp only [zl, nums, List.map_cons, List.map_nil, Int.toNat_of_nonneg b0.1, Int.toNat_of_nonneg b1.1, Int.toNat_of_nonneg b2.1]
theorem gn_bd {ss : List Int} (hS : Ok ss) (h2 : 2 ≤ ss.length) (h64 : ss.length ≤ 64) (l : List Nat) (hl : ∀ v ∈ l, v < ss.length) : 0 ≤ gn ss l ∧ gn ss l ≤ 70368744177664 := by
  have s0 := (outs_ok hS (by omega) [] (by simp)).sum
  have s1 := (outs_ok hS (by omega) l hl).sum
  have c := cost_more ss l []
  rw [List.append_nil] at c
  rw [outs_length] at s0 s1
  unfold gn
  unfold costL at *
  omega
theorem gnV_bd {n : Int} {ss : List Int} (hS : Ok ss) (h2 : 2 ≤ ss.length) (h64 : ss.length ≤ 64) (l : List Nat) : 0 ≤ gnV n ss l ∧ gnV n ss l ≤ 70368744177664 := by
  unfold gnV
  split
  · rename_i h
    exact gn_bd hS h2 h64 l (gnE_ask h).2
  · omega
theorem gnE_ok {n : Int} {ss : List Int} {l : List Nat} (h : askE n ss = 0) (hl : ∀ v ∈ l, v < ss.length) : gnE n ss l = 0 := by
  unfold gnE
  rw [if_neg (by omega), if_neg]
  rintro ⟨v, hv, hc⟩
  have := hl v hv
  omega
theorem law_AdviseGood (w : World) (x0 : Nm .i64) (A1 : Option Addr) (n1 c1 : Nat) (xs1 : List (Nm .i64)) (hn1 : n1 ≤ c1) (hc1 : c1 ≤ maxLen) (hA1 : A1 = none → c1 = 0) (hl1 : LiesSlice w w.heap.size A1 n1 xs1) (vs2 : List Value) (a2 : Vec 3 (Nm .u32)) (hl2 : Lay.lies w w.heap.size vs2 a2) :
    Calls Try.prog 5 #[.int .i64 x0.z, .slice A1 n1 c1, .agg vs2.toArray] w fun e w' => e = .returned (.bool true) ∧ Below w.heap.size w w' := by
  unfold maxLen at hc1
  have hr := hl1.reads
  generalize x0.z = n
  generalize zsOf xs1 = ss at hr
  obtain ⟨y0, y1, y2, hy, rfl⟩ := vec3u hl2
  have hq : n1 ≤ 9223372036854775807 := by omega
  have hl : ss.length = n1 := by have := hr.1; simpa [nums] using this
  have ho : Ext w w := Ext.refl w
  refine enter Try.func5 rfl (by kernel_rfl) ?_
  refine J.seq ?_
  refine J.region ?_
  -- box
  refine L.boxA (l := [_, _, _]) rfl rfl ?_
  intro b1 w1 hb1 hs1 hk1 he1
  replace ho := ho.trans he1
  refine L.va rfl (X.assign (by conv => lhs; whnf)) ?_
  refine L.nil ?_
  refine J.seq ?_
  refine J.seq ?_
  refine J.region ?_
  refine L.va rfl (X.move (by conv => lhs; whnf)) ?_
  refine L.va rfl (X.len rfl Try.underlying22) ?_
  refine L.va rfl (X.gtr rfl rfl) ?_
  refine L.nil ?_
  -- cond
  refine J.dec rfl (fun h1 => ?_) (fun h1 => ?_)
  · refine J.seq ?_
    refine J.region ?_
    -- callfn bushel/bushellaw18.awake
    refine L.call rfl en_15 rfl (awake18 _) ?_
    rintro e w2 ⟨rfl, he⟩
    refine ⟨_, rfl, ?_⟩
    refine L.va rfl (X.assign (by conv => lhs; whnf)) ?_
    refine L.nil ?_
    -- ret
    refine J.ret ?_
    refine thn_ret <| ?_
    refine fin1 ?_
    exact ⟨rfl, ho.trans he⟩
  · refine J.skip ?_
    refine J.seq ?_
    refine J.region ?_
    refine L.va rfl (X.move (by conv => lhs; whnf)) ?_
    refine L.va rfl (X.move (by conv => lhs; whnf)) ?_
    -- callfn bushel/advise.Choose
    refine L.call rfl en_20 rfl (advchoose_any n A1 n1 c1 2 ss _ ((hr.ext ho).here (by decide)) hq) ?_
    rintro e w2 ⟨A2, c2, rfl, hc2, he2⟩
    refine ⟨_, rfl, ?_⟩
    have he2 : Ext w1 w2 := he2
    replace ho := ho.ext he2
    replace hk1 := hk1.ext he2
    refine L.va rfl (X.move (by conv => lhs; whnf)) ?_
    refine L.va rfl (X.extract rfl rfl) ?_
    refine L.va rfl (X.extract rfl rfl) ?_
    refine L.va rfl (X.assign (by conv => lhs; whnf)) ?_
    refine L.va rfl (X.assign (by conv => lhs; whnf)) ?_
    refine L.nil ?_
    refine J.seq ?_
    refine J.region ?_
    refine L.va rfl (X.move (by conv => lhs; whnf)) ?_
    refine L.va rfl (X.move (by conv => lhs; whnf)) ?_
    -- callfn bushel/advise.Choose
    refine L.call rfl en_20 rfl (advchoose_any n A1 n1 c1 3 ss _ ((hr.ext ho).here (by decide)) hq) ?_
    rintro e w3 ⟨A3, c3, rfl, hc3, he3⟩
    refine ⟨_, rfl, ?_⟩
    have he3 : Ext w2 w3 := he3
    replace ho := ho.ext he3
    replace hk1 := hk1.ext he3
    replace hc2 := hc2.ext he3
    refine L.va rfl (X.move (by conv => lhs; whnf)) ?_
    refine L.va rfl (X.extract rfl rfl) ?_
    refine L.va rfl (X.extract rfl rfl) ?_
    refine L.va rfl (X.assign (by conv => lhs; whnf)) ?_
    refine L.va rfl (X.assign (by conv => lhs; whnf)) ?_
    refine L.nil ?_
    refine J.seq ?_
    refine J.seq ?_
    refine J.region ?_
    refine L.va rfl (X.move (by conv => lhs; whnf)) ?_
    refine L.va rfl (X.neq rfl rfl) ?_
    refine L.va rfl (X.move (by conv => lhs; whnf)) ?_
    -- case t37
    refine L.caseNdec (k := 37) rfl (fun h0 => ?_) (fun h0 => ?_)
    · refine L.no rfl ?_
      refine L.no rfl ?_
      refine L.va rfl (X.pickT rfl (by conv => lhs; whnf)) ?_
      refine L.nil ?_
      -- cond
      refine J.iteT rfl ?_
      refine J.seq ?_
      refine J.region ?_
      -- callfn bushel/bushellaw18.awake
      refine L.call rfl en_15 rfl (awake18 _) ?_
      rintro e w4 ⟨rfl, he⟩
      refine ⟨_, rfl, ?_⟩
      refine L.va rfl (X.assign (by conv => lhs; whnf)) ?_
      refine L.nil ?_
      -- ret
      refine J.ret ?_
      refine thn_ret <| ?_
      refine fin1 ?_
      exact ⟨rfl, ho.trans he⟩
    · have h00 : askE n ss = 0 := by omega
      obtain ⟨n1', n6, _, hq2, hq64, hS⟩ := askE_zero h00
      have hE2 : chL n ss 2 = grd ss 2 [] := by rw [chL, if_pos h00]; rfl
      have hE3 : chL n ss 3 = grd ss 3 [] := by rw [chL, if_pos h00]; rfl
      have hl2' := grd_lt ss 2 [] (by simp)
      have hl3' := grd_lt ss 3 [] (by simp)
      rw [hE2] at hc2
      rw [hE3] at hc3
      rw [hE2, hE3]
      have g2 := gnE_ok h00 hl2'
      have g3 := gnE_ok h00 hl3'
      have v2 : gnV n ss (grd ss 2 []) = gn ss (grd ss 2 []) := by rw [gnV, if_pos g2]
      have v3 : gnV n ss (grd ss 3 []) = gn ss (grd ss 3 []) := by rw [gnV, if_pos g3]
      have d2 := gn_bd hS hq2 hq64 _ hl2'
      have d3 := gn_bd hS hq2 hq64 _ hl3'
      have f2 := gnV_bd (n := n) hS hq2 hq64 [y0, y1]
      have f3 := gnV_bd (n := n) hS hq2 hq64 [y0, y1, y2]
      have t2 : gnE n ss [y0, y1] = 0 → 3 * gnV n ss [y0, y1] ≤ 4 * gn ss (grd ss 2 []) := by
        intro h
        have k := (gnE_ask h).2
        rw [gnV, if_pos h]
        exact good2 hS (by omega) y0 y1 (k y0 (by simp)) (k y1 (by simp))
      have t3 : gnE n ss [y0, y1, y2] = 0 → 19 * gnV n ss [y0, y1, y2] ≤ 27 * gn ss (grd ss 3 []) := by
        intro h
        have k := (gnE_ask h).2
        rw [gnV, if_pos h]
        exact good3 hS (by omega) y0 y1 y2 (k y0 (by simp)) (k y1 (by simp)) (k y2 (by simp))
      have m2 : (grd ss 2 []).length ≤ 9223372036854775807 := by have := own_bd hc2; unfold maxLen at this; omega
      have m3 : (grd ss 3 []).length ≤ 9223372036854775807 := by have := own_bd hc3; unfold maxLen at this; omega
      generalize gn ss (grd ss 2 []) = G2 at *
      generalize gn ss (grd ss 3 []) = G3 at *
      generalize hLL2 : grd ss 2 [] = L2 at *
      generalize hLL3 : grd ss 3 [] = L3 at *
      refine L.va rfl (X.move (by conv => lhs; whnf)) ?_
      refine L.va rfl (X.neq rfl rfl) ?_
      refine L.va rfl (X.pickF rfl (by conv => lhs; whnf)) ?_
      refine L.nil ?_
      -- cond
      refine J.ndec rfl (fun h0' => ?_) (fun h0' => ?_)
      · exact absurd h00 h0'
      · refine J.skip ?_
        refine J.seq ?_
        refine J.region ?_
        refine L.va rfl (X.move (by conv => lhs; whnf)) ?_
        refine L.va rfl (X.move (by conv => lhs; whnf)) ?_
        refine L.va rfl (X.move (by conv => lhs; whnf)) ?_
        -- callfn bushel/advise.Gain
        refine L.call rfl en_17 rfl (advgain_any n A1 n1 c1 A2 L2.length c2 ss L2 _ ((hr.ext ho).here (by decide)) hq (own_reads hc2) m2 (fun v hv => by have := hl2' v hv; omega)) ?_
        rintro e w4 ⟨rfl, he4⟩
        refine ⟨_, rfl, ?_⟩
        have he4 : Ext w3 w4 := he4
        replace ho := ho.ext he4
        replace hk1 := hk1.ext he4
        replace hc2 := hc2.ext he4
        replace hc3 := hc3.ext he4
        rw [v2, g2]
        refine L.va rfl (X.move (by conv => lhs; whnf)) ?_
        refine L.va rfl (X.extract rfl rfl) ?_
        refine L.va rfl (X.extract rfl rfl) ?_
        refine L.va rfl (X.assign (by conv => lhs; whnf)) ?_
        refine L.va rfl (X.assign (by conv => lhs; whnf)) ?_
        refine L.nil ?_
        refine J.seq ?_
        refine J.region ?_
        refine L.va rfl (X.move (by conv => lhs; whnf)) ?_
        refine L.va rfl (X.move (by conv => lhs; whnf)) ?_
        refine L.va rfl (X.move (by conv => lhs; whnf)) ?_
        -- callfn bushel/advise.Gain
        refine L.call rfl en_17 rfl (advgain_any n A1 n1 c1 A3 L3.length c3 ss L3 _ ((hr.ext ho).here (by decide)) hq (own_reads hc3) m3 (fun v hv => by have := hl3' v hv; omega)) ?_
        rintro e w5 ⟨rfl, he5⟩
        refine ⟨_, rfl, ?_⟩
        have he5 : Ext w4 w5 := he5
        replace ho := ho.ext he5
        replace hk1 := hk1.ext he5
        replace hc2 := hc2.ext he5
        replace hc3 := hc3.ext he5
        rw [v3, g3]
        -- t59
        -- t66
        refine L.va rfl (X.move (by conv => lhs; whnf)) ?_
        refine L.va rfl (X.extract rfl rfl) ?_
        refine L.va rfl (X.extract rfl rfl) ?_
        refine L.va rfl (X.assign (by conv => lhs; whnf)) ?_
        refine L.va rfl (X.assign (by conv => lhs; whnf)) ?_
        refine L.nil ?_
        refine J.seq ?_
        refine J.region ?_
        refine L.va rfl (X.move (by conv => lhs; whnf)) ?_
        refine L.va rfl (X.move (by conv => lhs; whnf)) ?_
        refine L.va rfl (X.arrTo rfl rfl Try.underlying37 sz_29 (by omega)) ?_
        -- callfn bushel/advise.Gain
        have r3 : Reads w5 w5.heap.size 1 (some ⟨b1, 0, none⟩) 3 (nums .u32 (zl [y0, y1, y2])) := blk_reads hk1 (by have := (hk1.lt); omega) rfl
        refine L.call rfl en_17 rfl (advgain_any n A1 n1 c1 (some ⟨b1, 0, none⟩) 2 3 ss [y0, y1] _ ((hr.ext ho).here (by decide)) hq (r3.first (k := 2) (by omega)) (by decide) (fun v hv => hy v (by simp at hv ⊢; omega))) ?_
        rintro e w6 ⟨rfl, he6⟩
        refine ⟨_, rfl, ?_⟩
        have he6 : Ext w5 w6 := he6
        replace ho := ho.ext he6
        replace hk1 := hk1.ext he6
        replace hc2 := hc2.ext he6
        replace hc3 := hc3.ext he6
        have r3' := (r3.ext he6).here (by decide)
        refine L.va rfl (X.move (by conv => lhs; whnf)) ?_
        refine L.va rfl (X.extract rfl rfl) ?_
        refine L.va rfl (X.extract rfl rfl) ?_
        refine L.va rfl (X.assign (by conv => lhs; whnf)) ?_
        refine L.va rfl (X.assign (by conv => lhs; whnf)) ?_
        refine L.nil ?_
        refine J.seq ?_
        refine J.region ?_
        refine L.va rfl (X.move (by conv => lhs; whnf)) ?_
        refine L.va rfl (X.move (by conv => lhs; whnf)) ?_
        refine L.va rfl (X.arrAll rfl Try.underlying37 sz_29) ?_
        -- callfn bushel/advise.Gain
        refine L.call rfl en_17 rfl (advgain_any n A1 n1 c1 (some ⟨b1, 0, none⟩) 3 3 ss [y0, y1, y2] _ ((hr.ext ho).here (by decide)) hq r3' (by decide) hy) ?_
        rintro e w7 ⟨rfl, he7⟩
        refine ⟨_, rfl, ?_⟩
        have he7 : Ext w6 w7 := he7
        replace ho := ho.ext he7
        replace hk1 := hk1.ext he7
        replace hc2 := hc2.ext he7
        replace hc3 := hc3.ext he7
        refine L.va rfl (X.move (by conv => lhs; whnf)) ?_
        refine L.va rfl (X.extract rfl rfl) ?_
        refine L.va rfl (X.extract rfl rfl) ?_
        refine L.va rfl (X.assign (by conv => lhs; whnf)) ?_
        refine L.va rfl (X.assign (by conv => lhs; whnf)) ?_
        refine L.nil ?_
        refine J.seq ?_
        refine J.seq ?_
        refine J.region ?_
        refine L.va rfl (X.move (by conv => lhs; whnf)) ?_
        refine L.va rfl (X.neq rfl rfl) ?_
        refine L.va rfl (X.move (by conv => lhs; whnf)) ?_
        -- case t72
        refine L.caseNdecF (k := 72) rfl (by omega) ?_
        refine L.va rfl (X.move (by conv => lhs; whnf)) ?_
        refine L.va rfl (X.neq rfl rfl) ?_
        refine L.va rfl (X.pickF rfl (by conv => lhs; whnf)) ?_
        refine L.nil ?_
        -- cond
        refine J.ndecF rfl (by omega) ?_
        refine J.skip ?_
        refine J.seq ?_
        refine J.region ?_
        refine L.va rfl (X.move (by conv => lhs; whnf)) ?_
        refine L.va rfl (X.neq rfl rfl) ?_
        refine L.va rfl (X.move (by conv => lhs; whnf)) ?_
        -- case t78
        refine L.caseNdec (k := 78) rfl (fun ha => ?_) (fun ha => ?_)
        · refine L.no rfl ?_
          refine L.no rfl ?_
          refine L.no rfl ?_
          refine L.no rfl ?_
          refine L.no rfl ?_
          refine L.va rfl (X.pickT rfl (by conv => lhs; whnf)) ?_
          refine L.va rfl (X.move (by conv => lhs; whnf)) ?_
          refine L.va rfl (X.move (by conv => lhs; whnf)) ?_
          refine L.va rfl (X.neq rfl rfl) ?_
          refine L.va rfl (X.move (by conv => lhs; whnf)) ?_
          -- case t88
          refine L.caseNdec (k := 88) rfl (fun hb => ?_) (fun hb => ?_)
          · refine L.no rfl ?_
            refine L.no rfl ?_
            refine L.no rfl ?_
            refine L.no rfl ?_
            refine L.no rfl ?_
            refine L.va rfl (X.pickT rfl (by conv => lhs; whnf)) ?_
            refine L.va rfl (X.pickT rfl (by conv => lhs; whnf)) ?_
            refine L.va rfl (X.move (by conv => lhs; whnf)) ?_
            -- callfn bushel/bushellaw18.awake
            refine L.call rfl en_15 rfl (awake18 _) ?_
            rintro e w8 ⟨rfl, he⟩
            refine ⟨_, rfl, ?_⟩
            refine L.va rfl (X.pickT rfl (by conv => lhs; whnf)) ?_
            refine L.va rfl (X.assign (by conv => lhs; whnf)) ?_
            refine L.nil ?_
            -- ret
            refine J.ret ?_
            refine fin1 ?_
            exact ⟨rfl, ho.trans he⟩
          · have t3' := t3 (by omega)
            refine L.va rfl (X.move (by conv => lhs; whnf)) ?_
            refine L.va rfl (X.mul rfl rfl (by omega)) ?_
            refine L.va rfl (X.move (by conv => lhs; whnf)) ?_
            refine L.va rfl (X.mul rfl rfl (by omega)) ?_
            refine L.va rfl (X.geq rfl rfl) ?_
            refine L.va rfl (X.pickF rfl (by conv => lhs; whnf)) ?_
            refine L.va rfl (X.pickT rfl (by conv => lhs; whnf)) ?_
            refine L.va rfl (X.move (by conv => lhs; whnf)) ?_
            -- case t96
            refine L.caseDecT (k := 96) rfl (by omega) ?_
            -- callfn bushel/bushellaw18.awake
            refine L.call rfl en_15 rfl (awake18 _) ?_
            rintro e w8 ⟨rfl, he⟩
            refine ⟨_, rfl, ?_⟩
            refine L.va rfl (X.pickT rfl (by conv => lhs; whnf)) ?_
            refine L.va rfl (X.assign (by conv => lhs; whnf)) ?_
            refine L.nil ?_
            -- ret
            refine J.ret ?_
            refine fin1 ?_
            exact ⟨rfl, ho.trans he⟩
        · have t2' := t2 (by omega)
          refine L.va rfl (X.move (by conv => lhs; whnf)) ?_
          refine L.va rfl (X.mul rfl rfl (by omega)) ?_
          refine L.va rfl (X.move (by conv => lhs; whnf)) ?_
          refine L.va rfl (X.mul rfl rfl (by omega)) ?_
          refine L.va rfl (X.geq rfl rfl) ?_
          refine L.va rfl (X.pickF rfl (by conv => lhs; whnf)) ?_
          refine L.va rfl (X.move (by conv => lhs; whnf)) ?_
          -- case t85
          refine L.caseDecT (k := 85) rfl (by omega) ?_
          refine L.va rfl (X.move (by conv => lhs; whnf)) ?_
          refine L.va rfl (X.neq rfl rfl) ?_
          refine L.va rfl (X.move (by conv => lhs; whnf)) ?_
          -- case t88
          refine L.caseNdec (k := 88) rfl (fun hb => ?_) (fun hb => ?_)
          · refine L.no rfl ?_
            refine L.no rfl ?_
            refine L.no rfl ?_
            refine L.no rfl ?_
            refine L.no rfl ?_
            refine L.va rfl (X.pickT rfl (by conv => lhs; whnf)) ?_
            refine L.va rfl (X.pickT rfl (by conv => lhs; whnf)) ?_
            refine L.va rfl (X.move (by conv => lhs; whnf)) ?_
            -- callfn bushel/bushellaw18.awake
            refine L.call rfl en_15 rfl (awake18 _) ?_
            rintro e w8 ⟨rfl, he⟩
            refine ⟨_, rfl, ?_⟩
            refine L.va rfl (X.pickT rfl (by conv => lhs; whnf)) ?_
            refine L.va rfl (X.assign (by conv => lhs; whnf)) ?_
            refine L.nil ?_
            -- ret
            refine J.ret ?_
            refine fin1 ?_
            exact ⟨rfl, ho.trans he⟩
          · have t3' := t3 (by omega)
            refine L.va rfl (X.move (by conv => lhs; whnf)) ?_
            refine L.va rfl (X.mul rfl rfl (by omega)) ?_
            refine L.va rfl (X.move (by conv => lhs; whnf)) ?_
            refine L.va rfl (X.mul rfl rfl (by omega)) ?_
            refine L.va rfl (X.geq rfl rfl) ?_
            refine L.va rfl (X.pickF rfl (by conv => lhs; whnf)) ?_
            refine L.va rfl (X.pickT rfl (by conv => lhs; whnf)) ?_
            refine L.va rfl (X.move (by conv => lhs; whnf)) ?_
            -- case t96
            refine L.caseDecT (k := 96) rfl (by omega) ?_
            -- callfn bushel/bushellaw18.awake
            refine L.call rfl en_15 rfl (awake18 _) ?_
            rintro e w8 ⟨rfl, he⟩
            refine ⟨_, rfl, ?_⟩
            refine L.va rfl (X.pickT rfl (by conv => lhs; whnf)) ?_
            refine L.va rfl (X.assign (by conv => lhs; whnf)) ?_
            refine L.nil ?_
            -- ret
            refine J.ret ?_
            refine fin1 ?_
            exact ⟨rfl, ho.trans he⟩
end Go.Proofs.Ytkipdkkpifnboaa
