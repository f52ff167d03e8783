/-
  The law SchemaGets, walked.
-/
import Derived.Test.YtlohbkcedpkjaaaWSchX
import Derived.Test.YtlohbkcedpkjaaaWSchJ
import Derived.Test.YtlohbkcedpkjaaaWSchL
import Derived.Test.YtlohbkcedpkjaaaWDiffD
namespace Go.Proofs.Ytlohbkcedpkjaaa
set_option maxRecDepth 100000
open Go.RowKit H
open Byts Cod
set_option linter.unusedVariables false
theorem map_tz {l : List (List Int)} (h : ∀ x ∈ l, tOk x) : (l.map strOfNums).map tz = l := by
  rw [List.map_map]
  conv => rhs; rw [← List.map_id l]
  exact List.map_congr_left fun x hx => tz_str (h x hx).2
theorem Sch.Is.sc {s : Sch} {c : SC} (h : s.Is c) (hf : Fits c) : scOf s = c := by
  obtain ⟨h1, h2, h3, h4⟩ := h
  obtain ⟨_, d2, _, i2, _, n2, _, _⟩ := hf
  obtain ⟨cd, ci, cn, cv⟩ := c
  unfold scOf
  rw [h1, h2, h3, h4]
  dsimp only at *
  rw [map_tz i2, map_tz n2, List.map_map]
  congr 1
  conv => rhs; rw [← List.map_id cd]
  refine List.map_congr_left fun x hx => ?_
  show (tz (strOfNums x.1), x.2) = x
  rw [tz_str (d2 x hx).1.2]
theorem Sch.Is.eqv {s t : Sch} {c : SC} (h : s.Is c) (k : t.Is c) : s.eqv t := by
  obtain ⟨h1, h2, h3, h4⟩ := h
  obtain ⟨k1, k2, k3, k4⟩ := k
  exact ⟨by rw [h1, k1], by rw [h2, k2], by rw [h3, k3], by rw [h4, k4]⟩
theorem gC_ok {zs : List Int} (h : gE zs = 0) : gC zs = sg zs ∧ rdE zs (sg3 zs).2 = 0 ∧ scode (sg zs) = 0 := by
  have e : gC zs = sg zs := by unfold gC; rw [if_neg (fun hh => hh h)]
  unfold gE at h
  split at h
  · rename_i h1; exact absurd h h1
  · rename_i h1; exact ⟨e, Decidable.not_not.1 h1, h⟩
theorem law_SchemaGets (w : World) (A0 : Option Addr) (n0 c0 : Nat) (xs0 : List (Nm .u8)) (hn0 : n0 ≤ c0) (hc0 : c0 ≤ maxLen) (hA0 : A0 = none → c0 = 0) (hl0 : LiesSlice w w.heap.size A0 n0 xs0) :
    Calls Try.prog 8 #[.slice A0 n0 c0] w fun e w' => e = .returned (.bool true) ∧ Below w.heap.size w w' := by
  have hr := hl0.reads
  have hz := zsOf_u8 xs0
  generalize zsOf xs0 = zs at hr hz
  unfold maxLen at hc0
  have hl : zs.length = n0 := by have := hr.1; simpa [nums] using this
  refine enter Try.func8 rfl (by kernel_rfl) ?_
  refine J.seq ?_
  refine J.region ?_
  refine L.va rfl (X.assign (by conv => lhs; whnf)) ?_
  refine L.nil ?_
  refine J.seq ?_
  refine J.seq ?_
  refine J.region ?_
  refine L.va rfl (X.move (by conv => lhs; whnf)) ?_
  refine L.va rfl (X.len rfl Try.underlying58) ?_
  refine L.va rfl (X.gtr rfl rfl) ?_
  refine L.nil ?_
  -- cond
  refine J.dec rfl (fun h1 => ?_) (fun h1 => ?_)
  · refine J.seq ?_
    refine J.region ?_
    -- callfn bushel/bushellaw11.awake
    refine L.call rfl en_36 rfl (awake11 w) ?_
    rintro e w3 ⟨rfl, he3⟩
    refine ⟨_, rfl, ?_⟩
    refine L.va rfl (X.assign (by conv => lhs; whnf)) ?_
    refine L.nil ?_
    -- ret
    refine J.ret ?_
    refine thn_ret <| ?_
    refine fin1 ?_
    exact ⟨rfl, he3⟩
  refine J.skip ?_
  refine J.seq ?_
  refine J.region ?_
  refine L.va rfl (X.move (by conv => lhs; whnf)) ?_
  -- callfn bushel/schema.Get
  refine L.call rfl en_37 rfl (sget_ A0 n0 c0 zs w hr hz (by omega)) ?_
  rintro e w1 ⟨s, rfl, Hs, Is, he1⟩
  refine ⟨_, rfl, ?_⟩
  refine L.va rfl (X.move (by conv => lhs; whnf)) ?_
  refine L.va rfl (X.extract rfl rfl) ?_
  refine L.va rfl (X.extract rfl rfl) ?_
  -- alloc
  refine L.alloc rfl zr_34 ?_
  intro b2 w2 hb2 hs2 hk2 he2
  -- store
  refine L.storeAgg (vs := [_, _, _, _]) rfl rfl rfl rfl sz_34 (hk2) rfl ?_
  intro w3 hk3 hg3 hs3
  have he13 : Ext w1 w3 := he2.grw hg3 (by intro g hg; injection hg with hg; omega)
  have hk3 : Blk w3 b2 34 #[.slice s.Ad s.nd s.cd, .slice s.A1 s.n1 s.c1, .slice s.A2 s.n2 s.c2, .slice s.Av s.nv s.cv] := hk3
  have he03 := he1.trans he13
  have Hs3 := Hs.ext he13
  refine L.va rfl (X.assign (by conv => lhs; whnf)) ?_
  refine L.nil ?_
  refine J.seq ?_
  refine J.region ?_
  refine L.va rfl (X.move (by conv => lhs; whnf)) ?_
  -- callfn bushel/bushelref11.Get
  refine L.call rfl en_38 rfl (rsget_ A0 n0 c0 zs w3 ((hr.ext he03).here (by decide)) hz (by omega) hn0) ?_
  rintro e w4 ⟨t, rfl, Ht, It, he4⟩
  refine ⟨_, rfl, ?_⟩
  have hk4 := hk3.ext he4
  refine L.va rfl (X.move (by conv => lhs; whnf)) ?_
  refine L.va rfl (X.extract rfl rfl) ?_
  refine L.va rfl (X.extract rfl rfl) ?_
  -- alloc
  refine L.alloc rfl zr_34 ?_
  intro b5 w5 hb5 hs5 hk5 he5
  -- store
  refine L.storeAgg (vs := [_, _, _, _]) rfl rfl rfl rfl sz_34 (hk5) rfl ?_
  intro w6 hk6 hg6 hs6
  have he46 : Ext w4 w6 := he5.grw hg6 (by intro g hg; injection hg with hg; omega)
  have hk6 : Blk w6 b5 34 #[.slice t.Ad t.nd t.cd, .slice t.A1 t.n1 t.c1, .slice t.A2 t.n2 t.c2, .slice t.Av t.nv t.cv] := hk6
  have hk36 := hk4.ext he46
  have he06 := he03.trans (he4.trans he46)
  have Hs6 := Hs3.ext (he4.trans he46)
  have Ht6 := Ht.ext he46
  have hr6 := hr.ext he06
  refine L.va rfl (X.assign (by conv => lhs; whnf)) ?_
  refine L.nil ?_
  refine J.seq ?_
  refine J.seq ?_
  refine J.region ?_
  refine L.va rfl (X.move (by conv => lhs; whnf)) ?_
  refine L.va rfl (X.move (by conv => lhs; whnf)) ?_
  refine L.va rfl (X.neq rfl rfl) ?_
  refine L.va rfl (X.move (by conv => lhs; whnf)) ?_
  -- case t24
  refine L.caseNdecF (k := 24) rfl (by exact rfl) ?_
  refine L.va rfl ((by first | exact X.loadAgg rfl (range_l hk36) Try.underlying34 rfl (by kernel_rfl) | exact X.loadAgg rfl (range_blk hk36) Try.underlying34 rfl (by kernel_rfl) | exact X.loadAgg rfl (range_l hk6) Try.underlying34 rfl (by kernel_rfl) | exact X.loadAgg rfl (range_blk hk6) Try.underlying34 rfl (by kernel_rfl))) ?_
  refine L.va rfl ((by first | exact X.loadAgg rfl (range_l hk36) Try.underlying34 rfl (by kernel_rfl) | exact X.loadAgg rfl (range_blk hk36) Try.underlying34 rfl (by kernel_rfl) | exact X.loadAgg rfl (range_l hk6) Try.underlying34 rfl (by kernel_rfl) | exact X.loadAgg rfl (range_blk hk6) Try.underlying34 rfl (by kernel_rfl))) ?_
  -- callfn bushel/bushelref11.Same
  refine L.call rfl en_39 rfl (Hs6.rsame Ht6) ?_
  rintro e w7 ⟨rfl, he7⟩
  refine ⟨_, rfl, ?_⟩
  rw [decide_eq_true (Is.eqv It)]
  replace hk36 := hk36.ext he7
  replace hk6 := hk6.ext he7
  have he07 := he06.trans he7
  have Hs7 := Hs6.ext he7
  have hr7 := hr6.ext he7
  refine L.va rfl (X.not rfl) ?_
  refine L.va rfl (X.pickF rfl (by conv => lhs; whnf)) ?_
  refine L.nil ?_
  -- cond
  refine J.iteF rfl ?_
  refine J.skip ?_
  refine J.seq ?_
  -- draw
  by_cases hE : gE zs = 0
  · obtain ⟨g1, g2, g3⟩ := gC_ok hE
    rw [g1] at Is
    have hsc := Is.sc (sg_fits hz)
    have hF := sg_fits hz
    rw [← hsc] at hF
    have hb := sb_sg hz g2
    rw [← hsc] at hb
    refine J.draw (ℓ := 1000000) (S := Ext w7) mixed (fun wa hS hS_h => ?_)
    -- t37
    refine D.va 0 rfl (by kernel_rfl) (fun _ _ _ h => h) rfl (fun w' hw => X.move (by conv => lhs; whnf)) hS ?_
    refine D.va 1 rfl (by kernel_rfl) (fun _ _ _ h => h) rfl (fun w' hw => X.neq rfl rfl) hS ?_
    refine D.va 2 rfl (by kernel_rfl) (fun _ _ _ h => h) rfl (fun w' hw => X.move (by conv => lhs; whnf)) hS ?_
    -- case t32
    refine D.caseNdecF (k := 32) rfl (by exact hE) ?_
    refine D.va 3 rfl (by kernel_rfl) (fun _ _ _ h => h) rfl (fun w' hw => (by first | exact X.loadAgg rfl (range_l (hk36.ext hw)) Try.underlying34 rfl (by kernel_rfl) | exact X.loadAgg rfl (range_blk (hk36.ext hw)) Try.underlying34 rfl (by kernel_rfl) | exact X.loadAgg rfl (range_l (hk6.ext hw)) Try.underlying34 rfl (by kernel_rfl) | exact X.loadAgg rfl (range_blk (hk6.ext hw)) Try.underlying34 rfl (by kernel_rfl))) hS ?_
    refine D.va 6 rfl (by kernel_rfl) (fun _ _ _ h => h) rfl (fun w' hw => X.move (by conv => lhs; whnf)) hS ?_
    refine D.va 7 rfl (by kernel_rfl) (fun _ _ _ h => h) rfl (fun w' hw => X.conv rfl ((hr7.ext hw).conv Try.underlying58 Try.underlying5 Try.underlying9)) hS ?_
    -- callfn bushel/bushelref11.Put
    refine D.one 4 (by kernel_rfl) rfl ?_
    refine L.call rfl en_40 rfl (rsput_ (Hs7.ext hS) (Hs7.ext hS).len1 (Hs7.ext hS).len2 hF) ?_
    rintro e wb ⟨Ab, cb, rfl, hob, heb⟩
    refine ⟨_, rfl, ?_⟩
    have hS1 := hS.trans heb
    refine L.nil ?_
    refine ⟨fun _ => hS1, ?_⟩
    -- convert
    refine D.one 5 (by kernel_rfl) rfl ?_
    refine L.va rfl (X.conv rfl ((own_reads hob).conv Try.underlying58 Try.underlying5 Try.underlying9)) ?_
    refine L.nil ?_
    refine ⟨fun _ => hS1, ?_⟩
    rw [hb]
    refine D.va 8 rfl (by kernel_rfl) (fun _ _ _ h => h) rfl (fun w' hw => X.eqlS rfl rfl) hS1 ?_
    refine D.va 9 rfl (by kernel_rfl) (fun _ _ _ h => h) rfl (fun w' hw => X.pickF rfl (by conv => lhs; whnf)) hS1 ?_
    refine D.va 10 rfl (by kernel_rfl) (fun _ _ _ h => h) rfl (fun w' hw => X.move (by conv => lhs; whnf)) hS1 ?_
    -- case t40
    refine D.caseDecT (k := 40) rfl (by rfl) ?_
    -- callfn bushel/bushellaw11.awake
    refine D.one 11 (by kernel_rfl) rfl ?_
    refine L.call rfl en_36 rfl (awake11 wb) ?_
    rintro e wc ⟨rfl, hec⟩
    refine ⟨_, rfl, ?_⟩
    have hS2 := hS1.trans hec
    refine L.nil ?_
    refine ⟨fun _ => hS2, ?_⟩
    refine D.va 12 rfl (by kernel_rfl) (fun _ _ _ h => h) rfl (fun w' hw => X.pickT rfl (by conv => lhs; whnf)) hS2 ?_
    refine D.va 13 rfl (by kernel_rfl) (fun _ _ _ h => h) rfl (fun w' hw => X.assign (by conv => lhs; whnf)) hS2 ?_
    refine D.done (by kernel_rfl) ?_
    replace hk36 := hk36.ext hS2
    replace hk6 := hk6.ext hS2
    -- ret
    refine J.ret ?_
    refine fin1 ?_
    exact ⟨rfl, he07.trans hS2⟩
  · refine J.draw (ℓ := 1000000) (S := Ext w7) mixed (fun wa hS hS_h => ?_)
    refine D.va 0 rfl (by kernel_rfl) (fun _ _ _ h => h) rfl (fun w' hw => X.move (by conv => lhs; whnf)) hS ?_
    refine D.va 1 rfl (by kernel_rfl) (fun _ _ _ h => h) rfl (fun w' hw => X.neq rfl rfl) hS ?_
    refine D.va 2 rfl (by kernel_rfl) (fun _ _ _ h => h) rfl (fun w' hw => X.move (by conv => lhs; whnf)) hS ?_
    -- case t32
    refine D.caseNdecT (k := 32) rfl (by exact hE) ?_
    refine D.no 3 rfl (by kernel_rfl) (fun _ _ _ h => h) rfl hS ?_
    refine D.no 4 rfl (by kernel_rfl) (fun _ _ _ h => h) rfl hS ?_
    refine D.no 5 rfl (by kernel_rfl) (fun _ _ _ h => h) rfl hS ?_
    refine D.no 6 rfl (by kernel_rfl) (fun _ _ _ h => h) rfl hS ?_
    refine D.no 7 rfl (by kernel_rfl) (fun _ _ _ h => h) rfl hS ?_
    refine D.no 8 rfl (by kernel_rfl) (fun _ _ _ h => h) rfl hS ?_
    refine D.va 9 rfl (by kernel_rfl) (fun _ _ _ h => h) rfl (fun w' hw => X.pickT rfl (by conv => lhs; whnf)) hS ?_
    refine D.va 10 rfl (by kernel_rfl) (fun _ _ _ h => h) rfl (fun w' hw => X.move (by conv => lhs; whnf)) hS ?_
    -- callfn bushel/bushellaw11.awake
    refine D.one 11 (by kernel_rfl) rfl ?_
    refine L.call rfl en_36 rfl (awake11 wa) ?_
    rintro e wc ⟨rfl, hec⟩
    refine ⟨_, rfl, ?_⟩
    have hS1 := hS.trans hec
    refine L.nil ?_
    refine ⟨fun _ => hS1, ?_⟩
    refine D.va 12 rfl (by kernel_rfl) (fun _ _ _ h => h) rfl (fun w' hw => X.pickT rfl (by conv => lhs; whnf)) hS1 ?_
    refine D.va 13 rfl (by kernel_rfl) (fun _ _ _ h => h) rfl (fun w' hw => X.assign (by conv => lhs; whnf)) hS1 ?_
    refine D.done (by kernel_rfl) ?_
    replace hk36 := hk36.ext hS1
    replace hk6 := hk6.ext hS1
    -- ret
    refine J.ret ?_
    refine fin1 ?_
    exact ⟨rfl, he07.trans hS1⟩
end Go.Proofs.Ytlohbkcedpkjaaa
