/-
  The law SchemaPuts, walked.
-/
import Derived.Test.YtlohbkcedpkjaaaLSchemaGets
import Derived.Test.YtlohbkcedpkjaaaWSchM
namespace Go.Proofs.Ytlohbkcedpkjaaa
set_option maxRecDepth 100000
open Go.RowKit H
open Byts Cod
set_option linter.unusedVariables false
/-- what is got of a schema's own bytes is that schema -/
theorem gC_sb {s : Sch} {w : World} (H : s.Here w) (l1 : s.s1.length = s.n1) (l2 : s.s2.length = s.n2) (hc : s.code = 0) : gE (sb (scOf s)) = 0 ∧ gC (sb (scOf s)) = scOf s := by
  have hF := H.fits l1 l2 hc
  obtain ⟨h1, h2⟩ := sg_sb hF
  have hs : scode (scOf s) = s.code := by
    have m1 : ∀ l : List ByteArray, (l.map tz).map strOfNums = l := fun l => by
      rw [List.map_map]; conv => rhs; rw [← List.map_id l]
      exact List.map_congr_left fun x _ => str_tz x
    have m2 : (s.ds.map fun x => (tz x.1, x.2)).map dS = s.ds := by
      rw [List.map_map]; conv => rhs; rw [← List.map_id s.ds]
      exact List.map_congr_left fun x _ => by show (strOfNums (tz x.1), x.2) = x; rw [str_tz]
    unfold scode Sch.code scOf
    dsimp only
    rw [m1, m1, m2, List.length_map, List.length_map, List.length_map, H.len, l1, l2, H.zlen]
  have hg : gE (sb (scOf s)) = 0 := by unfold gE; rw [if_neg (fun hh => hh h2), h1, hs, hc]
  exact ⟨hg, by unfold gC; rw [if_neg (fun hh => hh hg), h1]⟩
theorem law_SchemaPuts (w : World) (vs0 : List Value) (a0 : (List ((Str) × (Nm .i64))) × (List (Str)) × (List (Str)) × (List (Nm .u32))) (hl0 : Lay.lies w w.heap.size vs0 a0) :
    Calls Try.prog 9 #[.agg vs0.toArray] w fun e w' => e = .returned (.bool true) ∧ Below w.heap.size w w' := by
  obtain ⟨s, rfl, hH⟩ := sch_of hl0
  refine enter Try.func9 rfl (by kernel_rfl) ?_
  refine J.seq ?_
  refine J.region ?_
  -- box
  refine L.boxA (l := [_, _, _, _]) rfl rfl ?_
  intro b1 w1 hb1 hs1 hk1 he1
  have H1 := hH.ext he1
  refine L.va rfl (X.assign (by conv => lhs; whnf)) ?_
  refine L.nil ?_
  refine J.seq ?_
  refine J.seq ?_
  refine J.region ?_
  refine L.va rfl ((by first | exact X.loadAgg rfl (range_l hk1) Try.underlying34 rfl (by kernel_rfl) | exact X.loadAgg rfl (range_blk hk1) Try.underlying34 rfl (by kernel_rfl))) ?_
  -- callfn bushel/bushelref11.Light
  refine L.call rfl en_15 rfl (H1.light) ?_
  rintro e w2 ⟨lb, rfl, hlb, he2⟩
  refine ⟨_, rfl, ?_⟩
  have he02 := he1.trans he2
  replace hk1 := hk1.ext he2
  refine L.va rfl (X.not rfl) ?_
  refine L.nil ?_
  -- cond
  by_cases hL : lb = true
  · subst hL
    have H2 := (H1.ext he2).here (hlb rfl)
    have l1 := H2.len1
    have l2 := H2.len2
    refine J.iteF rfl ?_
    by_cases hc : s.code = 0
    · refine J.skip ?_
      refine J.seq ?_
      refine J.region ?_
      refine L.va rfl ((by first | exact X.loadAgg rfl (range_l hk1) Try.underlying34 rfl (by kernel_rfl) | exact X.loadAgg rfl (range_blk hk1) Try.underlying34 rfl (by kernel_rfl))) ?_
      -- callfn bushel/schema.Put
      refine L.call rfl en_41 rfl (sput_yes H2 l1 l2 hc) ?_
      rintro e w3 ⟨A3, c3, rfl, ho3, he3⟩
      refine ⟨_, rfl, ?_⟩
      have hcc := own_bd ho3
      unfold maxLen at hcc
      have H3 := H2.ext he3
      have he03 := he02.trans he3
      replace hk1 := hk1.ext he3
      refine L.va rfl (X.move (by conv => lhs; whnf)) ?_
      refine L.va rfl (X.extract rfl rfl) ?_
      refine L.va rfl (X.extract rfl rfl) ?_
      refine L.va rfl (X.assign (by conv => lhs; whnf)) ?_
      refine L.va rfl (X.assign (by conv => lhs; whnf)) ?_
      refine L.nil ?_
      refine J.seq ?_
      refine J.seq ?_
      refine J.region ?_
      refine L.va rfl ((by first | exact X.loadAgg rfl (range_l hk1) Try.underlying34 rfl (by kernel_rfl) | exact X.loadAgg rfl (range_blk hk1) Try.underlying34 rfl (by kernel_rfl))) ?_
      -- callfn bushel/bushelref11.Check
      refine L.call rfl en_42 rfl (H3.rcheck) ?_
      rintro e w4 ⟨rfl, he4⟩
      refine ⟨_, rfl, ?_⟩
      rw [hc]
      have H4 := H3.ext he4
      have he04 := he03.trans he4
      have ho4 := ho3.ext he4
      replace hk1 := hk1.ext he4
      refine L.va rfl (X.assign (by conv => lhs; whnf)) ?_
      refine L.nil ?_
      refine J.seq ?_
      refine J.region ?_
      refine L.va rfl (X.move (by conv => lhs; whnf)) ?_
      refine L.va rfl (X.neq rfl rfl) ?_
      refine L.nil ?_
      -- cond
      refine J.iteF rfl ?_
      have hF := H4.fits l1 l2 hc
      have hle := sb_le hF
      obtain ⟨q1, q2⟩ := gC_sb H4 l1 l2 hc
      refine J.skip ?_
      refine J.seq ?_
      refine J.region ?_
      refine L.va rfl (X.move (by conv => lhs; whnf)) ?_
      -- callfn bushel/schema.Get
      refine L.call rfl en_37 rfl (sget_ A3 _ c3 _ w4 (Reads.of_own ho4) hle.2 (by omega)) ?_
      rintro e w5 ⟨t, rfl, Ht, It, he5⟩
      refine ⟨_, rfl, ?_⟩
      rw [q1]
      have h45 := he5
      have hk15 := hk1.ext he5
      refine L.va rfl (X.move (by conv => lhs; whnf)) ?_
      refine L.va rfl (X.extract rfl rfl) ?_
      refine L.va rfl (X.extract rfl rfl) ?_
      -- alloc
      refine L.alloc rfl zr_34 ?_
      intro b6 w6 hb6 hs6 hk6 he6
      -- store
      refine L.storeAgg (vs := [_, _, _, _]) rfl rfl rfl rfl sz_34 (hk6) rfl ?_
      intro w7 hk7 hg7 hs7
      have he57 : Ext w5 w7 := he6.grw hg7 (by intro g hg; injection hg with hg; omega)
      have hk7 : Blk w7 b6 34 #[.slice t.Ad t.nd t.cd, .slice t.A1 t.n1 t.c1, .slice t.A2 t.n2 t.c2, .slice t.Av t.nv t.cv] := hk7
      have he47 := he5.trans he57
      have he07 := he04.trans he47
      have hk17 := hk15.ext he57
      have H7 := H4.ext he47
      have ho7 := ho4.ext he47
      have Ht7 := Ht.ext he57
      rw [q2] at It
      have hev : s.eqv t := by
        obtain ⟨i1, i2, i3, i4⟩ := It
        have m1 : ∀ l : List ByteArray, (l.map tz).map strOfNums = l := fun l => by
          rw [List.map_map]; conv => rhs; rw [← List.map_id l]
          exact List.map_congr_left fun x _ => str_tz x
        have m2 : (s.ds.map fun x => (tz x.1, x.2)).map dS = s.ds := by
          rw [List.map_map]; conv => rhs; rw [← List.map_id s.ds]
          exact List.map_congr_left fun x _ => by show (strOfNums (tz x.1), x.2) = x; rw [str_tz]
        exact ⟨by rw [i1]; exact m2.symm, by rw [i2]; exact (m1 _).symm, by rw [i3]; exact (m1 _).symm, i4.symm⟩
      refine L.va rfl (X.assign (by conv => lhs; whnf)) ?_
      refine L.nil ?_
      refine J.seq ?_
      -- draw
      refine J.draw (ℓ := 1000000) (S := Ext w7) mixed (fun wa hS hS_h => ?_)
      -- t41
      refine D.va 0 rfl (by kernel_rfl) (fun _ _ _ h => h) rfl (fun w' hw => X.move (by conv => lhs; whnf)) hS ?_
      refine D.va 1 rfl (by kernel_rfl) (fun _ _ _ h => h) rfl (fun w' hw => X.eql rfl rfl) hS ?_
      refine D.va 2 rfl (by kernel_rfl) (fun _ _ _ h => h) rfl (fun w' hw => X.move (by conv => lhs; whnf)) hS ?_
      -- case t39
      refine D.caseDecT (k := 39) rfl (by rfl) ?_
      refine D.va 3 rfl (by kernel_rfl) (fun _ _ _ h => h) rfl (fun w' hw => X.move (by conv => lhs; whnf)) hS ?_
      refine D.va 4 rfl (by kernel_rfl) (fun _ _ _ h => h) rfl (fun w' hw => X.conv rfl ((own_reads (ho7.ext hw)).conv Try.underlying58 Try.underlying5 Try.underlying9)) hS ?_
      refine D.va 5 rfl (by kernel_rfl) (fun _ _ _ h => h) rfl (fun w' hw => (by first | exact X.loadAgg rfl (range_l (hk17.ext hw)) Try.underlying34 rfl (by kernel_rfl) | exact X.loadAgg rfl (range_blk (hk17.ext hw)) Try.underlying34 rfl (by kernel_rfl) | exact X.loadAgg rfl (range_l (hk7.ext hw)) Try.underlying34 rfl (by kernel_rfl) | exact X.loadAgg rfl (range_blk (hk7.ext hw)) Try.underlying34 rfl (by kernel_rfl))) hS ?_
      -- callfn bushel/bushelref11.Put
      refine D.one 6 (by kernel_rfl) rfl ?_
      refine L.call rfl en_40 rfl (rsput_ (H7.ext hS) l1 l2 hF) ?_
      rintro e wb ⟨Ab, cb, rfl, hob, heb⟩
      refine ⟨_, rfl, ?_⟩
      have hS1 := hS.trans heb
      refine L.nil ?_
      refine ⟨fun _ => hS1, ?_⟩
      -- convert
      refine D.one 7 (by kernel_rfl) rfl ?_
      refine L.va rfl (X.conv rfl ((own_reads hob).conv Try.underlying58 Try.underlying5 Try.underlying9)) ?_
      refine L.nil ?_
      refine ⟨fun _ => hS1, ?_⟩
      refine D.va 8 rfl (by kernel_rfl) (fun _ _ _ h => h) rfl (fun w' hw => X.eqlS rfl rfl) hS1 ?_
      refine D.va 9 rfl (by kernel_rfl) (fun _ _ _ h => h) rfl (fun w' hw => X.pickT rfl (by conv => lhs; whnf)) hS1 ?_
      refine D.va 10 rfl (by kernel_rfl) (fun _ _ _ h => h) rfl (fun w' hw => X.move (by conv => lhs; whnf)) hS1 ?_
      -- case t47
      refine D.caseDecT (k := 47) rfl (by rfl) ?_
      refine D.va 11 rfl (by kernel_rfl) (fun _ _ _ h => h) rfl (fun w' hw => X.move (by conv => lhs; whnf)) hS1 ?_
      refine D.va 12 rfl (by kernel_rfl) (fun _ _ _ h => h) rfl (fun w' hw => X.eql rfl rfl) hS1 ?_
      refine D.va 13 rfl (by kernel_rfl) (fun _ _ _ h => h) rfl (fun w' hw => X.pickT rfl (by conv => lhs; whnf)) hS1 ?_
      refine D.va 14 rfl (by kernel_rfl) (fun _ _ _ h => h) rfl (fun w' hw => X.move (by conv => lhs; whnf)) hS1 ?_
      -- case t51
      refine D.caseDecT (k := 51) rfl (by rfl) ?_
      refine D.va 15 rfl (by kernel_rfl) (fun _ _ _ h => h) rfl (fun w' hw => (by first | exact X.loadAgg rfl (range_l (hk17.ext hw)) Try.underlying34 rfl (by kernel_rfl) | exact X.loadAgg rfl (range_blk (hk17.ext hw)) Try.underlying34 rfl (by kernel_rfl) | exact X.loadAgg rfl (range_l (hk7.ext hw)) Try.underlying34 rfl (by kernel_rfl) | exact X.loadAgg rfl (range_blk (hk7.ext hw)) Try.underlying34 rfl (by kernel_rfl))) hS1 ?_
      refine D.va 16 rfl (by kernel_rfl) (fun _ _ _ h => h) rfl (fun w' hw => (by first | exact X.loadAgg rfl (range_l (hk17.ext hw)) Try.underlying34 rfl (by kernel_rfl) | exact X.loadAgg rfl (range_blk (hk17.ext hw)) Try.underlying34 rfl (by kernel_rfl) | exact X.loadAgg rfl (range_l (hk7.ext hw)) Try.underlying34 rfl (by kernel_rfl) | exact X.loadAgg rfl (range_blk (hk7.ext hw)) Try.underlying34 rfl (by kernel_rfl))) hS1 ?_
      -- callfn bushel/bushelref11.Same
      refine D.one 17 (by kernel_rfl) rfl ?_
      refine L.call rfl en_39 rfl ((H7.ext hS1).rsame (Ht7.ext hS1)) ?_
      rintro e wc ⟨rfl, hec⟩
      refine ⟨_, rfl, ?_⟩
      have hS2 := hS1.trans hec
      refine L.nil ?_
      refine ⟨fun _ => hS2, ?_⟩
      rw [decide_eq_true hev]
      refine D.va 18 rfl (by kernel_rfl) (fun _ _ _ h => h) rfl (fun w' hw => X.pickT rfl (by conv => lhs; whnf)) hS2 ?_
      refine D.va 19 rfl (by kernel_rfl) (fun _ _ _ h => h) rfl (fun w' hw => X.move (by conv => lhs; whnf)) hS2 ?_
      -- case t56
      refine D.caseBT (k := 56) rfl (by rfl) ?_
      -- callfn bushel/bushellaw11.awake
      refine D.one 20 (by kernel_rfl) rfl ?_
      refine L.call rfl en_36 rfl (awake11 wc) ?_
      rintro e wd ⟨rfl, hed⟩
      refine ⟨_, rfl, ?_⟩
      have hS3 := hS2.trans hed
      refine L.nil ?_
      refine ⟨fun _ => hS3, ?_⟩
      refine D.va 21 rfl (by kernel_rfl) (fun _ _ _ h => h) rfl (fun w' hw => X.pickT rfl (by conv => lhs; whnf)) hS3 ?_
      refine D.va 22 rfl (by kernel_rfl) (fun _ _ _ h => h) rfl (fun w' hw => X.assign (by conv => lhs; whnf)) hS3 ?_
      refine D.done (by kernel_rfl) ?_
      replace hk17 := hk17.ext hS3
      replace hk7 := hk7.ext hS3
      -- ret
      refine J.ret ?_
      refine fin1 ?_
      exact ⟨rfl, he07.trans hS3⟩
    · refine J.skip ?_
      refine J.seq ?_
      refine J.region ?_
      refine L.va rfl ((by first | exact X.loadAgg rfl (range_l hk1) Try.underlying34 rfl (by kernel_rfl) | exact X.loadAgg rfl (range_blk hk1) Try.underlying34 rfl (by kernel_rfl))) ?_
      -- callfn bushel/schema.Put
      refine L.call rfl en_41 rfl (sput_no H2 hc) ?_
      rintro e w3 ⟨rfl, he3⟩
      refine ⟨_, rfl, ?_⟩
      have H3 := H2.ext he3
      have he03 := he02.trans he3
      replace hk1 := hk1.ext he3
      refine L.va rfl (X.move (by conv => lhs; whnf)) ?_
      refine L.va rfl (X.extract rfl rfl) ?_
      refine L.va rfl (X.extract rfl rfl) ?_
      refine L.va rfl (X.assign (by conv => lhs; whnf)) ?_
      refine L.va rfl (X.assign (by conv => lhs; whnf)) ?_
      refine L.nil ?_
      refine J.seq ?_
      refine J.seq ?_
      refine J.region ?_
      refine L.va rfl ((by first | exact X.loadAgg rfl (range_l hk1) Try.underlying34 rfl (by kernel_rfl) | exact X.loadAgg rfl (range_blk hk1) Try.underlying34 rfl (by kernel_rfl))) ?_
      -- callfn bushel/bushelref11.Check
      refine L.call rfl en_42 rfl (H3.rcheck) ?_
      rintro e w4 ⟨rfl, he4⟩
      refine ⟨_, rfl, ?_⟩
      have he04 := he03.trans he4
      refine L.va rfl (X.assign (by conv => lhs; whnf)) ?_
      refine L.nil ?_
      refine J.seq ?_
      refine J.region ?_
      refine L.va rfl (X.move (by conv => lhs; whnf)) ?_
      refine L.va rfl (X.neq rfl rfl) ?_
      refine L.nil ?_
      -- cond
      refine J.ndecT rfl (by exact hc) ?_
      refine J.seq ?_
      refine J.region ?_
      refine L.va rfl (X.move (by conv => lhs; whnf)) ?_
      refine L.va rfl (X.len rfl Try.underlying58) ?_
      refine L.va rfl (X.eql rfl rfl) ?_
      refine L.va rfl (X.move (by conv => lhs; whnf)) ?_
      -- case t24
      refine L.caseDecT (k := 24) rfl (by rfl) ?_
      refine L.va rfl (X.move (by conv => lhs; whnf)) ?_
      refine L.va rfl (X.move (by conv => lhs; whnf)) ?_
      refine L.va rfl (X.eql rfl rfl) ?_
      refine L.va rfl (X.pickT rfl (by conv => lhs; whnf)) ?_
      refine L.va rfl (X.move (by conv => lhs; whnf)) ?_
      -- case t29
      refine L.caseDecT (k := 29) rfl (by rfl) ?_
      -- callfn bushel/bushellaw11.awake
      refine L.call rfl en_36 rfl (awake11 w4) ?_
      rintro e w5 ⟨rfl, he5⟩
      refine ⟨_, rfl, ?_⟩
      refine L.va rfl (X.pickT rfl (by conv => lhs; whnf)) ?_
      refine L.va rfl (X.assign (by conv => lhs; whnf)) ?_
      refine L.nil ?_
      -- ret
      refine J.ret ?_
      refine thn_ret <| ?_
      refine fin1 ?_
      exact ⟨rfl, he04.trans he5⟩
  · have hL : lb = false := by simpa using hL
    subst hL
    refine J.iteT rfl ?_
    refine J.seq ?_
    refine J.region ?_
    -- callfn bushel/bushellaw11.awake
    refine L.call rfl en_36 rfl (awake11 w2) ?_
    rintro e w3 ⟨rfl, he3⟩
    refine ⟨_, rfl, ?_⟩
    refine L.va rfl (X.assign (by conv => lhs; whnf)) ?_
    refine L.nil ?_
    -- ret
    refine J.ret ?_
    refine thn_ret <| ?_
    refine fin1 ?_
    exact ⟨rfl, he02.trans he3⟩
end Go.Proofs.Ytlohbkcedpkjaaa
