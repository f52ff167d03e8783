/-
  schema.Put, walked.
-/
import Derived.Test.YtlohbkcedpkjaaaWSchL
namespace Go.Proofs.Ytlohbkcedpkjaaa
set_option maxRecDepth 100000
open Go.RowKit H
open Byts Cod
set_option linter.unusedVariables false
theorem sput_no {s : Sch} {w : World} (H : s.Here w) (hc : s.code ≠ 0) : Calls Try.prog 41 #[s.val] w fun e w' => e = .returned (.tuple #[.slice none 0 0, .int .i64 s.code]) ∧ Ext w w' := by
  refine enter Try.func41 rfl (by kernel_rfl) ?_
  refine J.seq ?_
  refine J.region ?_
  -- box
  refine L.boxA (l := [_, _, _, _]) rfl rfl ?_
  intro b1 w1 hb1 hs1 hk1 he1
  refine L.va rfl (X.assign (by conv => lhs; whnf)) ?_
  refine L.va rfl (X.assign (by conv => lhs; whnf)) ?_
  refine L.nil ?_
  refine J.seq ?_
  refine J.seq ?_
  refine J.region ?_
  refine L.va rfl ((by first | exact X.loadAgg rfl (range_l hk1) Try.underlying34 rfl (by kernel_rfl) | exact X.loadAgg rfl (range_blk hk1) Try.underlying34 rfl (by kernel_rfl))) ?_
  -- callfn bushel/schema.Check
  refine L.call rfl en_74 rfl ((H.ext he1).check) ?_
  rintro e w2 ⟨rfl, he2⟩
  refine ⟨_, rfl, ?_⟩
  refine L.va rfl (X.assign (by conv => lhs; whnf)) ?_
  refine L.nil ?_
  refine J.seq ?_
  refine J.region ?_
  refine L.va rfl (X.move (by conv => lhs; whnf)) ?_
  refine L.va rfl (X.neq rfl rfl) ?_
  refine L.nil ?_
  -- cond
  refine J.ndecT rfl (by exact hc) ?_
  refine J.seq ?_
  refine J.region ?_
  refine L.va rfl (X.move (by conv => lhs; whnf)) ?_
  refine L.va rfl (X.assign (by conv => lhs; whnf)) ?_
  refine L.va rfl (X.assign (by conv => lhs; whnf)) ?_
  refine L.nil ?_
  -- ret
  refine J.ret ?_
  refine thn_ret <| ?_
  refine fin2 ?_
  exact ⟨rfl, he1.trans he2⟩
/-- the list of texts that comes i-th -/
def Sch.ls (s : Sch) (i : Nat) : List ByteArray := if i = 0 then s.s1 else s.s2
def lsQ (P : List Int) (s : Sch) (i : Nat) : List Int := P ++ (if 1 ≤ i then eT (s.s1.map tz) else []) ++ (if 2 ≤ i then eT (s.s2.map tz) else [])
theorem lsQ_next (P : List Int) (s : Sch) {i : Nat} (h : i < 2) : lsQ P s (i + 1) = lsQ P s i ++ eT ((s.ls i).map tz) := by
  have : i = 0 ∨ i = 1 := by omega
  rcases this with rfl | rfl <;> simp [lsQ, Sch.ls]
theorem lsQ_0 (P : List Int) (s : Sch) : lsQ P s 0 = P := by simp [lsQ]
theorem lsQ_2 (P : List Int) (s : Sch) : lsQ P s 2 = P ++ eT (s.s1.map tz) ++ eT (s.s2.map tz) := by simp [lsQ]
set_option maxHeartbeats 1000000 in
theorem sput_yes {s : Sch} {w : World} (H : s.Here w) (l1 : s.s1.length = s.n1) (l2 : s.s2.length = s.n2) (hc : s.code = 0) :
    Calls Try.prog 41 #[s.val] w fun e w' => ∃ A' c', e = .returned (.tuple #[.slice A' (sb (scOf s)).length c', .int .i64 0]) ∧ w'.ownsRow w.heap.size 5 1 (.slice A' (sb (scOf s)).length c') (sb (scOf s)).length (nums .u8 (sb (scOf s))) ∧ Ext w w' := by
  have hle := H.hle
  have hdl := H.len
  have hvl := H.zlen
  obtain ⟨d1, d2, i1, i2, n1, n2, v1, v2⟩ := H.fits l1 l2 hc
  have e1 : (scOf s).d.length = s.nd := by show (s.ds.map _).length = _; rw [List.length_map, hdl]
  have e2 : (scOf s).v.length = s.nv := hvl
  have k1 : ∀ x ∈ s.s1, x.size ≤ 16 := fun x hx => by have := (i2 (tz x) (List.mem_map.2 ⟨x, hx, rfl⟩)).1; rw [tz_length] at this; omega
  have k2 : ∀ x ∈ s.s2, x.size ≤ 16 := fun x hx => by have := (n2 (tz x) (List.mem_map.2 ⟨x, hx, rfl⟩)).1; rw [tz_length] at this; omega
  have m1 : ∀ x ∈ (scOf s).d, (eD x).length ≤ 43 := fun x hx => eD_le (d2 x hx)
  have m2 : ∀ x ∈ (scOf s).v, (cu x).length ≤ 9 := fun x hx => cu9 (v2 x hx).1 (by have := (v2 x hx).2; omega)
  have c1' := cu9 (x := (s.nd : Int)) (by omega) (by omega)
  have c2' := cu9 (x := (s.nv : Int)) (by omega) (by omega)
  have hle1 := fun i => lys_le (h := cu (s.nd : Int)) (i := i) m1
  rw [e1] at hle1
  have t1 : (eT (s.s1.map tz)).length ≤ 200 := eT_le i1 i2
  have t2 : (eT (s.s2.map tz)).length ≤ 200 := eT_le (by have : (s.s2.map tz).length ≤ 2 := n1; omega) n2
  have eall : lys eD (cu (s.nd : Int)) (scOf s).d s.nd = cu (s.nd : Int) ++ (scOf s).d.flatMap eD := by have := lys_all (enc := eD) (h := cu (s.nd : Int)) (l := (scOf s).d); rwa [e1] at this
  obtain ⟨P1, hP1⟩ : ∃ P, P = cu (s.nd : Int) ++ (scOf s).d.flatMap eD := ⟨_, rfl⟩
  obtain ⟨P3, hP3⟩ : ∃ P, P = P1 ++ eT (s.s1.map tz) ++ eT (s.s2.map tz) := ⟨_, rfl⟩
  obtain ⟨P4, hP4⟩ : ∃ P, P = P3 ++ cu (s.nv : Int) := ⟨_, rfl⟩
  have p1 := hle1 s.nd
  rw [eall, ← hP1] at p1
  rw [← hP1] at eall
  have p3 := congrArg List.length hP3
  have p4 := congrArg List.length hP4
  simp only [List.length_append] at p3 p4
  have hle2 := fun i => lys_le (h := P4) (i := i) m2
  rw [e2] at hle2
  have esb : sb (scOf s) = lys cu P4 (scOf s).v s.nv := by
    have := lys_all (enc := cu) (h := P4) (l := (scOf s).v)
    rw [e2] at this
    rw [this, hP4, hP3, hP1]
    unfold sb
    rw [e1, e2]
    simp only [List.append_assoc]
    rfl
  rw [esb]
  refine enter Try.func41 rfl (by kernel_rfl) ?_
  refine J.seq ?_
  refine J.region ?_
  -- box
  refine L.boxA (l := [_, _, _, _]) rfl rfl ?_
  intro b1 w1 hb1 hs1 hk1 he1
  have H1 := H.ext he1
  refine L.va rfl (X.assign (by conv => lhs; whnf)) ?_
  refine L.va rfl (X.assign (by conv => lhs; whnf)) ?_
  refine L.nil ?_
  refine J.seq ?_
  refine J.seq ?_
  refine J.region ?_
  refine L.va rfl ((by first | exact X.loadAgg rfl (range_l hk1) Try.underlying34 rfl (by kernel_rfl) | exact X.loadAgg rfl (range_blk hk1) Try.underlying34 rfl (by kernel_rfl))) ?_
  -- callfn bushel/schema.Check
  refine L.call rfl en_74 rfl (H1.check) ?_
  rintro e w2 ⟨rfl, he2⟩
  refine ⟨_, rfl, ?_⟩
  rw [hc]
  have hk2 := hk1.ext he2
  have H2 := H1.ext he2
  have h02 := he1.trans he2
  have z2 := h02.le
  refine L.va rfl (X.assign (by conv => lhs; whnf)) ?_
  refine L.nil ?_
  refine J.seq ?_
  refine J.region ?_
  refine L.va rfl (X.move (by conv => lhs; whnf)) ?_
  refine L.va rfl (X.neq rfl rfl) ?_
  refine L.nil ?_
  -- cond
  refine J.iteF rfl ?_
  refine J.skip ?_
  refine J.seq ?_
  refine J.region ?_
  -- callfn bushel/buf.NewOut
  refine L.call rfl en_90 rfl (OutB.new w2) ?_
  rintro e w3 ⟨b, rfl, hO3, hb3, he3⟩
  refine ⟨_, rfl, ?_⟩
  have hk3 := hk2.ext he3
  have H3 := H2.ext he3
  have hdd3 := H3.hd
  have zb := hk2.lt
  have z3 := he3.le
  refine L.va rfl (X.assign (by conv => lhs; whnf)) ?_
  refine L.nil ?_
  refine J.seq ?_
  refine J.region ?_
  refine L.va rfl (X.move (by conv => lhs; whnf)) ?_
  refine L.va rfl (X.fieldAddr rfl Try.underlying34 rfl sz_30 (by decide)) ?_
  refine L.va rfl (X.load rfl sc_30 (by first | exact Ld.blk hk3 rfl)) ?_
  refine L.va rfl (X.len rfl Try.underlying30) ?_
  refine L.va rfl ((by first | exact X.convU rfl is_3 Try.underlying73 (by omega) | exact X.convw rfl is_3 Try.underlying73)) ?_
  -- callfn (*bushel/buf.Out).U
  refine L.call rfl en_91 rfl (hO3.U (s.nd : Int) (by omega) (by omega) (by omega)) ?_
  rintro e w4 ⟨rfl, ⟨A4, c4, hO4⟩, hc4⟩
  refine ⟨_, rfl, ?_⟩
  have y4 : Below w2.heap.size w3 w4 := hc4.below (by omega) (fun g hg => hg.1)
  have x4 : Ext w2 w4 := he3.low y4 (Nat.le_refl _)
  have hk4 := hk2.ext x4
  refine L.nil ?_
  refine J.seq ?_
  refine J.seq ?_
  refine J.region ?_
  refine L.va rfl (X.fieldAddr rfl Try.underlying34 rfl sz_30 (by decide)) ?_
  refine L.va rfl (X.load rfl sc_30 (by first | exact Ld.blk hk4 rfl)) ?_
  refine L.va rfl (X.len rfl Try.underlying30) ?_
  refine L.va rfl (X.move (by conv => lhs; whnf)) ?_
  refine L.nil ?_
  refine J.block ?_
  -- loop
  refine J.loop (X := Nat) [7, 29, 30, 31, 32, 33, 34, 35, 36, 37, 38, 39, 40, 41, 42] (fun i => [(29, .int .i64 (i : Int))]) (fun i w' => i ≤ s.nd ∧ (∃ A q c, OutB w2.heap.size (fun _ => False) w' b A q c (lys eD (cu (s.nd : Int)) (scOf s).d i)) ∧ Ext w2 w') (fun i => s.nd - i) (0) (At1 (by first | rfl | exact at_int rfl (by omega) | exact at_slice rfl (by omega) | exact at_int rfl (by simp))) ?_ ?_
  · exact ⟨Nat.zero_le _, ⟨A4, _, c4, by rw [lys_zero]; simpa using hO4⟩, x4⟩
  · rintro i g w5 ⟨hi, ⟨A5, q5, c5, hO5⟩, x5⟩
    have hq5 := hO5.hl
    have hk5 := hk2.ext x5
    have H5 := H2.ext x5
    have z5 := x5.le
    have hd5 := H5.hd
    refine J.seq ?_
    refine J.region ?_
    refine L.va rfl (X.lss rfl rfl) ?_
    refine L.nil ?_
    refine J.seq ?_
    -- cond
    refine J.dec rfl (fun hlt => ?_) (fun hlt => ?_)
    · have hA := hd5.some_ (by omega)
      have hx0 : s.ds[i]? = some (s.ds.getD i d0) := by rw [List.getD, List.getElem?_eq_getElem (by omega)]; rfl
      have hx : (scOf s).d[i]? = some (tz (s.ds.getD i d0).1, (s.ds.getD i d0).2) := by show (s.ds.map _)[i]? = _; rw [List.getElem?_map, hx0]; rfl
      have hok := d2 _ (List.mem_of_getElem? hx)
      have hsz : (s.ds.getD i d0).1.size ≤ 16 := by have := hok.1.1; rw [tz_length] at this; omega
      have hn0 : 0 ≤ (s.ds.getD i d0).2 ∧ (s.ds.getD i d0).2 ≤ 4096 := hok.2
      have hnx : lys eD (cu (s.nd : Int)) (scOf s).d (i + 1) = lys eD (cu (s.nd : Int)) (scOf s).d i ++ ct (tz (s.ds.getD i d0).1) ++ cu (s.ds.getD i d0).2 := by
        rw [lys_next (enc := eD) (h := cu (s.nd : Int)) hx]; unfold eD; rw [List.append_assoc]
      have hb := hle1 i
      have hct := ct_tz_le hsz
      -- t32
      refine J.skip ?_
      refine J.seq ?_
      refine J.block ?_
      refine J.seq ?_
      refine J.region ?_
      refine L.va rfl ((by first | exact X.indexAddrn rfl rfl Try.underlying30 sz_88 (by first | exact Option.some_ne_none _ | exact hA) (by omega) | exact X.indexAddr rfl rfl Try.underlying30 sz_88 (by first | exact Option.some_ne_none _ | exact hA) (by omega))) ?_
      refine L.va rfl (X.loadRow (cs := [.string (s.ds.getD i d0).1, .int .i64 (s.ds.getD i d0).2]) rfl hd5 (fun r u hu => flat_row (f := fun p : ByteArray × Int => [.string p.1, .int .i64 p.2]) (fun _ => rfl) hx0 r u hu) (Nat.zero_lt_succ _) Try.underlying88 rfl (by kernel_rfl)) ?_
      -- alloc
      refine L.alloc rfl zr_88 ?_
      intro b6 w6 hb6 hs6 hk6 he6
      -- store
      refine L.storeAgg (vs := [_, _]) rfl rfl rfl rfl sz_88 (hk6) rfl ?_
      intro w7 hk7 hg7 hs7
      have he7 : Ext w5 w7 := he6.grw hg7 (by intro g hg; injection hg with hg; omega)
      have hk7 : Blk w7 b6 88 #[.string (s.ds.getD i d0).1, .int .i64 (s.ds.getD i d0).2] := hk7
      have hO7 := hO5.more (Y := fun g => g = b6) (fun g hg => .inr ⟨by omega, by have := hk7.lt; omega⟩) he7
      refine L.nil ?_
      refine J.seq ?_
      refine J.region ?_
      refine L.va rfl (X.move (by conv => lhs; whnf)) ?_
      refine L.va rfl (X.fieldAddr rfl Try.underlying88 rfl sz_9 (by decide)) ?_
      refine L.va rfl (X.load rfl sc_9 (by first | exact Ld.blk hk7 rfl | exact hA)) ?_
      -- callfn (*bushel/buf.Out).T
      refine L.call rfl en_92 rfl (hO7.T (s.ds.getD i d0).1 (by omega) (by omega)) ?_
      rintro e w8 ⟨rfl, ⟨A8, c8, hO8⟩, hc8⟩
      refine ⟨_, rfl, ?_⟩
      have hk8 := hc8.blk hk7 (fun hh => hh.2 rfl)
      refine L.nil ?_
      refine J.region ?_
      refine L.va rfl (X.move (by conv => lhs; whnf)) ?_
      refine L.va rfl (X.fieldAddr rfl Try.underlying88 rfl sz_3 (by decide)) ?_
      refine L.va rfl (X.load rfl sc_3 (by first | exact Ld.blk hk8 rfl | exact hA)) ?_
      refine L.va rfl ((by first | exact X.convU rfl is_3 Try.underlying73 (by omega) | exact X.convw rfl is_3 Try.underlying73)) ?_
      -- callfn (*bushel/buf.Out).U
      refine L.call rfl en_91 rfl (hO8.U (s.ds.getD i d0).2 hn0.1 (by omega) (by omega)) ?_
      rintro e w9 ⟨rfl, ⟨A9, c9, hO9⟩, hc9⟩
      refine ⟨_, rfl, ?_⟩
      refine L.nil ?_
      refine J.region ?_
      refine L.va rfl (X.add rfl rfl (by omega)) ?_
      refine L.va rfl (X.move (by conv => lhs; whnf)) ?_
      refine L.nil ?_
      -- loopend
      refine ⟨i + 1, At1 (by first | rfl | exact at_int rfl (by omega) | exact at_slice rfl (by omega) | exact at_int rfl (by simp)), (by (iterate 15 refine Agr.lk rfl ?_); exact Agr.lk rfl (Agr.hav rfl Agr.rfl')), ?_⟩
      have hc79 := hc8.trans hc9 (fun _ _ => id)
      have z7 := he7.le
      have h11 := hO9.more (Y := fun _ => False) (fun g hg => hg.elim) (Ext.refl w9)
      rw [← hnx] at h11
      refine ⟨⟨by omega, ⟨A9, _, c9, h11⟩, ?_⟩, by omega⟩
      exact x5.trans he7 |>.low (hc79.below (by omega) (fun g hg => hg.1)) (Nat.le_refl _)
    · obtain rfl : i = s.nd := by omega
      rw [eall] at hO5 hq5
      refine J.exit ?_
      refine J.seq ?_
      refine J.seq ?_
      refine J.region ?_
      refine L.va rfl (X.fieldAddr rfl Try.underlying34 rfl sz_31 (by decide)) ?_
      refine L.va rfl (X.load rfl sc_31 (by first | exact Ld.blk hk5 rfl)) ?_
      refine L.va rfl (X.fieldAddr rfl Try.underlying34 rfl sz_31 (by decide)) ?_
      refine L.va rfl (X.load rfl sc_31 (by first | exact Ld.blk hk5 rfl)) ?_
      -- buildSlice
      refine L.bslice (vs := [_, _]) rfl (Evs.cons (by conv => lhs; whnf) (Evs.cons (by conv => lhs; whnf) Evs.nil)) rfl rfl rfl rfl Try.underlying139 sz_31 zr_31 (by decide) ?_
      intro b6 w6 hb6 hs6 hk6 he6
      have hO6 := hO5.more (Y := fun g => g = b6) (fun g hg => .inr ⟨by omega, by have := hk6.lt; omega⟩) he6
      have x6 := x5.trans he6
      refine L.va rfl (X.len rfl Try.underlying139) ?_
      refine L.va rfl (X.move (by conv => lhs; whnf)) ?_
      refine L.nil ?_
      refine J.block ?_
      -- loop
      refine J.loop (X := Nat) [9, 11, 49, 50, 51, 52, 53, 54, 55, 56, 57, 58, 59, 60, 61, 62, 63, 64, 65, 66, 67, 68] (fun i => [(49, .int .i64 (i : Int))]) (fun i w' => i ≤ 2 ∧ (∃ A q c, OutB w2.heap.size (fun g => g = b6) w' b A q c (lsQ P1 s i)) ∧ Ext w2 w' ∧ Blk w' b6 31 #[.slice s.A1 s.n1 s.c1, .slice s.A2 s.n2 s.c2]) (fun i => 2 - i) (0) (At1 (by first | rfl | exact at_int rfl (by omega) | exact at_slice rfl (by omega) | exact at_int rfl (by simp))) ?_ ?_
      · exact ⟨Nat.zero_le _, ⟨A5, q5, c5, by rw [lsQ_0]; exact hO6⟩, x6, hk6⟩
      · rintro k g w7 ⟨hk, ⟨A7, q7, c7, hO7⟩, x7, hk7⟩
        have hq7 := hO7.hl
        have z7 := x7.le
        refine J.seq ?_
        refine J.region ?_
        refine L.va rfl (X.lss rfl rfl) ?_
        refine L.nil ?_
        refine J.seq ?_
        -- cond
        refine J.dec rfl (fun hlt2 => ?_) (fun hlt2 => ?_)
        · have hQn := lsQ_next P1 s (i := k) (by omega)
          refine J.skip ?_
          refine J.seq ?_
          refine J.block ?_
          -- until
          refine J.cut (X := Option Addr × Nat × Nat) [9, 51, 52] (fun (A, n, c) => [(9, .slice A n c)]) (fun (A, n, c) w' => Reads w7 w2.heap.size 1 A n (strs (s.ls k)) ∧ n ≤ 3 ∧ n = (s.ls k).length ∧ (∀ x ∈ s.ls k, x.size ≤ 16) ∧ (eT ((s.ls k).map tz)).length ≤ 200 ∧ (lsQ P1 s k).length ≤ 500 ∧ w' = w7) ?_ ?_
          · skip
            have hk01 : k = 0 ∨ k = 1 := by omega
            rcases hk01 with rfl | rfl
            · skip
              refine J.region ?_
              refine L.va rfl ((by first | exact X.index1n rfl rfl Try.underlying139 sz_31 (by first | exact Option.some_ne_none _ ) (by omega) | exact X.index1 rfl rfl Try.underlying139 sz_31 (by first | exact Option.some_ne_none _ ) (by omega))) ?_
              refine L.va rfl (X.load rfl sc_31 (by first | exact Ld.blk hk7 rfl)) ?_
              refine L.va rfl (X.assign (by conv => lhs; whnf)) ?_
              refine L.nil ?_
              -- cutend
              refine ⟨(s.A1, s.n1, s.c1), At1 (by first | rfl | exact at_int rfl (by omega) | exact at_slice rfl (by omega) | exact at_int rfl (by simp)), (by (iterate 3 refine Agr.lk rfl ?_); exact Agr.rfl'), ?_⟩
              refine ⟨H2.h1.ext x7, by have : (s.s1.map tz).length ≤ 3 := i1; rw [List.length_map] at this; omega, l1.symm, k1, t1, ?_, rfl⟩
              rw [lsQ_0]; omega
            · skip
              refine J.region ?_
              refine L.va rfl ((by first | exact X.index1n rfl rfl Try.underlying139 sz_31 (by first | exact Option.some_ne_none _ ) (by omega) | exact X.index1 rfl rfl Try.underlying139 sz_31 (by first | exact Option.some_ne_none _ ) (by omega))) ?_
              refine L.va rfl (X.load rfl sc_31 (by first | exact Ld.blk hk7 rfl)) ?_
              refine L.va rfl (X.assign (by conv => lhs; whnf)) ?_
              refine L.nil ?_
              -- cutend
              refine ⟨(s.A2, s.n2, s.c2), At1 (by first | rfl | exact at_int rfl (by omega) | exact at_slice rfl (by omega) | exact at_int rfl (by simp)), (by (iterate 3 refine Agr.lk rfl ?_); exact Agr.rfl'), ?_⟩
              refine ⟨H2.h2.ext x7, by have : (s.s2.map tz).length ≤ 2 := n1; rw [List.length_map] at this; omega, l2.symm, k2, t2, ?_, rfl⟩
              simp [lsQ]; omega
          · rintro ⟨AL, nL, cL⟩ g w8 ⟨hrL, hnL, hlL, hszL, htL, hqL, rfl⟩
            have hcuL := cu9 (x := (nL : Int)) (by omega) (by omega)
            have hmL : ∀ x ∈ (s.ls k).map tz, (ct x).length ≤ 34 := fun x hx => by
              obtain ⟨u, hu, rfl⟩ := List.mem_map.1 hx
              exact ct_tz_le (hszL u hu)
            have hleL := fun i => lys_le (h := lsQ P1 s k ++ cu (nL : Int)) (i := i) hmL
            rw [List.length_map, ← hlL, List.length_append] at hleL
            have eE : lys ct (lsQ P1 s k ++ cu (nL : Int)) ((s.ls k).map tz) nL = lsQ P1 s (k + 1) := by
              have := lys_all (enc := ct) (h := lsQ P1 s k ++ cu (nL : Int)) (l := (s.ls k).map tz)
              rw [List.length_map, ← hlL] at this
              rw [this, hQn]; unfold eT; rw [List.length_map, ← hlL, List.append_assoc]
            refine J.seq ?_
            refine J.region ?_
            refine L.va rfl (X.move (by conv => lhs; whnf)) ?_
            refine L.va rfl (X.move (by conv => lhs; whnf)) ?_
            refine L.va rfl (X.len rfl Try.underlying31) ?_
            refine L.va rfl ((by first | exact X.convU rfl is_3 Try.underlying73 (by omega) | exact X.convw rfl is_3 Try.underlying73)) ?_
            -- callfn (*bushel/buf.Out).U
            refine L.call rfl en_91 rfl (hO7.U (nL : Int) (by omega) (by omega) (by omega)) ?_
            rintro e w9 ⟨rfl, ⟨A9, c9, hO9⟩, hc9⟩
            refine ⟨_, rfl, ?_⟩
            have y9 : Below w2.heap.size w8 w9 := hc9.below (by omega) (fun g hg => hg.1)
            have hk9 := hc9.blk hk7 (fun hh => hh.2 rfl)
            refine L.nil ?_
            refine J.seq ?_
            refine J.region ?_
            refine L.va rfl (X.move (by conv => lhs; whnf)) ?_
            refine L.va rfl (X.len rfl Try.underlying31) ?_
            refine L.va rfl (X.move (by conv => lhs; whnf)) ?_
            refine L.nil ?_
            refine J.block ?_
            -- loop
            refine J.loop (X := Nat) [11, 60, 61, 62, 63, 64, 65, 66, 67] (fun i => [(60, .int .i64 (i : Int))]) (fun i w' => i ≤ nL ∧ (∃ A q c, OutB w2.heap.size (fun g => g = b6) w' b A q c (lys ct (lsQ P1 s k ++ cu (nL : Int)) ((s.ls k).map tz) i)) ∧ Below w2.heap.size w8 w' ∧ Blk w' b6 31 #[.slice s.A1 s.n1 s.c1, .slice s.A2 s.n2 s.c2]) (fun i => nL - i) (0) (At1 (by first | rfl | exact at_int rfl (by omega) | exact at_slice rfl (by omega) | exact at_int rfl (by simp))) ?_ ?_
            · exact ⟨Nat.zero_le _, ⟨A9, _, c9, by rw [lys_zero]; exact hO9⟩, y9, hk9⟩
            · rintro j g wa ⟨hj, ⟨Aa, qa, ca, hOa⟩, ya, hka⟩
              have hqa := hOa.hl
              have za := ya.size
              have hra := hrL.low ya (Nat.le_refl _)
              refine J.seq ?_
              refine J.region ?_
              refine L.va rfl (X.lss rfl rfl) ?_
              refine L.nil ?_
              refine J.seq ?_
              -- cond
              refine J.dec rfl (fun hlt3 => ?_) (fun hlt3 => ?_)
              · have hA := hra.some_ (by omega)
                have hx : ((s.ls k).map tz)[j]? = some (tz ((s.ls k).getD j be0)) := by rw [List.getElem?_map, List.getD, List.getElem?_eq_getElem (by omega)]; rfl
                have hsz : ((s.ls k).getD j be0).size ≤ 16 := by rw [List.getD, List.getElem?_eq_getElem (by omega)]; exact hszL _ (List.getElem_mem _)
                have hnx := lys_next (enc := ct) (h := lsQ P1 s k ++ cu (nL : Int)) hx
                have hb := hleL j
                refine J.skip ?_
                refine J.seq ?_
                refine J.block ?_
                refine J.seq ?_
                refine J.region ?_
                refine L.va rfl ((by first | exact X.index1n rfl rfl Try.underlying31 sz_9 (by first | exact Option.some_ne_none _ | exact hra.some_ (by omega) | exact hA) (by omega) | exact X.index1 rfl rfl Try.underlying31 sz_9 (by first | exact Option.some_ne_none _ | exact hra.some_ (by omega) | exact hA) (by omega))) ?_
                refine L.va rfl (X.load rfl sc_9 (by first | exact Ld.str hra (by omega) | exact hA)) ?_
                refine L.va rfl (X.assign (by conv => lhs; whnf)) ?_
                refine L.nil ?_
                refine J.region ?_
                refine L.va rfl (X.move (by conv => lhs; whnf)) ?_
                refine L.va rfl (X.move (by conv => lhs; whnf)) ?_
                -- callfn (*bushel/buf.Out).T
                refine L.call rfl en_92 rfl (hOa.T ((s.ls k).getD j be0) (by omega) (by omega)) ?_
                rintro e wb ⟨rfl, ⟨Ab, cb, hOb⟩, hcb⟩
                refine ⟨_, rfl, ?_⟩
                rw [← hnx] at hOb
                refine L.nil ?_
                refine J.region ?_
                refine L.va rfl (X.add rfl rfl (by omega)) ?_
                refine L.va rfl (X.move (by conv => lhs; whnf)) ?_
                refine L.nil ?_
                -- loopend
                refine ⟨j + 1, At1 (by first | rfl | exact at_int rfl (by omega) | exact at_slice rfl (by omega) | exact at_int rfl (by simp)), (by (iterate 9 refine Agr.lk rfl ?_); exact Agr.lk rfl (Agr.hav rfl Agr.rfl')), ?_⟩
                exact ⟨⟨by omega, ⟨Ab, _, cb, hOb⟩, ya.trans (hcb.below (by omega) (fun g hg => hg.1)), hcb.blk hka (fun hh => hh.2 rfl)⟩, by omega⟩
              · obtain rfl : j = nL := by omega
                rw [eE] at hOa
                refine J.exit ?_
                refine J.region ?_
                refine L.va rfl (X.add rfl rfl (by omega)) ?_
                refine L.va rfl (X.move (by conv => lhs; whnf)) ?_
                refine L.nil ?_
                -- loopend
                refine ⟨k + 1, At1 (by first | rfl | exact at_int rfl (by omega) | exact at_slice rfl (by omega) | exact at_int rfl (by simp)), (by (iterate 3 refine Agr.lk rfl ?_); refine Agr.lk rfl ?_; refine Agr.hav rfl ?_; (iterate 8 refine Agr.lk rfl ?_); refine Agr.lk rfl ?_; refine Agr.hav rfl ?_; (iterate 1 refine Agr.lk rfl ?_); exact Agr.lk rfl (Agr.hav rfl Agr.rfl')), ?_⟩
                exact ⟨⟨by omega, ⟨Aa, qa, ca, hOa⟩, x7.low ya (Nat.le_refl _), hka⟩, by omega⟩
        · obtain rfl : k = 2 := by omega
          rw [lsQ_2, ← hP3] at hO7 hq7
          have hk27 := hk2.ext x7
          refine J.exit ?_
          refine J.seq ?_
          refine J.region ?_
          refine L.va rfl (X.move (by conv => lhs; whnf)) ?_
          refine L.va rfl (X.fieldAddr rfl Try.underlying34 rfl sz_32 (by decide)) ?_
          refine L.va rfl (X.load rfl sc_32 (by first | exact Ld.blk hk27 rfl)) ?_
          refine L.va rfl (X.len rfl Try.underlying32) ?_
          refine L.va rfl ((by first | exact X.convU rfl is_3 Try.underlying73 (by omega) | exact X.convw rfl is_3 Try.underlying73)) ?_
          -- callfn (*bushel/buf.Out).U
          refine L.call rfl en_91 rfl (hO7.U (s.nv : Int) (by omega) (by omega) (by omega)) ?_
          rintro e w8 ⟨rfl, ⟨A8, c8, hO8⟩, hc8⟩
          refine ⟨_, rfl, ?_⟩
          rw [← hP4] at hO8
          have y8 : Below w2.heap.size w7 w8 := hc8.below (by omega) (fun g hg => hg.1)
          have x8 : Ext w2 w8 := x7.low y8 (Nat.le_refl _)
          have hk28 := hk2.ext x8
          refine L.nil ?_
          refine J.seq ?_
          refine J.seq ?_
          refine J.region ?_
          refine L.va rfl (X.fieldAddr rfl Try.underlying34 rfl sz_32 (by decide)) ?_
          refine L.va rfl (X.load rfl sc_32 (by first | exact Ld.blk hk28 rfl)) ?_
          refine L.va rfl (X.len rfl Try.underlying32) ?_
          refine L.va rfl (X.move (by conv => lhs; whnf)) ?_
          refine L.nil ?_
          refine J.block ?_
          -- loop
          refine J.loop (X := Nat) [13, 78, 79, 80, 81, 82, 83, 84, 85, 86] (fun i => [(78, .int .i64 (i : Int))]) (fun i w' => i ≤ s.nv ∧ (∃ A q c, OutB w2.heap.size (fun g => g = b6) w' b A q c (lys cu P4 (scOf s).v i)) ∧ Ext w2 w') (fun i => s.nv - i) (0) (At1 (by first | rfl | exact at_int rfl (by omega) | exact at_slice rfl (by omega) | exact at_int rfl (by simp))) ?_ ?_
          · exact ⟨Nat.zero_le _, ⟨A8, _, c8, by rw [lys_zero]; exact hO8⟩, x8⟩
          · rintro j g w9 ⟨hj, ⟨A9, q9, c9, hO9⟩, x9⟩
            have hq9 := hO9.hl
            have z9 := x9.le
            have hv9 := (H2.ext x9).hv
            refine J.seq ?_
            refine J.region ?_
            refine L.va rfl (X.lss rfl rfl) ?_
            refine L.nil ?_
            refine J.seq ?_
            -- cond
            refine J.dec rfl (fun hlt3 => ?_) (fun hlt3 => ?_)
            · have hA := hv9.some_ (by omega)
              have hx : (scOf s).v[j]? = some (s.zs.getD j 0) := by show s.zs[j]? = _; rw [List.getD, List.getElem?_eq_getElem (by omega)]; rfl
              have hok := v2 _ (List.mem_of_getElem? hx)
              have hnx := lys_next (enc := cu) (h := P4) hx
              have hb := hle2 j
              refine J.skip ?_
              refine J.seq ?_
              refine J.block ?_
              refine J.seq ?_
              refine J.region ?_
              refine L.va rfl ((by first | exact X.index1n rfl rfl Try.underlying32 sz_35 (by first | exact Option.some_ne_none _ | exact hv9.some_ (by omega) | exact hA) (by omega) | exact X.index1 rfl rfl Try.underlying32 sz_35 (by first | exact Option.some_ne_none _ | exact hv9.some_ (by omega) | exact hA) (by omega))) ?_
              refine L.va rfl (X.load rfl sc_35 (by first | exact Ld.num hv9 (by omega) | exact hA)) ?_
              refine L.va rfl (X.assign (by conv => lhs; whnf)) ?_
              refine L.nil ?_
              refine J.region ?_
              refine L.va rfl (X.move (by conv => lhs; whnf)) ?_
              refine L.va rfl (X.move (by conv => lhs; whnf)) ?_
              refine L.va rfl ((by first | exact X.convU rfl is_35 Try.underlying73 (by omega) | exact X.convw rfl is_35 Try.underlying73)) ?_
              -- callfn (*bushel/buf.Out).U
              refine L.call rfl en_91 rfl (hO9.U (s.zs.getD j 0) hok.1 (by omega) (by omega)) ?_
              rintro e wa ⟨rfl, ⟨Aa, ca, hOa⟩, hca⟩
              refine ⟨_, rfl, ?_⟩
              rw [← hnx] at hOa
              refine L.nil ?_
              refine J.region ?_
              refine L.va rfl (X.add rfl rfl (by omega)) ?_
              refine L.va rfl (X.move (by conv => lhs; whnf)) ?_
              refine L.nil ?_
              -- loopend
              refine ⟨j + 1, At1 (by first | rfl | exact at_int rfl (by omega) | exact at_slice rfl (by omega) | exact at_int rfl (by simp)), (by (iterate 10 refine Agr.lk rfl ?_); exact Agr.lk rfl (Agr.hav rfl Agr.rfl')), ?_⟩
              exact ⟨⟨by omega, ⟨Aa, _, ca, hOa⟩, x9.low (hca.below (by omega) (fun g hg => hg.1)) (Nat.le_refl _)⟩, by omega⟩
            · obtain rfl : j = s.nv := by omega
              have hb := hle2 s.nv
              refine J.exit ?_
              refine J.seq ?_
              refine J.region ?_
              refine L.va rfl (X.move (by conv => lhs; whnf)) ?_
              -- callfn (*bushel/buf.Out).Bytes
              refine L.call rfl en_93 rfl (hO9.Bytes (by omega)) ?_
              rintro e wa ⟨Aa, ca, rfl, hoa, hea⟩
              refine ⟨_, rfl, ?_⟩
              subst hq9
              refine L.va rfl (X.assign (by conv => lhs; whnf)) ?_
              refine L.va rfl (X.assign (by conv => lhs; whnf)) ?_
              refine L.nil ?_
              -- ret
              refine J.ret ?_
              refine fin2 ?_
              exact ⟨Aa, ca, rfl, hoa.mono (by omega), (h02.trans x9).trans hea⟩
end Go.Proofs.Ytlohbkcedpkjaaa
