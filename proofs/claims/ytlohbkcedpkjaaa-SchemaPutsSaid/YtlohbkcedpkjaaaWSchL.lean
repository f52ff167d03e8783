/-
  A schema's bytes, laid by the reference: the whole.
-/
import Derived.Test.YtlohbkcedpkjaaaWSchK
namespace Go.Proofs.Ytlohbkcedpkjaaa
set_option maxRecDepth 100000
open Go.RowKit H
open Byts Cod
set_option linter.unusedVariables false
theorem eD_le {x : List Int × Int} (h : dOk x) : (eD x).length ≤ 43 := by
  have h1 := ct_len h.1.1
  have h2 := cu9 h.2.1 (by have := h.2.2; omega)
  unfold eD
  rw [List.length_append]
  omega
theorem rsput_ {s : Sch} {w : World} (H : s.Here w) (l1 : s.s1.length = s.n1) (l2 : s.s2.length = s.n2) (F : Fits (scOf s)) :
    Calls Try.prog 40 #[s.val] w fun e w' => ∃ A' c', e = .returned (.slice A' (sb (scOf s)).length c') ∧ w'.ownsRow w.heap.size 5 1 (.slice A' (sb (scOf s)).length c') (sb (scOf s)).length (nums .u8 (sb (scOf s))) ∧ Ext w w' := by
  have hle := H.hle
  have hdl := H.len
  have hvl := H.zlen
  obtain ⟨d1, d2, i1, i2, n1, n2, v1, v2⟩ := F
  have e1 : (scOf s).d.length = s.nd := by show (s.ds.map _).length = _; rw [List.length_map, hdl]
  have e2 : (scOf s).v.length = s.nv := hvl
  have k1 : ∀ x ∈ s.s1, x.size ≤ 16 := fun x hx => by have := (i2 (tz x) (List.mem_map.2 ⟨x, hx, rfl⟩)).1; rw [tz_length] at this; omega
  have k2 : ∀ x ∈ s.s2, x.size ≤ 16 := fun x hx => by have := (n2 (tz x) (List.mem_map.2 ⟨x, hx, rfl⟩)).1; rw [tz_length] at this; omega
  have m1 : ∀ x ∈ (scOf s).d, (eD x).length ≤ 43 := fun x hx => eD_le (d2 x hx)
  have m2 : ∀ x ∈ (scOf s).v, (cu x).length ≤ 9 := fun x hx => cu9 (v2 x hx).1 (by have := (v2 x hx).2; omega)
  have c1' := cu9 (x := (s.nd : Int)) (by omega) (by omega)
  have c2' := cu9 (x := (s.nv : Int)) (by omega) (by omega)
  have hle1 := fun i => lys_le (h := cu (s.nd : Int)) (i := i) m1
  rw [e1] at hle1
  have t1 := eT_le i1 i2
  have t2 := eT_le (by omega) n2
  have eall : lys eD (cu (s.nd : Int)) (scOf s).d s.nd = cu (s.nd : Int) ++ (scOf s).d.flatMap eD := by have := lys_all (enc := eD) (h := cu (s.nd : Int)) (l := (scOf s).d); rwa [e1] at this
  obtain ⟨P1, hP1⟩ : ∃ P, P = cu (s.nd : Int) ++ (scOf s).d.flatMap eD := ⟨_, rfl⟩
  obtain ⟨P3, hP3⟩ : ∃ P, P = P1 ++ eT (scOf s).i ++ eT (scOf s).n := ⟨_, rfl⟩
  obtain ⟨P4, hP4⟩ : ∃ P, P = P3 ++ cu (s.nv : Int) := ⟨_, rfl⟩
  have p1 := hle1 s.nd
  rw [eall, ← hP1] at p1
  rw [← hP1] at eall
  have p3 := congrArg List.length hP3
  have p4 := congrArg List.length hP4
  simp only [List.length_append] at p3 p4
  have hle2 := fun i => lys_le (h := P4) (i := i) m2
  rw [e2] at hle2
  have esb : sb (scOf s) = lys cu P4 (scOf s).v s.nv := by
    have := lys_all (enc := cu) (h := P4) (l := (scOf s).v)
    rw [e2] at this
    rw [this, hP4, hP3, hP1]
    unfold sb
    rw [e1, e2]
    simp only [List.append_assoc]
  rw [esb]
  refine enter Try.func40 rfl (by kernel_rfl) ?_
  refine J.seq ?_
  refine J.region ?_
  -- box
  refine L.boxA (l := [_, _, _, _]) rfl rfl ?_
  intro b1 w1 hb1 hs1 hk1 he1
  have H1 := H.ext he1
  have z1 := he1.le
  refine L.va rfl (X.assign (by conv => lhs; whnf)) ?_
  refine L.nil ?_
  refine J.seq ?_
  refine J.region ?_
  refine L.va rfl (X.fieldAddr rfl Try.underlying34 rfl sz_30 (by decide)) ?_
  refine L.va rfl (X.load rfl sc_30 (by first | exact Ld.blk hk1 rfl)) ?_
  refine L.va rfl (X.len rfl Try.underlying30) ?_
  refine L.va rfl ((by first | exact X.convU rfl is_3 Try.underlying73 (by omega) | exact X.convw rfl is_3 Try.underlying73)) ?_
  -- callfn bushel/bushelref07.U
  refine L.call rfl en_87 rfl (ref_U (s.nd : Int) w1 (by omega) (by omega)) ?_
  rintro e w2 ⟨A2, c2, rfl, ho2, he2⟩
  refine ⟨_, rfl, ?_⟩
  have z2 := he2.le
  have hk2 := hk1.ext he2
  have H2 := H1.ext he2
  refine L.va rfl (X.assign (by conv => lhs; whnf)) ?_
  refine L.nil ?_
  refine J.seq ?_
  refine J.seq ?_
  refine J.region ?_
  refine L.va rfl (X.assign (by conv => lhs; whnf)) ?_
  refine L.nil ?_
  refine J.block ?_
  -- loop
  refine J.loop (X := Nat × Option Addr × Nat × Nat) [3, 4, 11, 12, 13, 14, 15, 16, 17, 18, 19, 20, 21, 22, 23, 24, 25, 26, 27, 28, 29, 30, 31, 32, 33, 34, 35, 36] (fun (i, A, q, c) => [(4, .int .i64 (i : Int)), (3, .slice A q c)]) (fun (i, A, q, c) w' => i ≤ s.nd ∧ q = (lys eD (cu (s.nd : Int)) (scOf s).d i).length ∧ w'.ownsRow w1.heap.size 5 1 (.slice A q c) q (nums .u8 (lys eD (cu (s.nd : Int)) (scOf s).d i)) ∧ Ext w1 w') (fun (i, _) => s.nd - i) ((0, A2, wd (s.nd : Int) + 1, c2)) (At2 (by first | rfl | exact at_int rfl (by omega) | exact at_slice rfl (by omega) | exact at_int rfl (by simp)) (by first | rfl | exact at_int rfl (by omega) | exact at_slice rfl (by omega) | exact at_int rfl (by simp))) ?_ ?_
  · refine ⟨Nat.zero_le _, ?_, ?_, he2⟩
    · rw [lys_zero, cu_length]
    · rw [lys_zero]; exact ho2
  · rintro ⟨i, A3, q, c3⟩ g w3 ⟨hi, hq, ho3, he3⟩
    have z3 := he3.le
    have hk3 := hk1.ext he3
    have H3 := H1.ext he3
    have hd3 := H3.hd
    refine J.seq ?_
    refine J.seq ?_
    refine J.region ?_
    refine L.va rfl (X.move (by conv => lhs; whnf)) ?_
    refine L.va rfl (X.fieldAddr rfl Try.underlying34 rfl sz_30 (by decide)) ?_
    refine L.va rfl (X.load rfl sc_30 (by first | exact Ld.blk hk3 rfl | exact Ld.dimS hd3 (by omega) | exact Ld.dimN hd3 (by omega))) ?_
    refine L.va rfl (X.len rfl Try.underlying30) ?_
    refine L.va rfl (X.lss rfl rfl) ?_
    refine L.nil ?_
    -- cond
    refine J.dec rfl (fun hlt => ?_) (fun hlt => ?_)
    · have hin : i < s.nd := by omega
      have hA := hd3.some_ (by omega)
      have hx : (scOf s).d[i]? = some (tz (s.ds.getD i d0).1, (s.ds.getD i d0).2) := by show (s.ds.map _)[i]? = _; rw [List.getElem?_map, List.getD, List.getElem?_eq_getElem (by omega)]; rfl
      have hok := d2 _ (List.mem_of_getElem? hx)
      have hsz : (s.ds.getD i d0).1.size ≤ 16 := by have := hok.1.1; rw [tz_length] at this; omega
      have hn0 : 0 ≤ (s.ds.getD i d0).2 ∧ (s.ds.getD i d0).2 ≤ 4096 := hok.2
      have hnx : lys eD (cu (s.nd : Int)) (scOf s).d (i + 1) = lys eD (cu (s.nd : Int)) (scOf s).d i ++ ct (tz (s.ds.getD i d0).1) ++ cu (s.ds.getD i d0).2 := by
        rw [lys_next (enc := eD) (h := cu (s.nd : Int)) hx]; unfold eD; rw [List.append_assoc]
      have hnl := congrArg List.length hnx
      rw [List.length_append, List.length_append, ← hq, cu_length] at hnl
      have hb := hle1 (i + 1)
      refine J.skip ?_
      refine J.seq ?_
      refine J.block ?_
      refine J.seq ?_
      refine J.region ?_
      refine L.va rfl (X.move (by conv => lhs; whnf)) ?_
      refine L.va rfl (X.fieldAddr rfl Try.underlying34 rfl sz_30 (by decide)) ?_
      refine L.va rfl (X.load rfl sc_30 (by first | exact Ld.blk hk3 rfl | exact Ld.dimS hd3 (by omega) | exact Ld.dimN hd3 (by omega) | exact hA)) ?_
      refine L.va rfl (X.move (by conv => lhs; whnf)) ?_
      refine L.va rfl ((by first | exact X.indexAddrn rfl rfl Try.underlying30 sz_88 (by first | exact Option.some_ne_none _ | exact hd3.some_ (by omega) | exact hA) (by omega) | exact X.indexAddr rfl rfl Try.underlying30 sz_88 (by first | exact Option.some_ne_none _ | exact hd3.some_ (by omega) | exact hA) (by omega))) ?_
      refine L.va rfl (X.fieldP rfl Try.underlying88 rfl sz_9 (by decide) (by first | exact Option.some_ne_none _ | exact hd3.some_ (by omega) | exact hA)) ?_
      refine L.va rfl (X.load rfl sc_9 (by first | exact Ld.blk hk3 rfl | exact Ld.dimS hd3 (by omega) | exact Ld.dimN hd3 (by omega) | exact hA)) ?_
      -- callfn bushel/bushelref07.T
      refine L.call rfl en_88 rfl (ref_T (s.ds.getD i d0).1 w3 (by omega)) ?_
      rintro e w4 ⟨A4, c4, rfl, ho4, he4⟩
      refine ⟨_, rfl, ?_⟩
      have z4 := he4.le
      replace hk3 := hk3.ext he4
      replace hd3 := hd3.ext he4
      -- append
      refine L.appendQ (q := q + (ct (tz (s.ds.getD i d0).1)).length) (ys := lys eD (cu (s.nd : Int)) (scOf s).d i ++ ct (tz (s.ds.getD i d0).1)) rfl rfl rfl Try.underlying58 el_5 (ho3.ext he4) ((Reads.of_own ho4)) (by omega) (by simp) (by unfold maxLen; omega) (by omega) ?_
      intro A5 c5 w5 ho5 hg5 hb5 hor5
      have he35 : Ext w1 w5 := (he3.trans he4).low hb5 (Nat.le_refl _)
      have z5 := he35.le
      have hk5 := hk1.ext he35
      have hd5 := (H1.ext he35).hd
      refine L.va rfl (X.assign (by conv => lhs; whnf)) ?_
      refine L.nil ?_
      refine J.region ?_
      refine L.va rfl (X.move (by conv => lhs; whnf)) ?_
      refine L.va rfl (X.fieldAddr rfl Try.underlying34 rfl sz_30 (by decide)) ?_
      refine L.va rfl (X.load rfl sc_30 (by first | exact Ld.blk hk5 rfl | exact Ld.dimS hd5 (by omega) | exact Ld.dimN hd5 (by omega) | exact hA)) ?_
      refine L.va rfl (X.move (by conv => lhs; whnf)) ?_
      refine L.va rfl ((by first | exact X.indexAddrn rfl rfl Try.underlying30 sz_88 (by first | exact Option.some_ne_none _ | exact hd5.some_ (by omega) | exact hA) (by omega) | exact X.indexAddr rfl rfl Try.underlying30 sz_88 (by first | exact Option.some_ne_none _ | exact hd5.some_ (by omega) | exact hA) (by omega))) ?_
      refine L.va rfl (X.fieldP rfl Try.underlying88 rfl sz_3 (by decide) (by first | exact Option.some_ne_none _ | exact hd5.some_ (by omega) | exact hA)) ?_
      refine L.va rfl (X.load rfl sc_3 (by first | exact Ld.blk hk5 rfl | exact Ld.dimS hd5 (by omega) | exact Ld.dimN hd5 (by omega) | exact hA)) ?_
      refine L.va rfl ((by first | exact X.convU rfl is_3 Try.underlying73 (by omega) | exact X.convw rfl is_3 Try.underlying73)) ?_
      -- callfn bushel/bushelref07.U
      refine L.call rfl en_87 rfl (ref_U (s.ds.getD i d0).2 w5 hn0.1 (by omega)) ?_
      rintro e w6 ⟨A6, c6, rfl, ho6, he6⟩
      refine ⟨_, rfl, ?_⟩
      have z6 := he6.le
      -- append
      refine L.appendQ (q := (lys eD (cu (s.nd : Int)) (scOf s).d (i + 1)).length) (ys := _) rfl rfl rfl Try.underlying58 el_5 (ho5.ext he6) ((Reads.of_own ho6)) (by omega) rfl (by unfold maxLen; omega) (by omega) ?_
      intro A7 c7 w7 ho7 hg7 hb7 hor7
      have ho7 : w7.ownsRow w1.heap.size 5 1 (.slice A7 (lys eD (cu (s.nd : Int)) (scOf s).d (i + 1)).length c7) (lys eD (cu (s.nd : Int)) (scOf s).d (i + 1)).length (nums .u8 (lys eD (cu (s.nd : Int)) (scOf s).d i ++ ct (tz (s.ds.getD i d0).1) ++ cu (s.ds.getD i d0).2)) := ho7
      rw [← hnx] at ho7
      refine L.va rfl (X.assign (by conv => lhs; whnf)) ?_
      refine L.nil ?_
      refine J.region ?_
      refine L.va rfl (X.move (by conv => lhs; whnf)) ?_
      refine L.va rfl (X.add rfl rfl (by omega)) ?_
      refine L.va rfl (X.assign (by conv => lhs; whnf)) ?_
      refine L.nil ?_
      -- loopend
      refine ⟨(i + 1, A7, (lys eD (cu (s.nd : Int)) (scOf s).d (i + 1)).length, c7), At2 (by first | rfl | exact at_int rfl (by omega) | exact at_slice rfl (by omega) | exact at_int rfl (by simp)) (by first | rfl | exact at_int rfl (by omega) | exact at_slice rfl (by omega) | exact at_int rfl (by simp)), (by (iterate 29 refine Agr.lk rfl ?_); exact Agr.lk rfl (Agr.hav rfl Agr.rfl')), ?_⟩
      exact ⟨⟨by omega, rfl, ho7, (he35.trans he6).low hb7 (Nat.le_refl _)⟩, by show s.nd - (i + 1) < s.nd - i; omega⟩
    · obtain rfl : i = s.nd := by omega
      rw [eall] at ho3 hq
      refine J.exit ?_
      refine J.seq ?_
      -- draw
      refine J.draw (ℓ := 1000000) (S := Below w1.heap.size w3) mixed (fun w4 hSE hS_h => ?_)
      have hS : (Below w1.heap.size w3) w4 := Below.mono hSE (by omega)
      have z4 := hS.size
      refine D.va 0 rfl (by kernel_rfl) (fun _ _ _ h => h) rfl (fun w' hw => X.move (by conv => lhs; whnf)) hS ?_
      refine D.va 1 rfl (by kernel_rfl) (fun _ _ _ h => h) rfl (fun w' hw => X.fieldAddr rfl Try.underlying34 rfl sz_31 (by decide)) hS ?_
      refine D.va 2 rfl (by kernel_rfl) (fun _ _ _ h => h) rfl (fun w' hw => X.load rfl sc_31 (by first | exact Ld.blk (hk3.low hw (by omega)) rfl)) hS ?_
      refine D.va 5 rfl (by kernel_rfl) (fun _ _ _ h => h) rfl (fun w' hw => X.fieldAddr rfl Try.underlying34 rfl sz_31 (by decide)) hS ?_
      refine D.va 6 rfl (by kernel_rfl) (fun _ _ _ h => h) rfl (fun w' hw => X.load rfl sc_31 (by first | exact Ld.blk (hk3.low hw (by omega)) rfl)) hS ?_
      -- callfn bushel/bushelref11.texts
      refine D.one 3 (by kernel_rfl) rfl ?_
      refine L.call rfl en_89 rfl (rtexts_ s.A1 s.n1 s.c1 s.s1 w4 (H3.ext hSE).h1 (by omega) k1) ?_
      rintro e w5 ⟨A5, c5, rfl, ho5, he5⟩
      refine ⟨_, rfl, ?_⟩
      have hS1 := hS.trans (Below.mono he5 (by omega))
      refine L.nil ?_
      refine ⟨fun _ => hS1, ?_⟩
      have z5 := he5.le
      -- append
      have hP2 : (P1 ++ eT (scOf s).i).length = q + (eT (s.s1.map tz)).length := by rw [List.length_append, hq]; rfl
      have t1' : (eT (s.s1.map tz)).length ≤ 200 := t1
      have t2' : (eT (s.s2.map tz)).length ≤ 200 := t2
      refine D.one 4 (by kernel_rfl) rfl ?_
      refine L.appendQ (q := q + (eT (s.s1.map tz)).length) (ys := P1 ++ eT (s.s1.map tz)) rfl rfl rfl Try.underlying58 el_5 ((ho3.ext hSE).ext he5) ((Reads.of_own ho5)) (by omega) (by simp) (by unfold maxLen; omega) (by omega) ?_
      intro A6 c6 w6 ho6 hg6 hb6 hor6
      have hS2 := hS1.trans hb6
      refine L.nil ?_
      refine ⟨fun _ => hS2, ?_⟩
      have z6 := hb6.size
      -- callfn bushel/bushelref11.texts
      refine D.one 7 (by kernel_rfl) rfl ?_
      refine L.call rfl en_89 rfl (rtexts_ s.A2 s.n2 s.c2 s.s2 w6 (H1.ext (he3.low hS2 (Nat.le_refl _))).h2 (by omega) k2) ?_
      rintro e w7 ⟨A7, c7, rfl, ho7, he7⟩
      refine ⟨_, rfl, ?_⟩
      have hS3 := hS2.trans (Below.mono he7 (by omega))
      refine L.nil ?_
      refine ⟨fun _ => hS3, ?_⟩
      have z7 := he7.le
      -- append
      refine D.one 8 (by kernel_rfl) rfl ?_
      refine L.appendQ (q := q + (eT (s.s1.map tz)).length + (eT (s.s2.map tz)).length) (ys := P1 ++ eT (s.s1.map tz) ++ eT (s.s2.map tz)) rfl rfl rfl Try.underlying58 el_5 (ho6.ext he7) ((Reads.of_own ho7)) (by omega) (by simp) (by unfold maxLen; omega) (by omega) ?_
      intro A8 c8 w8 ho8 hg8 hb8 hor8
      have hS4 := hS3.trans hb8
      refine L.nil ?_
      refine ⟨fun _ => hS4, ?_⟩
      have hP3' : P1 ++ eT (s.s1.map tz) ++ eT (s.s2.map tz) = P3 := hP3.symm
      rw [hP3'] at ho8
      have q3 : q + (eT (s.s1.map tz)).length + (eT (s.s2.map tz)).length = P3.length := by rw [p3, hq]; rfl
      have hx8 : Ext w1 w8 := he3.low hS4 (Nat.le_refl _)
      refine D.va 9 rfl (by kernel_rfl) (fun _ _ _ h => h) rfl (fun w' hw => X.assign (by conv => lhs; whnf)) hS4 ?_
      refine D.done (by kernel_rfl) ?_
      replace hk3 := hk3.low hS4 (by omega)
      refine J.seq ?_
      refine J.region ?_
      refine L.va rfl (X.move (by conv => lhs; whnf)) ?_
      refine L.va rfl (X.fieldAddr rfl Try.underlying34 rfl sz_32 (by decide)) ?_
      refine L.va rfl (X.load rfl sc_32 (by first | exact Ld.blk hk3 rfl)) ?_
      refine L.va rfl (X.len rfl Try.underlying32) ?_
      refine L.va rfl ((by first | exact X.convU rfl is_3 Try.underlying73 (by omega) | exact X.convw rfl is_3 Try.underlying73)) ?_
      -- callfn bushel/bushelref07.U
      have z8 := hx8.le
      have hk8 := hk1.ext hx8
      have H8 := H1.ext hx8
      refine L.call rfl en_87 rfl (ref_U (s.nv : Int) w8 (by omega) (by omega)) ?_
      rintro e w9 ⟨A9, c9, rfl, ho9, he9⟩
      refine ⟨_, rfl, ?_⟩
      have z9 := he9.le
      have hcw := cu_length (s.nv : Int)
      -- append
      refine L.appendQ (q := P4.length) (ys := _) rfl rfl rfl Try.underlying58 el_5 (ho8.ext he9) ((Reads.of_own ho9)) (by omega) rfl (by unfold maxLen; omega) (by omega) ?_
      intro Aa ca wa hoa hga hba hora
      have hoa : wa.ownsRow w1.heap.size 5 1 (.slice Aa P4.length ca) P4.length (nums .u8 (P3 ++ cu (s.nv : Int))) := hoa
      rw [← hP4] at hoa
      have hxa : Ext w1 wa := (hx8.trans he9).low hba (Nat.le_refl _)
      have hka := hk1.ext hxa
      refine L.va rfl (X.assign (by conv => lhs; whnf)) ?_
      refine L.nil ?_
      refine J.seq ?_
      refine J.seq ?_
      refine J.region ?_
      refine L.va rfl (X.assign (by conv => lhs; whnf)) ?_
      refine L.nil ?_
      refine J.block ?_
      -- loop
      refine J.loop (X := Nat × Option Addr × Nat × Nat) [3, 5, 53, 54, 55, 56, 57, 58, 59, 60, 61, 62, 63, 64, 65, 66, 67, 68] (fun (i, A, q, c) => [(5, .int .i64 (i : Int)), (3, .slice A q c)]) (fun (i, A, q, c) w' => i ≤ s.nv ∧ q = (lys cu P4 (scOf s).v i).length ∧ w'.ownsRow w1.heap.size 5 1 (.slice A q c) q (nums .u8 (lys cu P4 (scOf s).v i)) ∧ Ext w1 w') (fun (i, _) => s.nv - i) ((0, Aa, P4.length, ca)) (At2 (by first | rfl | exact at_int rfl (by omega) | exact at_slice rfl (by omega) | exact at_int rfl (by simp)) (by first | rfl | exact at_int rfl (by omega) | exact at_slice rfl (by omega) | exact at_int rfl (by simp))) ?_ ?_
      · refine ⟨Nat.zero_le _, ?_, ?_, hxa⟩
        · rw [lys_zero]
        · rw [lys_zero]; exact hoa
      · rintro ⟨j, Ab, r, cb⟩ g wb ⟨hj, hr, hob, hxb⟩
        have zb := hxb.le
        have hkb := hk1.ext hxb
        have hvb := (H1.ext hxb).hv
        refine J.seq ?_
        refine J.seq ?_
        refine J.region ?_
        refine L.va rfl (X.move (by conv => lhs; whnf)) ?_
        refine L.va rfl (X.fieldAddr rfl Try.underlying34 rfl sz_32 (by decide)) ?_
        refine L.va rfl (X.load rfl sc_32 (by first | exact Ld.blk hkb rfl | exact Ld.num hvb (by omega))) ?_
        refine L.va rfl (X.len rfl Try.underlying32) ?_
        refine L.va rfl (X.lss rfl rfl) ?_
        refine L.nil ?_
        -- cond
        refine J.dec rfl (fun hlt2 => ?_) (fun hlt2 => ?_)
        · have hA := hvb.some_ (by omega)
          have hx : (scOf s).v[j]? = some (s.zs.getD j 0) := by show s.zs[j]? = _; rw [List.getD, List.getElem?_eq_getElem (by omega)]; rfl
          have hok := v2 _ (List.mem_of_getElem? hx)
          have hnx := lys_next (enc := cu) (h := P4) hx
          have hnl := congrArg List.length hnx
          rw [List.length_append, ← hr, cu_length] at hnl
          have hb := hle2 (j + 1)
          refine J.skip ?_
          refine J.seq ?_
          refine J.block ?_
          refine J.region ?_
          refine L.va rfl (X.move (by conv => lhs; whnf)) ?_
          refine L.va rfl (X.fieldAddr rfl Try.underlying34 rfl sz_32 (by decide)) ?_
          refine L.va rfl (X.load rfl sc_32 (by first | exact Ld.blk hkb rfl | exact Ld.num hvb (by omega) | exact hA)) ?_
          refine L.va rfl (X.move (by conv => lhs; whnf)) ?_
          refine L.va rfl ((by first | exact X.index1n rfl rfl Try.underlying32 sz_35 (by first | exact Option.some_ne_none _ | exact hvb.some_ (by omega) | exact hA) (by omega) | exact X.index1 rfl rfl Try.underlying32 sz_35 (by first | exact Option.some_ne_none _ | exact hvb.some_ (by omega) | exact hA) (by omega))) ?_
          refine L.va rfl (X.load rfl sc_35 (by first | exact Ld.blk hkb rfl | exact Ld.num hvb (by omega) | exact hA)) ?_
          refine L.va rfl ((by first | exact X.convU rfl is_35 Try.underlying73 (by omega) | exact X.convw rfl is_35 Try.underlying73)) ?_
          -- callfn bushel/bushelref07.U
          refine L.call rfl en_87 rfl (ref_U (s.zs.getD j 0) wb hok.1 (by omega)) ?_
          rintro e wc ⟨Ac, cc, rfl, hoc, hec⟩
          refine ⟨_, rfl, ?_⟩
          have zc := hec.le
          -- append
          refine L.appendQ (q := (lys cu P4 (scOf s).v (j + 1)).length) (ys := _) rfl rfl rfl Try.underlying58 el_5 (hob.ext hec) ((Reads.of_own hoc)) (by omega) rfl (by unfold maxLen; omega) (by omega) ?_
          intro Ad cd wd' hod hgd hbd hord
          have hod : wd'.ownsRow w1.heap.size 5 1 (.slice Ad (lys cu P4 (scOf s).v (j + 1)).length cd) (lys cu P4 (scOf s).v (j + 1)).length (nums .u8 (lys cu P4 (scOf s).v j ++ cu (s.zs.getD j 0))) := hod
          rw [← hnx] at hod
          refine L.va rfl (X.assign (by conv => lhs; whnf)) ?_
          refine L.nil ?_
          refine J.region ?_
          refine L.va rfl (X.move (by conv => lhs; whnf)) ?_
          refine L.va rfl (X.add rfl rfl (by omega)) ?_
          refine L.va rfl (X.assign (by conv => lhs; whnf)) ?_
          refine L.nil ?_
          -- loopend
          refine ⟨(j + 1, Ad, (lys cu P4 (scOf s).v (j + 1)).length, cd), At2 (by first | rfl | exact at_int rfl (by omega) | exact at_slice rfl (by omega) | exact at_int rfl (by simp)) (by first | rfl | exact at_int rfl (by omega) | exact at_slice rfl (by omega) | exact at_int rfl (by simp)), (by (iterate 18 refine Agr.lk rfl ?_); exact Agr.lk rfl (Agr.hav rfl Agr.rfl')), ?_⟩
          exact ⟨⟨by omega, rfl, hod, (hxb.trans hec).low hbd (Nat.le_refl _)⟩, by show s.nv - (j + 1) < s.nv - j; omega⟩
        · obtain rfl : j = s.nv := by omega
          subst hr
          refine J.exit ?_
          refine J.seq ?_
          refine J.region ?_
          refine L.va rfl (X.move (by conv => lhs; whnf)) ?_
          refine L.va rfl (X.assign (by conv => lhs; whnf)) ?_
          refine L.nil ?_
          -- ret
          refine J.ret ?_
          refine fin1 ?_
          exact ⟨Ab, cb, rfl, hob.mono z1, he1.trans hxb⟩
end Go.Proofs.Ytlohbkcedpkjaaa
