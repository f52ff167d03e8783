/-
  diff.Rows, walked.
-/
import Derived.Test.YtlohbkcedpkjaaaRowsPlain
namespace Go.Proofs.Ytlohbkcedpkjaaa
set_option maxRecDepth 100000
open Go.RowKit H
set_option linter.unusedVariables false
namespace H
theorem Ld.bool {w : World} {B n : Nat} {A : Option Addr} {l : List Bool} (h : Reads w B 1 A n (l.map Value.bool)) {j : Nat} (hj : j < n) : Ld w (pA A j) (.bool (l.getD j false)) := by
  have h1 := Ld.rd h (j := j) (by omega)
  have hl : j < l.length := by have := h.1; simp at this; omega
  have : (l.map Value.bool).getD j undef = .bool (l.getD j false) := by simp [List.getD, hl]
  rwa [this] at h1
end H
theorem own_elder {w w' : World} {b1 e1 s1 n1 e2 s2 n2 : Nat} {v1 v2 : Value} {x1 x2 : List Value} (h1 : w.ownsRow b1 e1 s1 v1 n1 x1) (h2 : w'.ownsRow w.heap.size e2 s2 v2 n2 x2) : v1.ownBlock = none ∨ v1.ownBlock ≠ v2.ownBlock := by
  cases hv : v1.ownBlock with
  | none => exact .inl rfl
  | some g =>
    refine .inr fun e => ?_
    have a1 := (h1.lt g hv).2
    have a2 := (h2.lt g e.symm).1
    omega
theorem map_set_bool (l : List Bool) (k : Nat) (b : Bool) : (l.map Value.bool).set k (.bool b) = (l.set k b).map Value.bool := by rw [List.map_set]
theorem Rws.At.row {s : Rws} {N : Nat} {w : World} (h : s.At N w) {i : Nat} (hi : i < s.n) : (s.l.getD i rw0).At N w := h.h _ (memR (by rw [h.l]; exact hi))
def RowsGot (a b : List Rw) (w : World) (e : Ending) (w' : World) : Prop :=
  ∃ A1 c1 A2 c2, e = .returned (.tuple #[.slice A1 (mst a b a.length).2.length c1, .slice A2 (nh (mst a b a.length).1 b.length).length c2]) ∧
    w'.ownsRow w.heap.size 3 1 (.slice A1 (mst a b a.length).2.length c1) (mst a b a.length).2.length (nums .i64 (mst a b a.length).2) ∧
    w'.ownsRow w.heap.size 3 1 (.slice A2 (nh (mst a b a.length).1 b.length).length c2) (nh (mst a b a.length).1 b.length).length (nums .i64 (nh (mst a b a.length).1 b.length)) ∧ Ext w w'
theorem drows (s t : Rws) (w : World) (hs : s.At w.heap.size w) (ht : t.At w.heap.size w) (ns : s.n ≤ 60) (nt : t.n ≤ 60) :
    Calls Try.prog 12 #[s.val, t.val] w (RowsGot s.l t.l w) := by
  have ls := hs.l
  have lt := ht.l
  refine enter Try.func12 rfl (by kernel_rfl) ?_
  refine J.seq ?_
  refine J.region ?_
  refine L.va rfl (X.assign (by conv => lhs; whnf)) ?_
  refine L.va rfl (X.assign (by conv => lhs; whnf)) ?_
  refine L.nil ?_
  refine J.seq ?_
  refine J.region ?_
  refine L.va rfl (X.move (by conv => lhs; whnf)) ?_
  refine L.va rfl (X.len rfl Try.underlying22) ?_
  -- makeSlice
  refine L.make (q := t.n) (c := t.n) rfl rfl rfl Try.underlying84 el_4 (by omega) ?_
  intro b6 w1 hb6 hs6 hk6 he6
  rw [made_one rfl] at hk6
  have z1 := he6.le
  have hoH : w1.ownsRow w.heap.size 4 1 (.slice (some ⟨b6, 0, none⟩) t.n t.n) t.n ((List.replicate t.l.length false).map Value.bool) := by
    have := blk_own1 (base := w.heap.size) (q := t.n) (l := List.replicate t.n (Value.bool false)) hk6 (by omega) (by unfold maxLen; omega) (by simp)
    rw [lt]
    simpa using this
  refine L.va rfl (X.assign (by conv => lhs; whnf)) ?_
  refine L.nil ?_
  refine J.seq ?_
  refine J.region ?_
  refine L.va rfl (X.assign (by conv => lhs; whnf)) ?_
  refine L.va rfl (X.assign (by conv => lhs; whnf)) ?_
  refine L.nil ?_
  refine J.seq ?_
  refine J.seq ?_
  refine J.region ?_
  refine L.va rfl (X.move (by conv => lhs; whnf)) ?_
  refine L.va rfl (X.len rfl Try.underlying22) ?_
  refine L.va rfl (X.move (by conv => lhs; whnf)) ?_
  refine L.nil ?_
  refine J.block ?_
  -- loop
  refine J.loop (X := Nat × Option Addr × Nat × Nat) [7, 9, 10, 11, 12, 13, 20, 21, 22, 23, 24, 25, 26, 27, 28, 29, 30, 31, 32, 33, 34, 35, 36, 37, 38, 39, 40, 41, 42, 43, 44, 45, 46, 47, 48, 49, 50, 51, 52] (fun (i, A, q, c) => [(20, .int .i64 (i : Int)), (7, .slice A q c)]) (fun (i, A, q, c) w' => i ≤ s.n ∧ q = (mst s.l t.l i).2.length ∧ w'.ownsRow w.heap.size 3 1 (.slice A q c) q (nums .i64 (mst s.l t.l i).2) ∧ w'.ownsRow w.heap.size 4 1 (.slice (some ⟨b6, 0, none⟩) t.n t.n) t.n ((mst s.l t.l i).1.map Value.bool) ∧ Ext w w') (fun (i, _) => s.n - i) ((0, none, 0, 0)) (At2 (by first | rfl | exact at_int rfl (by omega) | exact at_slice rfl (by omega) | exact at_int rfl (by simp)) (by first | rfl | exact at_int rfl (by omega) | exact at_slice rfl (by omega) | exact at_int rfl (by simp))) ?_ ?_
  · exact ⟨Nat.zero_le _, rfl, own_nil _ _ _ _, hoH, he6⟩
  · rintro ⟨i, AL, q, cL⟩ g w2 ⟨hi, hq, hoL, hoH, he2⟩
    have z2 := he2.le
    have S2 := hs.ext he2
    have hlq := mst_left s.l t.l i
    refine J.seq ?_
    refine J.region ?_
    refine L.va rfl (X.lss rfl rfl) ?_
    refine L.nil ?_
    refine J.seq ?_
    -- cond
    refine J.dec rfl (fun hlt => ?_) (fun hlt => ?_)
    · have hin : i < s.n := by omega
      have hA := S2.r.some_ (by omega)
      -- t24
      refine J.skip ?_
      refine J.seq ?_
      refine J.block ?_
      refine J.seq ?_
      refine J.region ?_
      refine L.va rfl (X.move (by conv => lhs; whnf)) ?_
      refine L.va rfl ((by first | exact X.indexAddrn rfl rfl Try.underlying22 sz_57 (by first | exact Option.some_ne_none _ | exact hA) (by omega) | exact X.indexAddr rfl rfl Try.underlying22 sz_57 (by first | exact Option.some_ne_none _ | exact hA) (by omega))) ?_
      refine L.va rfl (X.loadRow (cs := (s.l.getD i rw0).vs) rfl S2.r (fun r u hu => flat_row rw_len (gtR (by omega)) r u hu) (Nat.zero_lt_succ _) Try.underlying57 rfl (by kernel_rfl)) ?_
      -- alloc
      refine L.alloc rfl zr_57 ?_
      intro b10 w3 hb10 hs10 hk10 he3
      refine L.va rfl (X.assign (by conv => lhs; whnf)) ?_
      -- store
      refine L.storeAgg (vs := [_, _]) rfl rfl rfl rfl sz_57 (hk10) rfl ?_
      intro w4 hk4 hg4 hs4
      have he24 : Ext w2 w4 := he3.grw hg4 (by intro g hg; injection hg with hg; omega)
      have he04 := he2.trans he24
      have z4 := he24.le
      have hk4 : Blk w4 b10 57 (s.l.getD i rw0).vs.toArray := hk4
      have hoL4 := hoL.ext he24
      have hoH4 := hoH.ext he24
      refine L.nil ?_
      refine J.seq ?_
      refine J.region ?_
      refine L.va rfl (X.assign (by conv => lhs; whnf)) ?_
      refine L.nil ?_
      -- until
      refine J.cut (X := Bool) [11, 12, 13, 25, 26, 27, 28, 29, 30, 31, 32, 33, 34, 35, 36, 37, 38, 39, 40, 41, 42, 43, 44, 45] (fun m => [(11, .bool m)]) (fun m w' => m = (fk (s.l.getD i rw0) t.l (mst s.l t.l i).1).isSome ∧ w'.ownsRow w.heap.size 3 1 (.slice AL q cL) q (nums .i64 (mst s.l t.l i).2) ∧ w'.ownsRow w.heap.size 4 1 (.slice (some ⟨b6, 0, none⟩) t.n t.n) t.n ((nx (mst s.l t.l i).1 (fk (s.l.getD i rw0) t.l (mst s.l t.l i).1)).map Value.bool) ∧ Ext w w') ?_ ?_
      · refine J.seq ?_
        refine J.region ?_
        refine L.va rfl (X.move (by conv => lhs; whnf)) ?_
        refine L.va rfl (X.len rfl Try.underlying22) ?_
        refine L.va rfl (X.move (by conv => lhs; whnf)) ?_
        refine L.nil ?_
        refine J.block ?_
        -- loop
        refine J.loop (X := Nat) [11, 12, 13, 27, 28, 29, 30, 31, 32, 33, 34, 35, 36, 37, 38, 39, 40, 41, 42, 43, 44, 45] (fun k => [(27, .int .i64 (k : Int)), (11, .bool false)]) (fun k w' => k ≤ t.n ∧ (∀ j, j < k → mt (s.l.getD i rw0) t.l (mst s.l t.l i).1 j = false) ∧ Ext w4 w') (fun k => t.n - k) (0) (At2 (by first | rfl | exact at_int rfl (by omega) | exact at_slice rfl (by omega) | exact at_int rfl (by simp)) (by first | rfl | exact at_int rfl (by omega) | exact at_slice rfl (by omega) | exact at_int rfl (by simp))) ?_ ?_
        · exact ⟨Nat.zero_le _, fun j hj => absurd hj (by omega), Ext.refl _⟩
        · rintro k g w5 ⟨hk, hP, he5⟩
          have he05 := he04.trans he5
          have z5 := he05.le
          have T5 := ht.ext he05
          have S5 := hs.ext he05
          refine J.seq ?_
          refine J.region ?_
          refine L.va rfl (X.lss rfl rfl) ?_
          refine L.nil ?_
          refine J.seq ?_
          -- cond
          refine J.dec rfl (fun hlt2 => ?_) (fun hlt2 => ?_)
          · have hkn : k < t.n := by omega
            have hA2 := T5.r.some_ (by omega)
            -- t31
            refine J.skip ?_
            refine J.seq ?_
            refine J.block ?_
            refine J.seq ?_
            refine J.region ?_
            refine L.va rfl (X.move (by conv => lhs; whnf)) ?_
            refine L.va rfl ((by first | exact X.indexAddrn rfl rfl Try.underlying22 sz_57 (by first | exact Option.some_ne_none _ | exact hA2) (by omega) | exact X.indexAddr rfl rfl Try.underlying22 sz_57 (by first | exact Option.some_ne_none _ | exact hA2) (by omega))) ?_
            refine L.va rfl (X.loadRow (cs := (t.l.getD k rw0).vs) rfl T5.r (fun r u hu => flat_row rw_len (gtR (by omega)) r u hu) (Nat.zero_lt_succ _) Try.underlying57 rfl (by kernel_rfl)) ?_
            -- alloc
            refine L.alloc rfl zr_57 ?_
            intro b13 w6 hb13 hs13 hk13 he6'
            refine L.va rfl (X.assign (by conv => lhs; whnf)) ?_
            -- store
            refine L.storeAgg (vs := [_, _]) rfl rfl rfl rfl sz_57 (hk13) rfl ?_
            intro w7 hk7 hg7 hs7
            have he57 : Ext w5 w7 := he6'.grw hg7 (by intro g hg; injection hg with hg; omega)
            have he47 := he5.trans he57
            have he07 := he04.trans he47
            have hk7 : Blk w7 b13 57 (t.l.getD k rw0).vs.toArray := hk7
            have hk47 := hk4.ext he47
            have hoH7 := hoH4.ext he47
            have hoL7 := hoL4.ext he47
            have z7 := he07.le
            have R1 := ((hs.ext he07).row (i := i) hin).more z7
            have R2 := ((ht.ext he07).row (i := k) hkn).more z7
            refine L.nil ?_
            refine J.seq ?_
            refine J.region ?_
            refine L.va rfl (X.move (by conv => lhs; whnf)) ?_
            refine L.va rfl (X.move (by conv => lhs; whnf)) ?_
            refine L.va rfl ((by first | exact X.index1n rfl rfl Try.underlying84 sz_4 (by first | exact Option.some_ne_none _ | exact Option.some_ne_none _) (by omega) | exact X.index1 rfl rfl Try.underlying84 sz_4 (by first | exact Option.some_ne_none _ | exact Option.some_ne_none _) (by omega))) ?_
            refine L.va rfl (X.load rfl sc_4 (by first | exact Ld.blk hk7 rfl | exact Ld.blk hk47 rfl | exact Option.some_ne_none _ | exact Ld.bool (Reads.of_own hoH7) (by omega))) ?_
            refine L.va rfl (X.not rfl) ?_
            refine L.va rfl (X.move (by conv => lhs; whnf)) ?_
            -- case t37
            by_cases hh : (mst s.l t.l i).1.getD k false = true
            · rw [hh]
              have hm : mt (s.l.getD i rw0) t.l (mst s.l t.l i).1 k = false := by unfold mt; rw [hh]; rfl
              refine L.caseBF (k := 37) rfl (by rfl) ?_
              refine L.no rfl ?_
              refine L.no rfl ?_
              refine L.no rfl ?_
              refine L.va rfl (X.pickF rfl (by conv => lhs; whnf)) ?_
              refine L.nil ?_
              -- cond
              refine J.iteF rfl ?_
              refine J.skip ?_
              refine J.region ?_
              refine L.va rfl (X.add rfl rfl (by omega)) ?_
              refine L.va rfl (X.move (by conv => lhs; whnf)) ?_
              refine L.nil ?_
              -- loopend
              refine ⟨k + 1, At2 (by first | rfl | exact at_int rfl (by omega) | exact at_slice rfl (by omega) | exact at_int rfl (by simp)) (by first | rfl | exact at_int rfl (by omega) | exact at_slice rfl (by omega) | exact at_int rfl (by simp)), (by (iterate 19 refine Agr.lk rfl ?_); exact Agr.lk rfl (Agr.hav rfl Agr.rfl')), ?_⟩
              refine ⟨⟨by omega, fun j hj => ?_, he47⟩, by omega⟩
              rcases Nat.lt_or_ge j k with h | h
              · exact hP j h
              · obtain rfl : j = k := by omega
                exact hm
            · have hh : (mst s.l t.l i).1.getD k false = false := by simpa using hh
              rw [hh]
              have em : mt (s.l.getD i rw0) t.l (mst s.l t.l i).1 k = (s.l.getD i rw0).same (t.l.getD k rw0) := by unfold mt; rw [hh]; rfl
              refine L.caseBT (k := 37) rfl (by rfl) ?_
              refine L.va rfl ((by first | exact X.loadAgg rfl (range_l hk7) Try.underlying57 rfl (by kernel_rfl) | exact X.loadAgg rfl (range_blk hk7) Try.underlying57 rfl (by kernel_rfl) | exact X.loadAgg rfl (range_l hk47) Try.underlying57 rfl (by kernel_rfl) | exact X.loadAgg rfl (range_blk hk47) Try.underlying57 rfl (by kernel_rfl))) ?_
              refine L.va rfl ((by first | exact X.loadAgg rfl (range_l hk7) Try.underlying57 rfl (by kernel_rfl) | exact X.loadAgg rfl (range_blk hk7) Try.underlying57 rfl (by kernel_rfl) | exact X.loadAgg rfl (range_l hk47) Try.underlying57 rfl (by kernel_rfl) | exact X.loadAgg rfl (range_blk hk47) Try.underlying57 rfl (by kernel_rfl))) ?_
              -- callfn bushel/order.Same
              refine L.call rfl en_34 rfl (osame (s.l.getD i rw0) (t.l.getD k rw0) w7 R1 R2) ?_
              rintro e w8 ⟨rfl, he8⟩
              refine ⟨_, rfl, ?_⟩
              have he48 := he47.trans he8
              have hoH8 := hoH7.ext he8
              have hoL8 := hoL7.ext he8
              refine L.va rfl (X.pickT rfl (by conv => lhs; whnf)) ?_
              refine L.nil ?_
              -- cond
              by_cases hd : (s.l.getD i rw0).same (t.l.getD k rw0) = true
              · rw [hd] at em
                rw [hd]
                have ef := fk_some (by omega : k < t.l.length) em hP
                refine J.iteT rfl ?_
                refine J.seq ?_
                refine J.region ?_
                refine L.va rfl (X.move (by conv => lhs; whnf)) ?_
                refine L.va rfl (X.move (by conv => lhs; whnf)) ?_
                refine L.va rfl ((by first | exact X.index1n rfl rfl Try.underlying84 sz_4 (by first | exact Option.some_ne_none _ | exact Option.some_ne_none _) (by omega) | exact X.index1 rfl rfl Try.underlying84 sz_4 (by first | exact Option.some_ne_none _ | exact Option.some_ne_none _) (by omega))) ?_
                -- store
                refine L.storeO rfl rfl (by conv => lhs; whnf) rfl sz_4 (hoH8) (by omega) ?_
                intro w9 hoH9 hg9 hb9 hs9
                rw [map_set_bool] at hoH9
                refine L.va rfl (X.assign (by conv => lhs; whnf)) ?_
                refine L.nil ?_
                refine J.exit ?_
                -- cutend
                refine ⟨true, At1 (by first | rfl | exact at_int rfl (by omega) | exact at_slice rfl (by omega) | exact at_int rfl (by simp)), (by (iterate 21 refine Agr.lk rfl ?_); refine Agr.lk rfl ?_; refine Agr.hav rfl ?_; (iterate 3 refine Agr.lk rfl ?_); exact Agr.rfl'), ?_⟩
                rw [ef]
                exact ⟨rfl, hoL8.kept hg9 (own_or hoL8 hoH8 (by decide)), hoH9, (he04.trans he48).low hb9 (Nat.le_refl _)⟩
              · have hd : (s.l.getD i rw0).same (t.l.getD k rw0) = false := by simpa using hd
                rw [hd] at em
                rw [hd]
                refine J.iteF rfl ?_
                refine J.skip ?_
                refine J.region ?_
                refine L.va rfl (X.add rfl rfl (by omega)) ?_
                refine L.va rfl (X.move (by conv => lhs; whnf)) ?_
                refine L.nil ?_
                -- loopend
                refine ⟨k + 1, At2 (by first | rfl | exact at_int rfl (by omega) | exact at_slice rfl (by omega) | exact at_int rfl (by simp)) (by first | rfl | exact at_int rfl (by omega) | exact at_slice rfl (by omega) | exact at_int rfl (by simp)), (by (iterate 19 refine Agr.lk rfl ?_); exact Agr.lk rfl (Agr.hav rfl Agr.rfl')), ?_⟩
                refine ⟨⟨by omega, fun j hj => ?_, he48⟩, by omega⟩
                rcases Nat.lt_or_ge j k with h | h
                · exact hP j h
                · obtain rfl : j = k := by omega
                  exact em
          · have ef := fk_none (fun j hj => hP j (by omega))
            refine J.exit ?_
            -- cutend
            refine ⟨false, At1 (by first | rfl | exact at_int rfl (by omega) | exact at_slice rfl (by omega) | exact at_int rfl (by simp)), (by (iterate 1 refine Agr.lk rfl ?_); refine Agr.lk rfl ?_; refine Agr.hav rfl ?_; (iterate 3 refine Agr.lk rfl ?_); exact Agr.rfl'), ?_⟩
            rw [ef]
            exact ⟨rfl, hoL4.ext he5, hoH4.ext he5, he04.trans he5⟩
      · rintro m g w5 ⟨hm, hoL5, hoH5, he5⟩
        have z5 := he5.le
        refine J.seq ?_
        refine J.region ?_
        refine L.va rfl (X.move (by conv => lhs; whnf)) ?_
        refine L.va rfl (X.not rfl) ?_
        refine L.nil ?_
        -- cond
        by_cases hf : (fk (s.l.getD i rw0) t.l (mst s.l t.l i).1).isSome = true
        · rw [hf] at hm
          subst hm
          have e2 : (mst s.l t.l (i + 1)).2 = (mst s.l t.l i).2 := by rw [mst, if_pos hf]
          refine J.iteF rfl ?_
          refine J.skip ?_
          refine J.region ?_
          refine L.va rfl (X.add rfl rfl (by omega)) ?_
          refine L.va rfl (X.move (by conv => lhs; whnf)) ?_
          refine L.nil ?_
          -- loopend
          refine ⟨(i + 1, AL, q, cL), At2 (by first | rfl | exact at_int rfl (by omega) | exact at_slice rfl (by omega) | exact at_int rfl (by simp)) (by first | rfl | exact at_int rfl (by omega) | exact at_slice rfl (by omega) | exact at_int rfl (by simp)), (by (iterate 4 refine Agr.lk rfl ?_); refine Agr.lk rfl ?_; refine Agr.hav rfl ?_; (iterate 7 refine Agr.lk rfl ?_); exact Agr.lk rfl (Agr.hav rfl Agr.rfl')), ?_⟩
          exact ⟨⟨by omega, by rw [e2]; exact hq, by rw [e2]; exact hoL5, hoH5, he5⟩, by show s.n - (i + 1) < s.n - i; omega⟩
        · have hf0 := hf
          have hf : (fk (s.l.getD i rw0) t.l (mst s.l t.l i).1).isSome = false := by simpa using hf
          rw [hf] at hm
          subst hm
          have e2 : (mst s.l t.l (i + 1)).2 = (mst s.l t.l i).2 ++ [(i : Int)] := by rw [mst, if_neg hf0]
          have el := congrArg List.length e2
          rw [List.length_append, List.length_singleton] at el
          refine J.iteT rfl ?_
          refine J.region ?_
          refine L.va rfl (X.move (by conv => lhs; whnf)) ?_
          refine L.va rfl (X.move (by conv => lhs; whnf)) ?_
          -- buildSlice
          refine L.bslice (vs := [_]) rfl (Evs.cons (by conv => lhs; whnf) Evs.nil) rfl rfl rfl rfl Try.underlying25 sz_3 zr_3 (by decide) ?_
          intro b6' w6 hb6' hs6' hk6' he6'
          have z6 := he6'.le
          -- append
          refine L.appendQ (q := (mst s.l t.l (i + 1)).2.length) (ys := _) rfl rfl rfl Try.underlying25 el_3 (hoL5.ext he6') ((blk_reads (q := 1) (l := nums .i64 [(i : Int)]) hk6' hk6'.lt rfl)) (by omega) rfl (by unfold maxLen; omega) (by omega) ?_
          intro A7 c7 w7 ho7 hg7 hb7 hor7
          have ho7 : w7.ownsRow w.heap.size 3 1 (.slice A7 (mst s.l t.l (i + 1)).2.length c7) (mst s.l t.l (i + 1)).2.length (nums .i64 ((mst s.l t.l i).2 ++ [(i : Int)])) := ho7
          rw [← e2] at ho7
          have hg7 : w6.grownBy w7 (Value.slice AL q cL).ownBlock := hg7
          have hoH6 := hoH5.ext he6'
          have hoH7 := hoH6.kept hg7 (own_or hoH6 (hoL5.ext he6') (by decide))
          refine L.va rfl (X.assign (by conv => lhs; whnf)) ?_
          refine L.nil ?_
          refine J.region ?_
          refine L.va rfl (X.add rfl rfl (by omega)) ?_
          refine L.va rfl (X.move (by conv => lhs; whnf)) ?_
          refine L.nil ?_
          -- loopend
          refine ⟨(i + 1, A7, (mst s.l t.l (i + 1)).2.length, c7), At2 (by first | rfl | exact at_int rfl (by omega) | exact at_slice rfl (by omega) | exact at_int rfl (by simp)) (by first | rfl | exact at_int rfl (by omega) | exact at_slice rfl (by omega) | exact at_int rfl (by simp)), (by (iterate 9 refine Agr.lk rfl ?_); refine Agr.lk rfl ?_; refine Agr.hav rfl ?_; (iterate 7 refine Agr.lk rfl ?_); exact Agr.lk rfl (Agr.hav rfl Agr.rfl')), ?_⟩
          exact ⟨⟨by omega, rfl, ho7, hoH7, (he5.trans he6').low hb7 (Nat.le_refl _)⟩, by show s.n - (i + 1) < s.n - i; omega⟩
    · obtain rfl : i = s.n := by omega
      rw [← ls] at hoL hq hoH
      subst hq
      refine J.exit ?_
      refine J.seq ?_
      refine J.seq ?_
      refine J.region ?_
      refine L.va rfl (X.move (by conv => lhs; whnf)) ?_
      refine L.va rfl (X.len rfl Try.underlying22) ?_
      refine L.va rfl (X.move (by conv => lhs; whnf)) ?_
      refine L.nil ?_
      refine J.block ?_
      -- loop
      refine J.loop (X := Nat × Option Addr × Nat × Nat) [8, 14, 55, 56, 57, 58, 59, 60, 61, 62, 63, 64, 65, 66, 67] (fun (k, A, q, c) => [(55, .int .i64 (k : Int)), (8, .slice A q c)]) (fun (k, A, q, c) w' => k ≤ t.n ∧ q = (nh (mst s.l t.l s.l.length).1 k).length ∧ w'.ownsRow w2.heap.size 3 1 (.slice A q c) q (nums .i64 (nh (mst s.l t.l s.l.length).1 k)) ∧ w'.ownsRow w.heap.size 4 1 (.slice (some ⟨b6, 0, none⟩) t.n t.n) t.n ((mst s.l t.l s.l.length).1.map Value.bool) ∧ w'.ownsRow w.heap.size 3 1 (.slice AL (mst s.l t.l s.l.length).2.length cL) (mst s.l t.l s.l.length).2.length (nums .i64 (mst s.l t.l s.l.length).2) ∧ Ext w2 w') (fun (k, _) => t.n - k) ((0, none, 0, 0)) (At2 (by first | rfl | exact at_int rfl (by omega) | exact at_slice rfl (by omega) | exact at_int rfl (by simp)) (by first | rfl | exact at_int rfl (by omega) | exact at_slice rfl (by omega) | exact at_int rfl (by simp))) ?_ ?_
      · exact ⟨Nat.zero_le _, rfl, own_nil _ _ _ _, hoH, hoL, Ext.refl _⟩
      · rintro ⟨k, AR, r, cR⟩ g w3 ⟨hk, hr, hoR, hoH3, hoL3, he3⟩
        have z3 := he3.le
        have hln := nh_len (mst s.l t.l s.l.length).1 k
        refine J.seq ?_
        refine J.region ?_
        refine L.va rfl (X.lss rfl rfl) ?_
        refine L.nil ?_
        refine J.seq ?_
        -- cond
        refine J.dec rfl (fun hlt2 => ?_) (fun hlt2 => ?_)
        · have hkn : k < t.n := by omega
          refine J.skip ?_
          refine J.seq ?_
          refine J.block ?_
          refine J.seq ?_
          refine J.region ?_
          refine L.va rfl (X.move (by conv => lhs; whnf)) ?_
          refine L.va rfl (X.assign (by conv => lhs; whnf)) ?_
          refine L.nil ?_
          refine J.seq ?_
          refine J.region ?_
          refine L.va rfl (X.move (by conv => lhs; whnf)) ?_
          refine L.va rfl (X.move (by conv => lhs; whnf)) ?_
          refine L.va rfl ((by first | exact X.index1n rfl rfl Try.underlying84 sz_4 (by first | exact Option.some_ne_none _ | exact Option.some_ne_none _) (by omega) | exact X.index1 rfl rfl Try.underlying84 sz_4 (by first | exact Option.some_ne_none _ | exact Option.some_ne_none _) (by omega))) ?_
          refine L.va rfl (X.load rfl sc_4 (by first | exact Option.some_ne_none _ | exact Ld.bool (Reads.of_own hoH3) (by omega))) ?_
          refine L.va rfl (X.not rfl) ?_
          refine L.nil ?_
          -- cond
          by_cases hh : (mst s.l t.l s.l.length).1.getD k false = true
          · rw [hh]
            have e2 : nh (mst s.l t.l s.l.length).1 (k + 1) = nh (mst s.l t.l s.l.length).1 k := by rw [nh, if_pos hh]
            refine J.iteF rfl ?_
            refine J.skip ?_
            refine J.region ?_
            refine L.va rfl (X.add rfl rfl (by omega)) ?_
            refine L.va rfl (X.move (by conv => lhs; whnf)) ?_
            refine L.nil ?_
            -- loopend
            refine ⟨(k + 1, AR, r, cR), At2 (by first | rfl | exact at_int rfl (by omega) | exact at_slice rfl (by omega) | exact at_int rfl (by simp)) (by first | rfl | exact at_int rfl (by omega) | exact at_slice rfl (by omega) | exact at_int rfl (by simp)), (by (iterate 10 refine Agr.lk rfl ?_); exact Agr.lk rfl (Agr.hav rfl Agr.rfl')), ?_⟩
            exact ⟨⟨by omega, by rw [e2]; exact hr, by rw [e2]; exact hoR, hoH3, hoL3, he3⟩, by show t.n - (k + 1) < t.n - k; omega⟩
          · have e2 : nh (mst s.l t.l s.l.length).1 (k + 1) = nh (mst s.l t.l s.l.length).1 k ++ [(k : Int)] := by rw [nh, if_neg hh]
            have hh : (mst s.l t.l s.l.length).1.getD k false = false := by simpa using hh
            rw [hh]
            have el := congrArg List.length e2
            rw [List.length_append, List.length_singleton] at el
            refine J.iteT rfl ?_
            refine J.region ?_
            refine L.va rfl (X.move (by conv => lhs; whnf)) ?_
            refine L.va rfl (X.move (by conv => lhs; whnf)) ?_
            -- buildSlice
            refine L.bslice (vs := [_]) rfl (Evs.cons (by conv => lhs; whnf) Evs.nil) rfl rfl rfl rfl Try.underlying25 sz_3 zr_3 (by decide) ?_
            intro b6' w6 hb6' hs6' hk6' he6'
            have z6 := he6'.le
            -- append
            refine L.appendQ (q := (nh (mst s.l t.l s.l.length).1 (k + 1)).length) (ys := _) rfl rfl rfl Try.underlying25 el_3 (hoR.ext he6') ((blk_reads (q := 1) (l := nums .i64 [(k : Int)]) hk6' hk6'.lt rfl)) (by omega) rfl (by unfold maxLen; omega) (by omega) ?_
            intro A7 c7 w7 ho7 hg7 hb7 hor7
            have ho7 : w7.ownsRow w2.heap.size 3 1 (.slice A7 (nh (mst s.l t.l s.l.length).1 (k + 1)).length c7) (nh (mst s.l t.l s.l.length).1 (k + 1)).length (nums .i64 (nh (mst s.l t.l s.l.length).1 k ++ [(k : Int)])) := ho7
            rw [← e2] at ho7
            have hg7 : w6.grownBy w7 (Value.slice AR r cR).ownBlock := hg7
            have hR6 := hoR.ext he6'
            refine L.va rfl (X.assign (by conv => lhs; whnf)) ?_
            refine L.nil ?_
            refine J.region ?_
            refine L.va rfl (X.add rfl rfl (by omega)) ?_
            refine L.va rfl (X.move (by conv => lhs; whnf)) ?_
            refine L.nil ?_
            -- loopend
            refine ⟨(k + 1, A7, (nh (mst s.l t.l s.l.length).1 (k + 1)).length, c7), At2 (by first | rfl | exact at_int rfl (by omega) | exact at_slice rfl (by omega) | exact at_int rfl (by simp)) (by first | rfl | exact at_int rfl (by omega) | exact at_slice rfl (by omega) | exact at_int rfl (by simp)), (by (iterate 15 refine Agr.lk rfl ?_); exact Agr.lk rfl (Agr.hav rfl Agr.rfl')), ?_⟩
            exact ⟨⟨by omega, rfl, ho7, (hoH3.ext he6').kept hg7 (own_elder hoH hR6), (hoL3.ext he6').kept hg7 (own_elder hoL hR6), (he3.trans he6').low hb7 (Nat.le_refl _)⟩, by show t.n - (k + 1) < t.n - k; omega⟩
        · obtain rfl : k = t.n := by omega
          rw [← lt] at hoR hr
          subst hr
          refine J.exit ?_
          refine J.seq ?_
          refine J.region ?_
          refine L.va rfl (X.move (by conv => lhs; whnf)) ?_
          refine L.va rfl (X.move (by conv => lhs; whnf)) ?_
          refine L.va rfl (X.assign (by conv => lhs; whnf)) ?_
          refine L.va rfl (X.assign (by conv => lhs; whnf)) ?_
          refine L.nil ?_
          -- ret
          refine J.ret ?_
          refine fin2 ?_
          exact ⟨AL, cL, AR, cR, rfl, hoL3, hoR.mono z2, he2.trans he3⟩
end Go.Proofs.Ytlohbkcedpkjaaa
