/-
  The reference's Rows, walked.
-/
import Derived.Test.YtlohbkcedpkjaaaWRowD
namespace Go.Proofs.Ytlohbkcedpkjaaa
set_option maxRecDepth 100000
open Go.RowKit H
set_option linter.unusedVariables false
/-- who is held, told by numbers that are not nought -/
def heldBy (G : List Int) : List Bool := G.map fun z => decide (z ≠ 0)
theorem heldBy_at (G : List Int) (k : Nat) : (heldBy G).getD k false = decide (G.getD k 0 ≠ 0) := by
  unfold heldBy
  rcases Nat.lt_or_ge k G.length with h | h
  · simp [List.getD, h]
  · simp [List.getD, h]
theorem heldBy_set (G : List Int) (k : Nat) {z : Int} (hz : z ≠ 0) : heldBy (G.set k z) = (heldBy G).set k true := by
  unfold heldBy
  rw [List.map_set, decide_eq_true hz]
theorem heldBy_zero (n : Nat) : heldBy (List.replicate n 0) = List.replicate n false := by simp [heldBy]
theorem nums_set (G : List Int) (k : Nat) (z : Int) : (nums .i64 G).set k (.int .i64 z) = nums .i64 (G.set k z) := by simp [nums, List.map_set]
theorem drows43 (s t : Rws) (w : World) (hs : s.At w.heap.size w) (ht : t.At w.heap.size w) (ns : s.n ≤ 60) (nt : t.n ≤ 60) :
    Calls Try.prog 13 #[s.val, t.val] w (RowsGot s.l t.l w) := by
  have ls := hs.l
  have lt := ht.l
  refine enter Try.func13 rfl (by kernel_rfl) ?_
  refine J.seq ?_
  refine J.region ?_
  refine L.va rfl (X.assign (by conv => lhs; whnf)) ?_
  refine L.va rfl (X.assign (by conv => lhs; whnf)) ?_
  refine L.nil ?_
  refine J.seq ?_
  refine J.region ?_
  refine L.va rfl (X.move (by conv => lhs; whnf)) ?_
  refine L.va rfl (X.len rfl Try.underlying22) ?_
  -- makeSlice
  refine L.make (q := t.n) (c := t.n) rfl rfl rfl Try.underlying25 el_3 (by omega) ?_
  intro b6 w1 hb6 hs6 hk6 he6
  rw [made_nums] at hk6
  have z1 := he6.le
  have hoG : w1.ownsRow w.heap.size 3 1 (.slice (some ⟨b6, 0, none⟩) t.n t.n) t.n (nums .i64 (List.replicate t.n 0)) :=
    blk_own1 (base := w.heap.size) (q := t.n) hk6 (by omega) (by unfold maxLen; omega) (by simp [nums])
  refine L.va rfl (X.assign (by conv => lhs; whnf)) ?_
  refine L.nil ?_
  refine J.seq ?_
  refine J.region ?_
  refine L.va rfl (X.assign (by conv => lhs; whnf)) ?_
  refine L.va rfl (X.assign (by conv => lhs; whnf)) ?_
  refine L.nil ?_
  refine J.seq ?_
  refine J.seq ?_
  refine J.region ?_
  refine L.va rfl (X.assign (by conv => lhs; whnf)) ?_
  refine L.nil ?_
  refine J.block ?_
  -- loop
  refine J.loop (X := Nat × List Int × Option Addr × Nat × Nat) [7, 9, 10, 11, 16, 17, 18, 19, 20, 21, 22, 23, 24, 25, 26, 27, 28, 29, 30, 31, 32, 33, 34, 35, 36, 37, 38, 39, 40, 41, 42, 43, 44, 45, 46, 47, 48, 49, 50, 51, 52, 53, 54, 55, 56] (fun (i, G, A, q, c) => [(9, .int .i64 (i : Int)), (7, .slice A q c)]) (fun (i, G, A, q, c) w' => i ≤ s.n ∧ q = (mst s.l t.l i).2.length ∧ w'.ownsRow w1.heap.size 3 1 (.slice A q c) q (nums .i64 (mst s.l t.l i).2) ∧ w'.ownsRow w.heap.size 3 1 (.slice (some ⟨b6, 0, none⟩) t.n t.n) t.n (nums .i64 G) ∧ heldBy G = (mst s.l t.l i).1 ∧ Ext w w' ∧ w1.heap.size ≤ w'.heap.size) (fun (i, _) => s.n - i) ((0, List.replicate t.n 0, none, 0, 0)) (At2 (by first | rfl | exact at_int rfl (by omega) | exact at_slice rfl (by omega) | exact at_int rfl (by simp)) (by first | rfl | exact at_int rfl (by omega) | exact at_slice rfl (by omega) | exact at_int rfl (by simp))) ?_ ?_
  · exact ⟨Nat.zero_le _, rfl, own_nil _ _ _ _, hoG, by rw [heldBy_zero, mst, lt], he6, Nat.le_refl _⟩
  · rintro ⟨i, G, AL, q, cL⟩ g w2 ⟨hi, hq, hoL, hoG2, hG, he2, z12⟩
    have z2 := he2.le
    have S2 := hs.ext he2
    have hlq := mst_left s.l t.l i
    have hsp : (Value.slice AL q cL).ownBlock = none ∨ (Value.slice AL q cL).ownBlock ≠ (Value.slice (some ⟨b6, 0, none⟩) t.n t.n).ownBlock := by
      cases hv : (Value.slice AL q cL).ownBlock with
      | none => exact .inl rfl
      | some g =>
        refine .inr fun e => ?_
        have a1 := (hoL.lt g hv).1
        have e : some g = some b6 := e
        injection e with e
        have := hk6.lt
        omega
    refine J.seq ?_
    refine J.seq ?_
    refine J.region ?_
    refine L.va rfl (X.move (by conv => lhs; whnf)) ?_
    refine L.va rfl (X.move (by conv => lhs; whnf)) ?_
    refine L.va rfl (X.len rfl Try.underlying22) ?_
    refine L.va rfl (X.lss rfl rfl) ?_
    refine L.nil ?_
    -- cond
    refine J.dec rfl (fun hlt => ?_) (fun hlt => ?_)
    · have hin : i < s.n := by omega
      refine J.skip ?_
      refine J.seq ?_
      refine J.block ?_
      refine J.seq ?_
      refine J.region ?_
      refine L.va rfl (X.assign (by conv => lhs; whnf)) ?_
      refine L.nil ?_
      -- until
      refine J.cut (X := Int) [10, 11, 22, 23, 24, 25, 26, 27, 28, 29, 30, 31, 32, 33, 34, 35, 36, 37, 38, 39, 40, 41, 42, 43, 44, 45] (fun a => [(10, .int .i64 a)]) (fun a w' => ((a = -1 ∧ fk (s.l.getD i rw0) t.l (mst s.l t.l i).1 = none) ∨ ∃ m : Nat, a = (m : Int) ∧ fk (s.l.getD i rw0) t.l (mst s.l t.l i).1 = some m) ∧ Ext w2 w') ?_ ?_
      · refine J.seq ?_
        refine J.region ?_
        refine L.va rfl (X.move (by conv => lhs; whnf)) ?_
        refine L.va rfl (X.len rfl Try.underlying22) ?_
        refine L.va rfl (X.sub rfl rfl (by omega)) ?_
        refine L.va rfl (X.assign (by conv => lhs; whnf)) ?_
        refine L.nil ?_
        refine J.block ?_
        -- loop
        refine J.loop (X := Nat × Int × Int) [10, 11, 25, 26, 27, 28, 29, 30, 31, 32, 33, 34, 35, 36, 37, 38, 39, 40, 41, 42, 43, 44, 45] (fun (j, k, a) => [(11, .int .i64 k), (10, .int .i64 a)]) (fun (j, k, a) w' => k = (j : Int) - 1 ∧ j ≤ t.n ∧ ((a = -1 ∧ ∀ m, j ≤ m → m < t.n → mt (s.l.getD i rw0) t.l (mst s.l t.l i).1 m = false) ∨ ∃ m : Nat, a = (m : Int) ∧ j ≤ m ∧ m < t.n ∧ mt (s.l.getD i rw0) t.l (mst s.l t.l i).1 m = true ∧ ∀ m', j ≤ m' → m' < m → mt (s.l.getD i rw0) t.l (mst s.l t.l i).1 m' = false) ∧ Ext w2 w') (fun (j, _) => j) ((t.n, (t.n : Int) - 1, -1)) (At2 (by first | rfl | exact at_int rfl (by omega) | exact at_slice rfl (by omega) | exact at_int rfl (by simp)) (by first | rfl | exact at_int rfl (by omega) | exact at_slice rfl (by omega) | exact at_int rfl (by simp))) ?_ ?_
        · exact ⟨rfl, Nat.le_refl _, .inl ⟨rfl, fun m h1 h2 => absurd h1 (by omega)⟩, Ext.refl _⟩
        · rintro ⟨j, k, a⟩ g w3 ⟨hk, hj, hA, he3⟩
          have z3 := he3.le
          have he03 := he2.trans he3
          have S3 := hs.ext he03
          have T3 := ht.ext he03
          have hoG3 := hoG2.ext he3
          refine J.seq ?_
          refine J.seq ?_
          refine J.region ?_
          refine L.va rfl (X.move (by conv => lhs; whnf)) ?_
          refine L.va rfl (X.geq rfl rfl) ?_
          refine L.nil ?_
          -- cond
          refine J.dec rfl (fun hge => ?_) (fun hge => ?_)
          · obtain ⟨m, rfl⟩ : ∃ m, j = m + 1 := ⟨j - 1, by omega⟩
            obtain rfl : k = (m : Int) := by omega
            have hmn : m < t.n := by omega
            have hA1 := S3.r.some_ (by omega)
            have hA2 := T3.r.some_ (by omega)
            have R1 := S3.row (i := i) hin
            have R2 := T3.row (i := m) hmn
            refine J.skip ?_
            refine J.seq ?_
            refine J.block ?_
            refine J.seq ?_
            -- draw
            refine J.quiet mixed (by kernel_rfl) ?_
            -- t38
            -- t42
            refine Qt.va rfl (fun w' hw => X.move (by conv => lhs; whnf)) ?_
            refine Qt.va rfl (fun w' hw => X.move (by conv => lhs; whnf)) ?_
            refine Qt.va rfl (fun w' hw => (by first | exact X.index1n rfl rfl Try.underlying25 sz_3 (by first | exact Option.some_ne_none _ | exact own_ne hoG3 (by omega) | exact hA1 | exact hA2 | exact Option.some_ne_none _) (by omega) | exact X.index1 rfl rfl Try.underlying25 sz_3 (by first | exact Option.some_ne_none _ | exact own_ne hoG3 (by omega) | exact hA1 | exact hA2 | exact Option.some_ne_none _) (by omega))) ?_
            refine Qt.va rfl (fun w' hw => X.load rfl sc_3 (by first | exact Ld.own (hoG3.ext hw) (by omega) | exact hA1 | exact hA2 | exact Option.some_ne_none _)) ?_
            refine Qt.va rfl (fun w' hw => X.eql rfl rfl) ?_
            refine Qt.va rfl (fun w' hw => X.move (by conv => lhs; whnf)) ?_
            -- case t34
            by_cases hz : G.getD m 0 = 0
            · have hh : (mst s.l t.l i).1.getD m false = false := by rw [← hG, heldBy_at, decide_eq_false (fun h => h hz)]
              have em : mt (s.l.getD i rw0) t.l (mst s.l t.l i).1 m = (s.l.getD i rw0).same (t.l.getD m rw0) := by unfold mt; rw [hh]; rfl
              refine Qt.caseDecT (k := 34) rfl (by exact hz) ?_
              refine Qt.va rfl (fun w' hw => X.move (by conv => lhs; whnf)) ?_
              refine Qt.va rfl (fun w' hw => X.move (by conv => lhs; whnf)) ?_
              refine Qt.va rfl (fun w' hw => (by first | exact X.indexAddrn rfl rfl Try.underlying22 sz_57 (by first | exact Option.some_ne_none _ | exact own_ne hoG3 (by omega) | exact hA1 | exact hA2 | exact Option.some_ne_none _) (by omega) | exact X.indexAddr rfl rfl Try.underlying22 sz_57 (by first | exact Option.some_ne_none _ | exact own_ne hoG3 (by omega) | exact hA1 | exact hA2 | exact Option.some_ne_none _) (by omega))) ?_
              refine Qt.va rfl (fun w' hw => X.loadRow (cs := (s.l.getD i rw0).vs) rfl (S3.r.ext hw) (fun r u hu => flat_row rw_len (gtR (by omega)) r u hu) (Nat.zero_lt_succ _) Try.underlying57 rfl (by kernel_rfl)) ?_
              refine Qt.va rfl (fun w' hw => X.move (by conv => lhs; whnf)) ?_
              refine Qt.va rfl (fun w' hw => X.move (by conv => lhs; whnf)) ?_
              refine Qt.va rfl (fun w' hw => (by first | exact X.indexAddrn rfl rfl Try.underlying22 sz_57 (by first | exact Option.some_ne_none _ | exact own_ne hoG3 (by omega) | exact hA1 | exact hA2 | exact Option.some_ne_none _) (by omega) | exact X.indexAddr rfl rfl Try.underlying22 sz_57 (by first | exact Option.some_ne_none _ | exact own_ne hoG3 (by omega) | exact hA1 | exact hA2 | exact Option.some_ne_none _) (by omega))) ?_
              refine Qt.va rfl (fun w' hw => X.loadRow (cs := (t.l.getD m rw0).vs) rfl (T3.r.ext hw) (fun r u hu => flat_row rw_len (gtR (by omega)) r u hu) (Nat.zero_lt_succ _) Try.underlying57 rfl (by kernel_rfl)) ?_
              -- callfn bushel/bushelref33.Same
              refine Qt.call rfl en_35 rfl (fun w' hw => calls_ext hw (rsame33 (s.l.getD i rw0) (t.l.getD m rw0) w' ((R1.ext hw).more (by have := hw.le; omega)) ((R2.ext hw).more (by have := hw.le; omega)))) ?_
              refine Qt.va rfl (fun w' hw => X.pickT rfl (by conv => lhs; whnf)) ?_
              refine Qt.nil (fun w4 hq4 => ?_)
              replace hoG3 := hoG3.ext hq4
              -- cond
              by_cases hd : (s.l.getD i rw0).same (t.l.getD m rw0) = true
              · rw [hd] at em
                rw [hd]
                refine J.iteT rfl ?_
                refine J.region ?_
                refine L.va rfl (X.move (by conv => lhs; whnf)) ?_
                refine L.va rfl (X.assign (by conv => lhs; whnf)) ?_
                refine L.nil ?_
                refine J.region ?_
                refine L.va rfl (X.move (by conv => lhs; whnf)) ?_
                refine L.va rfl (X.sub rfl rfl (by omega)) ?_
                refine L.va rfl (X.assign (by conv => lhs; whnf)) ?_
                refine L.nil ?_
                -- loopend
                refine ⟨(m, (m : Int) - 1, (m : Int)), At2 (by first | rfl | exact at_int rfl (by omega) | exact at_slice rfl (by omega) | exact at_int rfl (by simp)) (by first | rfl | exact at_int rfl (by omega) | exact at_slice rfl (by omega) | exact at_int rfl (by simp)), (by (iterate 24 refine Agr.lk rfl ?_); exact Agr.lk rfl (Agr.hav rfl Agr.rfl')), ?_⟩
                exact ⟨⟨rfl, by omega, .inr ⟨m, rfl, Nat.le_refl _, hmn, em, fun m' h1 h2 => absurd h1 (by omega)⟩, he3.trans hq4⟩, Nat.lt_succ_self m⟩
              · have hd : (s.l.getD i rw0).same (t.l.getD m rw0) = false := by simpa using hd
                rw [hd] at em
                rw [hd]
                refine J.iteF rfl ?_
                refine J.skip ?_
                refine J.region ?_
                refine L.va rfl (X.move (by conv => lhs; whnf)) ?_
                refine L.va rfl (X.sub rfl rfl (by omega)) ?_
                refine L.va rfl (X.assign (by conv => lhs; whnf)) ?_
                refine L.nil ?_
                -- loopend
                refine ⟨(m, (m : Int) - 1, a), At2 (by first | rfl | exact at_int rfl (by omega) | exact at_slice rfl (by omega) | exact at_int rfl (by simp)) (by first | rfl | exact at_int rfl (by omega) | exact at_slice rfl (by omega) | exact at_int rfl (by simp)), (by (iterate 22 refine Agr.lk rfl ?_); exact Agr.lk rfl (Agr.hav rfl Agr.rfl')), ?_⟩
                refine ⟨⟨rfl, by omega, ?_, he3.trans hq4⟩, Nat.lt_succ_self m⟩
                rcases hA with ⟨h1, h2⟩ | ⟨m1, h1, h2, h3, h4, h5⟩
                · refine .inl ⟨h1, fun m' k1 k2 => ?_⟩
                  rcases Nat.eq_or_lt_of_le k1 with h | h
                  · rw [← h]; exact em
                  · exact h2 m' h k2
                · refine .inr ⟨m1, h1, by omega, h3, h4, fun m' k1 k2 => ?_⟩
                  rcases Nat.eq_or_lt_of_le k1 with h | h
                  · rw [← h]; exact em
                  · exact h5 m' h k2
            · have hh : (mst s.l t.l i).1.getD m false = true := by rw [← hG, heldBy_at, decide_eq_true hz]
              have em : mt (s.l.getD i rw0) t.l (mst s.l t.l i).1 m = false := by unfold mt; rw [hh]; rfl
              refine Qt.caseDecF (k := 34) rfl (by exact hz) ?_
              refine Qt.no rfl ?_
              refine Qt.no rfl ?_
              refine Qt.no rfl ?_
              refine Qt.no rfl ?_
              refine Qt.no rfl ?_
              refine Qt.no rfl ?_
              refine Qt.no rfl ?_
              refine Qt.no rfl ?_
              refine Qt.no rfl ?_
              refine Qt.va rfl (fun w' hw => X.pickF rfl (by conv => lhs; whnf)) ?_
              refine Qt.nil (fun w4 hq4 => ?_)
              replace hoG3 := hoG3.ext hq4
              -- cond
              refine J.iteF rfl ?_
              refine J.skip ?_
              refine J.region ?_
              refine L.va rfl (X.move (by conv => lhs; whnf)) ?_
              refine L.va rfl (X.sub rfl rfl (by omega)) ?_
              refine L.va rfl (X.assign (by conv => lhs; whnf)) ?_
              refine L.nil ?_
              -- loopend
              refine ⟨(m, (m : Int) - 1, a), At2 (by first | rfl | exact at_int rfl (by omega) | exact at_slice rfl (by omega) | exact at_int rfl (by simp)) (by first | rfl | exact at_int rfl (by omega) | exact at_slice rfl (by omega) | exact at_int rfl (by simp)), (by (iterate 22 refine Agr.lk rfl ?_); exact Agr.lk rfl (Agr.hav rfl Agr.rfl')), ?_⟩
              refine ⟨⟨rfl, by omega, ?_, he3.trans hq4⟩, Nat.lt_succ_self m⟩
              rcases hA with ⟨h1, h2⟩ | ⟨m1, h1, h2, h3, h4, h5⟩
              · refine .inl ⟨h1, fun m' k1 k2 => ?_⟩
                rcases Nat.eq_or_lt_of_le k1 with h | h
                · rw [← h]; exact em
                · exact h2 m' h k2
              · refine .inr ⟨m1, h1, by omega, h3, h4, fun m' k1 k2 => ?_⟩
                rcases Nat.eq_or_lt_of_le k1 with h | h
                · rw [← h]; exact em
                · exact h5 m' h k2
          · obtain rfl : j = 0 := by omega
            refine J.exit ?_
            -- cutend
            refine ⟨a, At1 (by first | rfl | exact at_int rfl (by omega) | exact at_slice rfl (by omega) | exact at_int rfl (by simp)), (by (iterate 2 refine Agr.lk rfl ?_); refine Agr.lk rfl ?_; refine Agr.hav rfl ?_; (iterate 4 refine Agr.lk rfl ?_); exact Agr.rfl'), ?_⟩
            refine ⟨?_, he3⟩
            rcases hA with ⟨h1, h2⟩ | ⟨m1, h1, h2, h3, h4, h5⟩
            · exact .inl ⟨h1, fk_none (fun m hm => h2 m (Nat.zero_le _) (by omega))⟩
            · exact .inr ⟨m1, h1, fk_some (by omega) h4 (fun m hm => h5 m (Nat.zero_le _) hm)⟩
      · rintro a g w3 ⟨hA, he3⟩
        have z3 := he3.le
        have hoL3 := hoL.ext he3
        have hoG3 := hoG2.ext he3
        refine J.seq ?_
        refine J.region ?_
        refine L.va rfl (X.move (by conv => lhs; whnf)) ?_
        refine L.va rfl (X.lss rfl rfl) ?_
        refine L.nil ?_
        -- cond
        refine J.dec rfl (fun hneg => ?_) (fun hneg => ?_)
        · have hf : fk (s.l.getD i rw0) t.l (mst s.l t.l i).1 = none := by
            rcases hA with ⟨_, h⟩ | ⟨m, h1, _⟩
            · exact h
            · omega
          have e1 : (mst s.l t.l (i + 1)).1 = (mst s.l t.l i).1 := by rw [mst, hf]; rfl
          have e2 : (mst s.l t.l (i + 1)).2 = (mst s.l t.l i).2 ++ [(i : Int)] := by rw [mst, hf]; rfl
          have el := congrArg List.length e2
          rw [List.length_append, List.length_singleton] at el
          refine J.region ?_
          refine L.va rfl (X.move (by conv => lhs; whnf)) ?_
          refine L.va rfl (X.move (by conv => lhs; whnf)) ?_
          -- buildSlice
          refine L.bslice (vs := [_]) rfl (Evs.cons (by conv => lhs; whnf) Evs.nil) rfl rfl rfl rfl Try.underlying25 sz_3 zr_3 (by decide) ?_
          intro b7 w6 hb7 hs7 hk7 he6'
          have z6 := he6'.le
          -- append
          refine L.appendQ (q := (mst s.l t.l (i + 1)).2.length) (ys := _) rfl rfl rfl Try.underlying25 el_3 (hoL3.ext he6') ((blk_reads (q := 1) (l := nums .i64 [(i : Int)]) hk7 hk7.lt rfl)) (by omega) rfl (by unfold maxLen; omega) (by omega) ?_
          intro A7 c7 w7 ho7 hg7 hbl7 hor7
          have ho7 : w7.ownsRow w1.heap.size 3 1 (.slice A7 (mst s.l t.l (i + 1)).2.length c7) (mst s.l t.l (i + 1)).2.length (nums .i64 ((mst s.l t.l i).2 ++ [(i : Int)])) := ho7
          rw [← e2] at ho7
          have hg7 : w6.grownBy w7 (Value.slice AL q cL).ownBlock := hg7
          have hoG7 := (hoG3.ext he6').kept hg7 (by
            rcases hsp with h | h
            · rw [h]; exact .inr (by simp [Value.ownBlock])
            · exact .inr (fun e => h e.symm))
          have hx := ((he2.trans he3).trans he6').low (hbl7.mono z1) (Nat.le_refl _)
          refine L.va rfl (X.assign (by conv => lhs; whnf)) ?_
          refine L.nil ?_
          refine J.region ?_
          refine L.va rfl (X.move (by conv => lhs; whnf)) ?_
          refine L.va rfl (X.add rfl rfl (by omega)) ?_
          refine L.va rfl (X.assign (by conv => lhs; whnf)) ?_
          refine L.nil ?_
          -- loopend
          refine ⟨(i + 1, G, A7, (mst s.l t.l (i + 1)).2.length, c7), At2 (by first | rfl | exact at_int rfl (by omega) | exact at_slice rfl (by omega) | exact at_int rfl (by simp)) (by first | rfl | exact at_int rfl (by omega) | exact at_slice rfl (by omega) | exact at_int rfl (by simp)), (by (iterate 10 refine Agr.lk rfl ?_); refine Agr.lk rfl ?_; refine Agr.hav rfl ?_; (iterate 5 refine Agr.lk rfl ?_); exact Agr.lk rfl (Agr.hav rfl Agr.rfl')), ?_⟩
          exact ⟨⟨by omega, rfl, ho7, hoG7, by rw [e1]; exact hG, hx, by have := hbl7.size; omega⟩, by show s.n - (i + 1) < s.n - i; omega⟩
        · obtain ⟨m, rfl, hf⟩ : ∃ m : Nat, a = (m : Int) ∧ fk (s.l.getD i rw0) t.l (mst s.l t.l i).1 = some m := by
            rcases hA with ⟨h, _⟩ | h
            · omega
            · exact h
          have hmn := (fk_ok hf).1
          have e1 : (mst s.l t.l (i + 1)).1 = (mst s.l t.l i).1.set m true := by rw [mst, hf]; rfl
          have e2 : (mst s.l t.l (i + 1)).2 = (mst s.l t.l i).2 := by rw [mst, hf]; rfl
          refine J.region ?_
          refine L.va rfl (X.move (by conv => lhs; whnf)) ?_
          refine L.va rfl (X.move (by conv => lhs; whnf)) ?_
          refine L.va rfl (X.move (by conv => lhs; whnf)) ?_
          refine L.va rfl (X.add rfl rfl (by omega)) ?_
          refine L.va rfl ((by first | exact X.index1n rfl rfl Try.underlying25 sz_3 (by first | exact Option.some_ne_none _ | exact Option.some_ne_none _) (by omega) | exact X.index1 rfl rfl Try.underlying25 sz_3 (by first | exact Option.some_ne_none _ | exact Option.some_ne_none _) (by omega))) ?_
          -- store
          refine L.storeO rfl rfl (by conv => lhs; whnf) rfl sz_3 (hoG3) (by omega) ?_
          intro w4 hoG4 hg4 hb4 hs4
          rw [nums_set] at hoG4
          have hoL4 := hoL3.kept hg4 hsp
          refine L.nil ?_
          refine J.region ?_
          refine L.va rfl (X.move (by conv => lhs; whnf)) ?_
          refine L.va rfl (X.add rfl rfl (by omega)) ?_
          refine L.va rfl (X.assign (by conv => lhs; whnf)) ?_
          refine L.nil ?_
          -- loopend
          refine ⟨(i + 1, G.set m ((i : Int) + 1), AL, q, cL), At2 (by first | rfl | exact at_int rfl (by omega) | exact at_slice rfl (by omega) | exact at_int rfl (by simp)) (by first | rfl | exact at_int rfl (by omega) | exact at_slice rfl (by omega) | exact at_int rfl (by simp)), (by (iterate 10 refine Agr.lk rfl ?_); refine Agr.lk rfl ?_; refine Agr.hav rfl ?_; (iterate 5 refine Agr.lk rfl ?_); exact Agr.lk rfl (Agr.hav rfl Agr.rfl')), ?_⟩
          exact ⟨⟨by omega, by rw [e2]; exact hq, by rw [e2]; exact hoL4, hoG4, by rw [heldBy_set _ _ (by omega), hG, e1], (he2.trans he3).low hb4 (Nat.le_refl _), by omega⟩, by show s.n - (i + 1) < s.n - i; omega⟩
    · obtain rfl : i = s.n := by omega
      rw [← ls] at hoL hq hG
      subst hq
      refine J.exit ?_
      refine J.seq ?_
      refine J.seq ?_
      refine J.region ?_
      refine L.va rfl (X.assign (by conv => lhs; whnf)) ?_
      refine L.nil ?_
      refine J.block ?_
      -- loop
      refine J.loop (X := Nat × Option Addr × Nat × Nat) [8, 12, 57, 58, 59, 60, 61, 62, 63, 64, 65, 66, 67, 68, 69, 70, 71] (fun (k, A, q, c) => [(12, .int .i64 (k : Int)), (8, .slice A q c)]) (fun (k, A, q, c) w' => k ≤ t.n ∧ q = (nh (mst s.l t.l s.l.length).1 k).length ∧ w'.ownsRow w2.heap.size 3 1 (.slice A q c) q (nums .i64 (nh (mst s.l t.l s.l.length).1 k)) ∧ w'.ownsRow w.heap.size 3 1 (.slice (some ⟨b6, 0, none⟩) t.n t.n) t.n (nums .i64 G) ∧ w'.ownsRow w1.heap.size 3 1 (.slice AL (mst s.l t.l s.l.length).2.length cL) (mst s.l t.l s.l.length).2.length (nums .i64 (mst s.l t.l s.l.length).2) ∧ Ext w2 w') (fun (k, _) => t.n - k) ((0, none, 0, 0)) (At2 (by first | rfl | exact at_int rfl (by omega) | exact at_slice rfl (by omega) | exact at_int rfl (by simp)) (by first | rfl | exact at_int rfl (by omega) | exact at_slice rfl (by omega) | exact at_int rfl (by simp))) ?_ ?_
      · exact ⟨Nat.zero_le _, rfl, own_nil _ _ _ _, hoG2, hoL, Ext.refl _⟩
      · rintro ⟨k, AR, r, cR⟩ g w3 ⟨hk, hr, hoR, hoG3, hoL3, he3⟩
        have z3 := he3.le
        have hln := nh_len (mst s.l t.l s.l.length).1 k
        refine J.seq ?_
        refine J.seq ?_
        refine J.region ?_
        refine L.va rfl (X.move (by conv => lhs; whnf)) ?_
        refine L.va rfl (X.move (by conv => lhs; whnf)) ?_
        refine L.va rfl (X.len rfl Try.underlying22) ?_
        refine L.va rfl (X.lss rfl rfl) ?_
        refine L.nil ?_
        -- cond
        refine J.dec rfl (fun hlt2 => ?_) (fun hlt2 => ?_)
        · have hkn : k < t.n := by omega
          have hat := heldBy_at G k
          rw [hG] at hat
          refine J.skip ?_
          refine J.seq ?_
          refine J.block ?_
          refine J.seq ?_
          refine J.region ?_
          refine L.va rfl (X.move (by conv => lhs; whnf)) ?_
          refine L.va rfl (X.move (by conv => lhs; whnf)) ?_
          refine L.va rfl ((by first | exact X.index1n rfl rfl Try.underlying25 sz_3 (by first | exact Option.some_ne_none _ | exact own_ne hoG3 (by omega) | exact Option.some_ne_none _) (by omega) | exact X.index1 rfl rfl Try.underlying25 sz_3 (by first | exact Option.some_ne_none _ | exact own_ne hoG3 (by omega) | exact Option.some_ne_none _) (by omega))) ?_
          refine L.va rfl (X.load rfl sc_3 (by first | exact Ld.own hoG3 (by omega) | exact Option.some_ne_none _)) ?_
          refine L.va rfl (X.eql rfl rfl) ?_
          refine L.nil ?_
          -- cond
          refine J.dec rfl (fun hh => ?_) (fun hh => ?_)
          · have e2 : nh (mst s.l t.l s.l.length).1 (k + 1) = nh (mst s.l t.l s.l.length).1 k ++ [(k : Int)] := by rw [nh, if_neg]; rw [hat, decide_eq_false (fun h => h hh)]; decide
            have el := congrArg List.length e2
            rw [List.length_append, List.length_singleton] at el
            refine J.region ?_
            refine L.va rfl (X.move (by conv => lhs; whnf)) ?_
            refine L.va rfl (X.move (by conv => lhs; whnf)) ?_
            -- buildSlice
            refine L.bslice (vs := [_]) rfl (Evs.cons (by conv => lhs; whnf) Evs.nil) rfl rfl rfl rfl Try.underlying25 sz_3 zr_3 (by decide) ?_
            intro b7 w6 hb7 hs7 hk7 he6'
            have z6 := he6'.le
            -- append
            refine L.appendQ (q := (nh (mst s.l t.l s.l.length).1 (k + 1)).length) (ys := _) rfl rfl rfl Try.underlying25 el_3 (hoR.ext he6') ((blk_reads (q := 1) (l := nums .i64 [(k : Int)]) hk7 hk7.lt rfl)) (by omega) rfl (by unfold maxLen; omega) (by omega) ?_
            intro A7 c7 w7 ho7 hg7 hbl7 hor7
            have ho7 : w7.ownsRow w2.heap.size 3 1 (.slice A7 (nh (mst s.l t.l s.l.length).1 (k + 1)).length c7) (nh (mst s.l t.l s.l.length).1 (k + 1)).length (nums .i64 (nh (mst s.l t.l s.l.length).1 k ++ [(k : Int)])) := ho7
            rw [← e2] at ho7
            have hg7 : w6.grownBy w7 (Value.slice AR r cR).ownBlock := hg7
            have hR6 := hoR.ext he6'
            refine L.va rfl (X.assign (by conv => lhs; whnf)) ?_
            refine L.nil ?_
            refine J.region ?_
            refine L.va rfl (X.move (by conv => lhs; whnf)) ?_
            refine L.va rfl (X.add rfl rfl (by omega)) ?_
            refine L.va rfl (X.assign (by conv => lhs; whnf)) ?_
            refine L.nil ?_
            -- loopend
            refine ⟨(k + 1, A7, (nh (mst s.l t.l s.l.length).1 (k + 1)).length, c7), At2 (by first | rfl | exact at_int rfl (by omega) | exact at_slice rfl (by omega) | exact at_int rfl (by simp)) (by first | rfl | exact at_int rfl (by omega) | exact at_slice rfl (by omega) | exact at_int rfl (by simp)), (by (iterate 17 refine Agr.lk rfl ?_); exact Agr.lk rfl (Agr.hav rfl Agr.rfl')), ?_⟩
            exact ⟨⟨by omega, rfl, ho7, (hoG3.ext he6').kept hg7 (own_elder hoG2 hR6), (hoL3.ext he6').kept hg7 (own_elder hoL hR6), (he3.trans he6').low hbl7 (Nat.le_refl _)⟩, by show t.n - (k + 1) < t.n - k; omega⟩
          · have e2 : nh (mst s.l t.l s.l.length).1 (k + 1) = nh (mst s.l t.l s.l.length).1 k := by rw [nh, if_pos]; rw [hat, decide_eq_true hh]
            refine J.skip ?_
            refine J.region ?_
            refine L.va rfl (X.move (by conv => lhs; whnf)) ?_
            refine L.va rfl (X.add rfl rfl (by omega)) ?_
            refine L.va rfl (X.assign (by conv => lhs; whnf)) ?_
            refine L.nil ?_
            -- loopend
            refine ⟨(k + 1, AR, r, cR), At2 (by first | rfl | exact at_int rfl (by omega) | exact at_slice rfl (by omega) | exact at_int rfl (by simp)) (by first | rfl | exact at_int rfl (by omega) | exact at_slice rfl (by omega) | exact at_int rfl (by simp)), (by (iterate 12 refine Agr.lk rfl ?_); exact Agr.lk rfl (Agr.hav rfl Agr.rfl')), ?_⟩
            exact ⟨⟨by omega, by rw [e2]; exact hr, by rw [e2]; exact hoR, hoG3, hoL3, he3⟩, by show t.n - (k + 1) < t.n - k; omega⟩
        · obtain rfl : k = t.n := by omega
          rw [← lt] at hoR hr
          subst hr
          refine J.exit ?_
          refine J.seq ?_
          refine J.region ?_
          refine L.va rfl (X.move (by conv => lhs; whnf)) ?_
          refine L.va rfl (X.move (by conv => lhs; whnf)) ?_
          refine L.va rfl (X.assign (by conv => lhs; whnf)) ?_
          refine L.va rfl (X.assign (by conv => lhs; whnf)) ?_
          refine L.nil ?_
          -- ret
          refine J.ret ?_
          refine fin2 ?_
          exact ⟨AL, cL, AR, cR, rfl, hoL3.mono z1, hoR.mono z2, he2.trans he3⟩
end Go.Proofs.Ytlohbkcedpkjaaa
