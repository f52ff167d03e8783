import Derived.Test.YtlipeplfjkgamaaZQueryGets5
/-
  What the law leans on, part 6: WQryW, WQryH, LQueryGets.
-/
namespace Go.Proofs.Ytlipeplfjkgamaa
set_option maxRecDepth 100000
open Go.RowKit H
open Byts Cod
set_option linter.unusedVariables false
def nF (x : Int × List Int) : List Int := x.1 :: (x.2.length : Int) :: x.2
def nC (x : Int × Int) : List Int := [x.1, x.2]
def nO (x : Int × Bool) : List Int := [x.1, bi x.2]
def qnum (c : QC) : List Int := [c.g, (c.f.length : Int)] ++ (c.f.flatMap nF ++ ([(c.c.length : Int)] ++ (c.c.flatMap nC ++ ([(c.o.length : Int)] ++ (c.o.flatMap nO ++ [c.m])))))
theorem flat_flat {α : Type} (f : α → List Int) (g : α → List Int) (h : ∀ x, (f x).flatMap cu = g x) : ∀ l : List α, (l.flatMap f).flatMap cu = l.flatMap g
  | [] => rfl
  | x :: t => by rw [List.flatMap_cons, List.flatMap_append, h, flat_flat f g h t, List.flatMap_cons]
theorem qnum_cu (c : QC) : (qnum c).flatMap cu = qb c := by
  unfold qnum qb
  simp only [List.flatMap_append, flat_flat nF eF (fun x => by simp [nF, eF]), flat_flat nC eC (fun x => by simp [nC, eC]), flat_flat nO eO (fun x => by simp [nO, eO])]
  simp
theorem qnum_bd {c : QC} (h : QFits c) : ∀ x ∈ qnum c, 0 ≤ x ∧ x ≤ 9223372036854775807 := by
  obtain ⟨k1, k2, k3, k4, k5, k6, k7, k8⟩ := h
  have sm1 : ∀ {x : Int}, smOk x → 0 ≤ x ∧ x ≤ 9223372036854775807 := fun h => ⟨h.1, by have := h.2; unfold sml at this; omega⟩
  intro x hx
  simp only [qnum, List.mem_append, List.mem_cons, List.not_mem_nil, or_false, List.mem_flatMap, nF, nC, nO] at hx
  rcases hx with (rfl | rfl) | ⟨y, hy, hx⟩ | rfl | ⟨y, hy, hx⟩ | rfl | ⟨y, hy, hx⟩ | rfl
  · exact sm1 k1
  · omega
  · obtain ⟨j1, j2, j3⟩ := k3 y hy
    rcases hx with rfl | rfl | hx
    · exact sm1 j1
    · omega
    · exact sm1 (j3 x hx)
  · omega
  · rcases hx with rfl | rfl
    · exact sm1 (k5 y hy).1
    · exact sm1 (k5 y hy).2
  · omega
  · have := bi_bd y.2
    rcases hx with rfl | rfl
    · exact sm1 (k7 y hy)
    · omega
  · exact k8
theorem rnumbers {q : Qu} {w : World} (hq : q.At w.heap.size w) (F : QFits (qcOf q)) : Calls Try.prog 113 #[q.val] w fun e w' => ∃ A' c', e = .returned (.slice A' (qnum (qcOf q)).length c') ∧ w'.ownsRow w.heap.size 3 1 (.slice A' (qnum (qcOf q)).length c') (qnum (qcOf q)).length (nums .i64 (qnum (qcOf q))) ∧ Ext w w' := by
  have hlc := hq.lc
  have hlo := hq.lo
  have hlf := hq.f.l
  obtain ⟨fs, hfs⟩ : ∃ fs, fs = q.f.l.map Fi.key := ⟨_, rfl⟩
  have hfl : fs.length = q.f.n := by rw [hfs, List.length_map, hlf]
  have F2 : fs.length ≤ 20 := by rw [hfs]; exact F.fl
  have F3 : ∀ x ∈ fs, fOk x := by rw [hfs]; exact F.f
  have F4 : q.c.length ≤ 16 := F.cl
  have F6 : q.o.length ≤ 8 := F.ol
  obtain ⟨P0, hP0⟩ : ∃ P, P = [(q.g : Int), (q.f.n : Int)] := ⟨_, rfl⟩
  obtain ⟨P2, hP2⟩ : ∃ P, P = (P0 ++ fs.flatMap nF) ++ [(q.nc : Int)] := ⟨_, rfl⟩
  obtain ⟨P4, hP4⟩ : ∃ P, P = (P2 ++ q.c.flatMap nC) ++ [(q.no : Int)] := ⟨_, rfl⟩
  have esb : qnum (qcOf q) = (P4 ++ q.o.flatMap nO) ++ [q.m] := by
    rw [hP4, hP2, hP0]
    unfold qnum qcOf
    dsimp only
    rw [← hfs, hfl, hlc, hlo]
    simp only [List.append_assoc]
  have m1 : ∀ x ∈ fs, (nF x).length ≤ 4098 := fun x hx => by have := (F3 x hx).2.1; unfold nF; simp only [List.length_cons]; omega
  have m2 : ∀ x ∈ q.c, (nC x).length ≤ 2 := fun x hx => by simp [nC]
  have m3 : ∀ x ∈ q.o, (nO x).length ≤ 2 := fun x hx => by simp [nO]
  have f1 := flat_le m1
  have f2 := flat_le m2
  have f3 := flat_le m3
  have l0 : P0.length = 2 := by rw [hP0]; rfl
  have l2 := congrArg List.length hP2
  have l4 := congrArg List.length hP4
  simp only [List.length_append, List.length_cons, List.length_nil] at l2 l4
  have hle1 := fun i => lyq_le (h := P0) (i := i) m1
  have hle2 := fun i => lyq_le (h := P2) (i := i) m2
  have hle3 := fun i => lyq_le (h := P4) (i := i) m3
  rw [esb]
  have hg32 := hq.g
  refine enter Try.func113 rfl (by kernel_rfl) ?_
  refine J.seq ?_
  refine J.region ?_
  refine L.boxA (l := [_, _, _, _, _]) rfl rfl ?_
  intro b1 w1 hb1 hs1 hk1 he1
  have hk1 : Blk w1 b1 54 q.vs.toArray := hk1
  have q1 := hq.ext he1
  have z1 := he1.le
  refine L.va rfl (X.assign (by conv => lhs; whnf)) ?_
  refine L.nil ?_
  refine J.seq ?_
  refine J.region ?_
  refine L.va rfl (X.fieldAddr rfl Try.underlying54 rfl sz_50 (by decide)) ?_
  refine L.va rfl (X.load rfl sc_50 (by first | exact Ld.blk hk1 rfl)) ?_
  refine L.va rfl ((by first | exact X.convI rfl is_50 Try.underlying3 (by omega) | exact X.convw rfl is_50 Try.underlying3)) ?_
  refine L.va rfl (X.fieldAddr rfl Try.underlying54 rfl sz_51 (by decide)) ?_
  refine L.va rfl (X.load rfl sc_51 (by first | exact Ld.blk hk1 rfl)) ?_
  refine L.va rfl (X.len rfl Try.underlying51) ?_
  refine L.bslice (vs := [_, _]) rfl (Evs.cons (by conv => lhs; whnf) (Evs.cons (by conv => lhs; whnf) Evs.nil)) rfl rfl rfl rfl Try.underlying23 sz_3 zr_3 (by decide) ?_
  intro b2 w2 hb2 hs2 hk2 he2
  have ho2 : w2.ownsRow w1.heap.size 3 1 (.slice (some ⟨b2, 0, none⟩) 2 2) 2 (nums .i64 P0) := by rw [hP0]; exact blk_own1 (q := 2) (l := nums .i64 [(q.g : Int), (q.f.n : Int)]) hk2 (by omega) (by decide) rfl
  refine L.va rfl (X.assign (by conv => lhs; whnf)) ?_
  refine L.nil ?_
  refine J.seq ?_
  refine J.seq ?_
  refine J.region ?_
  refine L.va rfl (X.assign (by conv => lhs; whnf)) ?_
  refine L.nil ?_
  refine J.block ?_
  refine J.loop (X := Nat × Option Addr × Nat × Nat) [3, 4, 15, 16, 17, 18, 19, 20, 21, 22, 23, 24, 25, 26, 27, 28, 29, 30, 31, 32, 33, 34, 35, 36, 37, 38, 39, 40, 41, 42, 43, 44, 45] (fun (i, A, k, c) => [(4, .int .i64 (i : Int)), (3, .slice A k c)]) (fun (i, A, k, c) w' => i ≤ q.f.n ∧ k = (lyq nF P0 fs i).length ∧ w'.ownsRow w1.heap.size 3 1 (.slice A k c) k (nums .i64 (lyq nF P0 fs i)) ∧ Ext w1 w') (fun (i, _) => q.f.n - i) ((0, some ⟨b2, 0, none⟩, 2, 2)) (At2 (by first | rfl | exact at_int rfl (by omega) | exact at_slice rfl (by omega) | exact at_int rfl (by simp)) (by first | rfl | exact at_int rfl (by omega) | exact at_slice rfl (by omega) | exact at_int rfl (by simp))) ?_ ?_
  · refine ⟨Nat.zero_le _, ?_, ?_, he2⟩
    · rw [lyq_zero, l0]
    · rw [lyq_zero]; exact ho2
  · rintro ⟨i, A, k, c⟩ g w3 ⟨hi, hk, ho3, x3⟩
    have hk3 := hk1.ext x3
    have q3 := q1.ext x3
    have z3 := x3.le
    have hli := hle1 i
    refine J.seq ?_
    refine J.seq ?_
    refine J.region ?_
    refine L.va rfl (X.move (by conv => lhs; whnf)) ?_
    refine L.va rfl (X.fieldAddr rfl Try.underlying54 rfl sz_51 (by decide)) ?_
    refine L.va rfl (X.load rfl sc_51 (by first | exact Ld.blk hk3 rfl)) ?_
    refine L.va rfl (X.len rfl Try.underlying51) ?_
    refine L.va rfl (X.lss rfl rfl) ?_
    refine L.nil ?_
    refine J.dec rfl (fun hlt => ?_) (fun hlt => ?_)
    · have hin : i < q.f.n := by omega
      have hA := q3.f.r.some_ (by omega)
      obtain ⟨x, hx⟩ : ∃ x, x = q.f.l.getD i fi0 := ⟨_, rfl⟩
      have hX := q1.f.one hin
      have hgt := gtF (l := q.f.l) (i := i) (by omega)
      rw [← hx] at hX hgt
      have hxf : fs[i]? = some x.key := by rw [hfs, List.getElem?_map, hgt]; rfl
      have hok := F3 _ (List.mem_of_getElem? hxf)
      have hxl := hX.len
      have hok2 : x.l.length ≤ 4096 := hok.2.1
      have hnx : lyq nF P0 fs (i + 1) = (lyq nF P0 fs i ++ [x.d, (x.n : Int)]) ++ x.l := by
        rw [lyq_next hxf]
        show _ = _
        unfold nF
        dsimp only
        rw [hxl]
        simp
      have hnl := congrArg List.length hnx
      rw [List.length_append, List.length_append, ← hk] at hnl
      simp only [List.length_cons, List.length_nil] at hnl
      refine J.skip ?_
      refine J.seq ?_
      refine J.block ?_
      refine J.seq ?_
      refine J.draw (ℓ := 1000000) (S := (Ext w1)) mixed (fun w4 hSE hS_h => ?_)
      have hS : ((Ext w1)) w4 := (x3.trans hSE)
      refine D.va 0 rfl (by kernel_rfl) (fun _ _ _ h => h) rfl (fun w' hw => X.move (by conv => lhs; whnf)) hS ?_
      refine D.va 1 rfl (by kernel_rfl) (fun _ _ _ h => h) rfl (fun w' hw => X.fieldAddr rfl Try.underlying54 rfl sz_51 (by decide)) hS ?_
      refine D.va 2 rfl (by kernel_rfl) (fun _ _ _ h => h) rfl (fun w' hw => X.load rfl sc_51 (by first | exact hA | exact Ld.blk (hk1.ext hw) rfl | exact Ld.flat2 fi_len (q1.f.r.ext hw) hgt (r := 0) rfl | exact Ld.flat2 fi_len (q1.f.r.ext hw) hgt (r := 1) rfl)) hS ?_
      refine D.va 3 rfl (by kernel_rfl) (fun _ _ _ h => h) rfl (fun w' hw => X.move (by conv => lhs; whnf)) hS ?_
      refine D.va 4 rfl (by kernel_rfl) (fun _ _ _ h => h) rfl (fun w' hw => (by first | exact X.indexAddrn rfl rfl Try.underlying51 sz_150 (by first | exact Option.some_ne_none _ | exact hA) (by omega) | exact X.indexAddr rfl rfl Try.underlying51 sz_150 (by first | exact Option.some_ne_none _ | exact hA) (by omega))) hS ?_
      refine D.va 5 rfl (by kernel_rfl) (fun _ _ _ h => h) rfl (fun w' hw => X.fieldP rfl Try.underlying150 rfl sz_3 (by decide) (by first | exact Option.some_ne_none _ | exact hA)) hS ?_
      refine D.va 6 rfl (by kernel_rfl) (fun _ _ _ h => h) rfl (fun w' hw => X.load rfl sc_3 (by first | exact hA | exact Ld.blk (hk1.ext hw) rfl | exact Ld.flat2 fi_len (q1.f.r.ext hw) hgt (r := 0) rfl | exact Ld.flat2 fi_len (q1.f.r.ext hw) hgt (r := 1) rfl)) hS ?_
      refine D.va 7 rfl (by kernel_rfl) (fun _ _ _ h => h) rfl (fun w' hw => X.fieldAddr rfl Try.underlying54 rfl sz_51 (by decide)) hS ?_
      refine D.va 8 rfl (by kernel_rfl) (fun _ _ _ h => h) rfl (fun w' hw => X.load rfl sc_51 (by first | exact hA | exact Ld.blk (hk1.ext hw) rfl | exact Ld.flat2 fi_len (q1.f.r.ext hw) hgt (r := 0) rfl | exact Ld.flat2 fi_len (q1.f.r.ext hw) hgt (r := 1) rfl)) hS ?_
      refine D.va 9 rfl (by kernel_rfl) (fun _ _ _ h => h) rfl (fun w' hw => X.move (by conv => lhs; whnf)) hS ?_
      refine D.va 10 rfl (by kernel_rfl) (fun _ _ _ h => h) rfl (fun w' hw => (by first | exact X.indexAddrn rfl rfl Try.underlying51 sz_150 (by first | exact Option.some_ne_none _ | exact hA) (by omega) | exact X.indexAddr rfl rfl Try.underlying51 sz_150 (by first | exact Option.some_ne_none _ | exact hA) (by omega))) hS ?_
      refine D.va 11 rfl (by kernel_rfl) (fun _ _ _ h => h) rfl (fun w' hw => X.fieldP rfl Try.underlying150 rfl sz_23 (by decide) (by first | exact Option.some_ne_none _ | exact hA)) hS ?_
      refine D.va 12 rfl (by kernel_rfl) (fun _ _ _ h => h) rfl (fun w' hw => X.load rfl sc_23 (by first | exact hA | exact Ld.blk (hk1.ext hw) rfl | exact Ld.flat2 fi_len (q1.f.r.ext hw) hgt (r := 0) rfl | exact Ld.flat2 fi_len (q1.f.r.ext hw) hgt (r := 1) rfl)) hS ?_
      refine D.va 13 rfl (by kernel_rfl) (fun _ _ _ h => h) rfl (fun w' hw => X.len rfl Try.underlying23) hS ?_
      refine D.one 14 (by kernel_rfl) rfl ?_
      refine L.bslice (vs := [_, _]) rfl (Evs.cons (by conv => lhs; whnf) (Evs.cons (by conv => lhs; whnf) Evs.nil)) rfl rfl rfl rfl Try.underlying23 sz_3 zr_3 (by decide) ?_
      intro b5 w5 hb5 hs5 hk5 he5
      have hS1 := hS.trans he5
      refine L.nil ?_
      refine ⟨fun _ => hS1, ?_⟩
      have ho5 := (World.ownsRow.ext ho3 (hSE.trans he5))
      have z4 := hSE.le
      have z5 := he5.le
      refine D.one 15 (by kernel_rfl) rfl ?_
      refine L.appendQ (q := k + 2) (ys := lyq nF P0 fs i ++ [x.d, (x.n : Int)]) rfl rfl rfl Try.underlying23 el_3 (ho5) (blk_reads (q := 2) (l := nums .i64 [x.d, (x.n : Int)]) hk5 hk5.lt rfl) (by omega) (by simp) (by unfold maxLen; omega) (by omega) ?_
      intro A6 c6 w6 ho6 hg6 hb6 hor6
      have hS2 := hS1.grw hg6 (fun g hg ↦ (own_ofT ho5 hg).2)
      refine L.nil ?_
      refine ⟨fun _ => hS2, ?_⟩
      refine D.va 16 rfl (by kernel_rfl) (fun _ _ _ h => h) rfl (fun w' hw => X.assign (by conv => lhs; whnf)) hS2 ?_
      refine D.done (by kernel_rfl) ?_
      have q6 := q1.ext hS2
      have z6 := hS2.le
      have hk6 := hk1.ext hS2
      have hA6 := q6.f.r.some_ (by omega)
      refine J.region ?_
      refine L.va rfl (X.move (by conv => lhs; whnf)) ?_
      refine L.va rfl (X.fieldAddr rfl Try.underlying54 rfl sz_51 (by decide)) ?_
      refine L.va rfl (X.load rfl sc_51 (by first | exact hA6 | exact Ld.blk hk6 rfl | exact Ld.flat2 fi_len q6.f.r hgt (r := 0) rfl | exact Ld.flat2 fi_len q6.f.r hgt (r := 1) rfl)) ?_
      refine L.va rfl (X.move (by conv => lhs; whnf)) ?_
      refine L.va rfl ((by first | exact X.indexAddrn rfl rfl Try.underlying51 sz_150 (by first | exact Option.some_ne_none _ | exact hA6) (by omega) | exact X.indexAddr rfl rfl Try.underlying51 sz_150 (by first | exact Option.some_ne_none _ | exact hA6) (by omega))) ?_
      refine L.va rfl (X.fieldP rfl Try.underlying150 rfl sz_23 (by decide) (by first | exact Option.some_ne_none _ | exact hA6)) ?_
      refine L.va rfl (X.load rfl sc_23 (by first | exact hA6 | exact Ld.blk hk6 rfl | exact Ld.flat2 fi_len q6.f.r hgt (r := 0) rfl | exact Ld.flat2 fi_len q6.f.r hgt (r := 1) rfl)) ?_
      refine L.appendQ (q := (lyq nF P0 fs (i + 1)).length) (ys := lyq nF P0 fs i ++ [x.d, (x.n : Int)] ++ x.l) rfl rfl rfl Try.underlying23 el_3 (ho6) ((hX.ext hS2).r) (by omega) (by simp) (by unfold maxLen; omega) (by omega) ?_
      intro A7 c7 w7 ho7 hg7 hb7 hor7
      rw [← hnx] at ho7
      refine L.va rfl (X.assign (by conv => lhs; whnf)) ?_
      refine L.nil ?_
      refine J.region ?_
      refine L.va rfl (X.move (by conv => lhs; whnf)) ?_
      refine L.va rfl (X.add rfl rfl (by omega)) ?_
      refine L.va rfl (X.assign (by conv => lhs; whnf)) ?_
      refine L.nil ?_
      refine ⟨(i + 1, A7, (lyq nF P0 fs (i + 1)).length, c7), At2 (by first | rfl | exact at_int rfl (by omega) | exact at_slice rfl (by omega) | exact at_int rfl (by simp)) (by first | rfl | exact at_int rfl (by omega) | exact at_slice rfl (by omega) | exact at_int rfl (by simp)), (by (iterate 34 refine Agr.lk rfl ?_); exact Agr.lk rfl (Agr.hav rfl Agr.rfl')), ?_⟩
      exact ⟨⟨by omega, rfl, ho7, hS2.grw hg7 (fun g hg => (own_ofT ho6 hg).2)⟩, by show q.f.n - (i + 1) < q.f.n - i; omega⟩
    · obtain rfl : i = fs.length := by omega
      rw [lyq_all] at ho3 hk
      rw [List.length_append] at hk
      refine J.exit ?_
      refine J.seq ?_
      refine J.region ?_
      refine L.va rfl (X.move (by conv => lhs; whnf)) ?_
      refine L.va rfl (X.fieldAddr rfl Try.underlying54 rfl sz_52 (by decide)) ?_
      refine L.va rfl (X.load rfl sc_52 (by first | exact Ld.blk hk3 rfl)) ?_
      refine L.va rfl (X.len rfl Try.underlying52) ?_
      refine L.bslice (vs := [_]) rfl (Evs.cons (by conv => lhs; whnf) Evs.nil) rfl rfl rfl rfl Try.underlying23 sz_3 zr_3 (by decide) ?_
      intro b4 w4 hb4 hs4 hk4 he4
      have ho4 := World.ownsRow.ext ho3 he4
      have z4 := he4.le
      refine L.appendQ (q := P2.length) (ys := P0 ++ fs.flatMap nF ++ [(q.nc : Int)]) rfl rfl rfl Try.underlying23 el_3 (ho4) (blk_reads (q := 1) (l := nums .i64 [(q.nc : Int)]) hk4 hk4.lt rfl) (by omega) (by simp) (by unfold maxLen; omega) (by omega) ?_
      intro A5 c5 w5 ho5 hg5 hb5 hor5
      rw [← hP2] at ho5
      have x5 : Ext w1 w5 := (x3.trans he4).grw hg5 (fun g hg => (own_ofT ho4 hg).2)
      refine L.va rfl (X.assign (by conv => lhs; whnf)) ?_
      refine L.nil ?_
      refine J.seq ?_
      refine J.seq ?_
      refine J.region ?_
      refine L.va rfl (X.assign (by conv => lhs; whnf)) ?_
      refine L.nil ?_
      refine J.block ?_
      refine J.loop (X := Nat × Option Addr × Nat × Nat) [3, 5, 52, 53, 54, 55, 56, 57, 58, 59, 60, 61, 62, 63, 64, 65, 66, 67, 68, 69, 70, 71, 72, 73] (fun (i, A, k, c) => [(5, .int .i64 (i : Int)), (3, .slice A k c)]) (fun (i, A, k, c) w' => i ≤ q.nc ∧ k = (lyq nC P2 q.c i).length ∧ w'.ownsRow w1.heap.size 3 1 (.slice A k c) k (nums .i64 (lyq nC P2 q.c i)) ∧ Ext w1 w') (fun (i, _) => q.nc - i) ((0, A5, P2.length, c5)) (At2 (by first | rfl | exact at_int rfl (by omega) | exact at_slice rfl (by omega) | exact at_int rfl (by simp)) (by first | rfl | exact at_int rfl (by omega) | exact at_slice rfl (by omega) | exact at_int rfl (by simp))) ?_ ?_
      · refine ⟨Nat.zero_le _, ?_, ?_, x5⟩
        · rw [lyq_zero]
        · rw [lyq_zero]; exact ho5
      · rintro ⟨j, A, k2, c⟩ g w6 ⟨hj, hk2', ho6, x6⟩
        have hk6 := hk1.ext x6
        have q6 := q1.ext x6
        have z6 := x6.le
        have hlj := hle2 j
        refine J.seq ?_
        refine J.seq ?_
        refine J.region ?_
        refine L.va rfl (X.move (by conv => lhs; whnf)) ?_
        refine L.va rfl (X.fieldAddr rfl Try.underlying54 rfl sz_52 (by decide)) ?_
        refine L.va rfl (X.load rfl sc_52 (by first | exact Ld.blk hk6 rfl)) ?_
        refine L.va rfl (X.len rfl Try.underlying52) ?_
        refine L.va rfl (X.lss rfl rfl) ?_
        refine L.nil ?_
        refine J.dec rfl (fun hlt2 => ?_) (fun hlt2 => ?_)
        · have hjn : j < q.nc := by omega
          have hA := q6.c.some_ (by omega)
          obtain ⟨u, v, huv⟩ : ∃ u v, q.c.getD j c0 = (u, v) := ⟨_, _, rfl⟩
          have hgt := gtC (l := q.c) (i := j) (by omega)
          rw [huv] at hgt
          have hnx : lyq nC P2 q.c (j + 1) = lyq nC P2 q.c j ++ [u, v] := lyq_next hgt
          have hnl := congrArg List.length hnx
          rw [List.length_append, ← hk2'] at hnl
          simp only [List.length_cons, List.length_nil] at hnl
          refine J.skip ?_
          refine J.seq ?_
          refine J.block ?_
          refine J.draw (ℓ := 1000000) (S := (Ext w1)) mixed (fun w7 hSE hS_h => ?_)
          have hS : ((Ext w1)) w7 := (x6.trans hSE)
          refine D.va 0 rfl (by kernel_rfl) (fun _ _ _ h => h) rfl (fun w' hw => X.move (by conv => lhs; whnf)) hS ?_
          refine D.va 1 rfl (by kernel_rfl) (fun _ _ _ h => h) rfl (fun w' hw => X.fieldAddr rfl Try.underlying54 rfl sz_52 (by decide)) hS ?_
          refine D.va 2 rfl (by kernel_rfl) (fun _ _ _ h => h) rfl (fun w' hw => X.load rfl sc_52 (by first | exact hA | exact Ld.blk (hk1.ext hw) rfl | exact Ld.flat2 cV_len (q1.c.ext hw) hgt (r := 0) rfl | exact Ld.flat2 cV_len (q1.c.ext hw) hgt (r := 1) rfl)) hS ?_
          refine D.va 3 rfl (by kernel_rfl) (fun _ _ _ h => h) rfl (fun w' hw => X.move (by conv => lhs; whnf)) hS ?_
          refine D.va 4 rfl (by kernel_rfl) (fun _ _ _ h => h) rfl (fun w' hw => (by first | exact X.indexAddrn rfl rfl Try.underlying52 sz_130 (by first | exact Option.some_ne_none _ | exact hA) (by omega) | exact X.indexAddr rfl rfl Try.underlying52 sz_130 (by first | exact Option.some_ne_none _ | exact hA) (by omega))) hS ?_
          refine D.va 5 rfl (by kernel_rfl) (fun _ _ _ h => h) rfl (fun w' hw => X.fieldP rfl Try.underlying130 rfl sz_3 (by decide) (by first | exact Option.some_ne_none _ | exact hA)) hS ?_
          refine D.va 6 rfl (by kernel_rfl) (fun _ _ _ h => h) rfl (fun w' hw => X.load rfl sc_3 (by first | exact hA | exact Ld.blk (hk1.ext hw) rfl | exact Ld.flat2 cV_len (q1.c.ext hw) hgt (r := 0) rfl | exact Ld.flat2 cV_len (q1.c.ext hw) hgt (r := 1) rfl)) hS ?_
          refine D.va 7 rfl (by kernel_rfl) (fun _ _ _ h => h) rfl (fun w' hw => X.fieldAddr rfl Try.underlying54 rfl sz_52 (by decide)) hS ?_
          refine D.va 8 rfl (by kernel_rfl) (fun _ _ _ h => h) rfl (fun w' hw => X.load rfl sc_52 (by first | exact hA | exact Ld.blk (hk1.ext hw) rfl | exact Ld.flat2 cV_len (q1.c.ext hw) hgt (r := 0) rfl | exact Ld.flat2 cV_len (q1.c.ext hw) hgt (r := 1) rfl)) hS ?_
          refine D.va 9 rfl (by kernel_rfl) (fun _ _ _ h => h) rfl (fun w' hw => X.move (by conv => lhs; whnf)) hS ?_
          refine D.va 10 rfl (by kernel_rfl) (fun _ _ _ h => h) rfl (fun w' hw => (by first | exact X.indexAddrn rfl rfl Try.underlying52 sz_130 (by first | exact Option.some_ne_none _ | exact hA) (by omega) | exact X.indexAddr rfl rfl Try.underlying52 sz_130 (by first | exact Option.some_ne_none _ | exact hA) (by omega))) hS ?_
          refine D.va 11 rfl (by kernel_rfl) (fun _ _ _ h => h) rfl (fun w' hw => X.fieldP rfl Try.underlying130 rfl sz_3 (by decide) (by first | exact Option.some_ne_none _ | exact hA)) hS ?_
          refine D.va 12 rfl (by kernel_rfl) (fun _ _ _ h => h) rfl (fun w' hw => X.load rfl sc_3 (by first | exact hA | exact Ld.blk (hk1.ext hw) rfl | exact Ld.flat2 cV_len (q1.c.ext hw) hgt (r := 0) rfl | exact Ld.flat2 cV_len (q1.c.ext hw) hgt (r := 1) rfl)) hS ?_
          refine D.one 13 (by kernel_rfl) rfl ?_
          refine L.bslice (vs := [_, _]) rfl (Evs.cons (by conv => lhs; whnf) (Evs.cons (by conv => lhs; whnf) Evs.nil)) rfl rfl rfl rfl Try.underlying23 sz_3 zr_3 (by decide) ?_
          intro b8 w8 hb8 hs8 hk8 he8
          have hS1 := hS.trans he8
          refine L.nil ?_
          refine ⟨fun _ => hS1, ?_⟩
          have ho8 := (World.ownsRow.ext ho6 (hSE.trans he8))
          have z7 := hSE.le
          have z8 := he8.le
          refine D.one 14 (by kernel_rfl) rfl ?_
          refine L.appendQ (q := (lyq nC P2 q.c (j + 1)).length) (ys := lyq nC P2 q.c j ++ [u, v]) rfl rfl rfl Try.underlying23 el_3 (ho8) (blk_reads (q := 2) (l := nums .i64 [u, v]) hk8 hk8.lt rfl) (by omega) (by simp) (by unfold maxLen; omega) (by omega) ?_
          intro A9 c9 w9 ho9 hg9 hb9 hor9
          have hS2 := hS1.grw hg9 (fun g hg ↦ (own_ofT ho8 hg).2)
          refine L.nil ?_
          refine ⟨fun _ => hS2, ?_⟩
          rw [← hnx] at ho9
          refine D.va 15 rfl (by kernel_rfl) (fun _ _ _ h => h) rfl (fun w' hw => X.assign (by conv => lhs; whnf)) hS2 ?_
          refine D.done (by kernel_rfl) ?_
          refine J.region ?_
          refine L.va rfl (X.move (by conv => lhs; whnf)) ?_
          refine L.va rfl (X.add rfl rfl (by omega)) ?_
          refine L.va rfl (X.assign (by conv => lhs; whnf)) ?_
          refine L.nil ?_
          refine ⟨(j + 1, A9, (lyq nC P2 q.c (j + 1)).length, c9), At2 (by first | rfl | exact at_int rfl (by omega) | exact at_slice rfl (by omega) | exact at_int rfl (by simp)) (by first | rfl | exact at_int rfl (by omega) | exact at_slice rfl (by omega) | exact at_int rfl (by simp)), (by (iterate 24 refine Agr.lk rfl ?_); exact Agr.lk rfl (Agr.hav rfl Agr.rfl')), ?_⟩
          exact ⟨⟨by omega, rfl, ho9, hS2⟩, by show q.nc - (j + 1) < q.nc - j; omega⟩
        · obtain rfl : j = q.c.length := by omega
          rw [lyq_all] at ho6 hk2'
          rw [List.length_append] at hk2'
          refine J.exit ?_
          refine J.seq ?_
          refine J.region ?_
          refine L.va rfl (X.move (by conv => lhs; whnf)) ?_
          refine L.va rfl (X.fieldAddr rfl Try.underlying54 rfl sz_22 (by decide)) ?_
          refine L.va rfl (X.load rfl sc_22 (by first | exact Ld.blk hk6 rfl)) ?_
          refine L.va rfl (X.len rfl Try.underlying22) ?_
          refine L.bslice (vs := [_]) rfl (Evs.cons (by conv => lhs; whnf) Evs.nil) rfl rfl rfl rfl Try.underlying23 sz_3 zr_3 (by decide) ?_
          intro b7 w7 hb7 hs7 hk7 he7
          have ho7 := World.ownsRow.ext ho6 he7
          have z7 := he7.le
          refine L.appendQ (q := P4.length) (ys := P2 ++ q.c.flatMap nC ++ [(q.no : Int)]) rfl rfl rfl Try.underlying23 el_3 (ho7) (blk_reads (q := 1) (l := nums .i64 [(q.no : Int)]) hk7 hk7.lt rfl) (by omega) (by simp) (by unfold maxLen; omega) (by omega) ?_
          intro A8 c8 w8 ho8 hg8 hb8 hor8
          rw [← hP4] at ho8
          have x8 : Ext w1 w8 := (x6.trans he7).grw hg8 (fun g hg => (own_ofT ho7 hg).2)
          refine L.va rfl (X.assign (by conv => lhs; whnf)) ?_
          refine L.nil ?_
          refine J.seq ?_
          refine J.seq ?_
          refine J.region ?_
          refine L.va rfl (X.assign (by conv => lhs; whnf)) ?_
          refine L.nil ?_
          refine J.block ?_
          refine J.loop (X := Nat × Option Addr × Nat × Nat) [3, 6, 7, 80, 81, 82, 83, 84, 85, 86, 87, 88, 89, 90, 91, 92, 93, 94, 95, 96, 97, 98, 99, 100, 101, 102] (fun (i, A, k, c) => [(6, .int .i64 (i : Int)), (3, .slice A k c)]) (fun (i, A, k, c) w' => i ≤ q.no ∧ k = (lyq nO P4 q.o i).length ∧ w'.ownsRow w1.heap.size 3 1 (.slice A k c) k (nums .i64 (lyq nO P4 q.o i)) ∧ Ext w1 w') (fun (i, _) => q.no - i) ((0, A8, P4.length, c8)) (At2 (by first | rfl | exact at_int rfl (by omega) | exact at_slice rfl (by omega) | exact at_int rfl (by simp)) (by first | rfl | exact at_int rfl (by omega) | exact at_slice rfl (by omega) | exact at_int rfl (by simp))) ?_ ?_
          · refine ⟨Nat.zero_le _, ?_, ?_, x8⟩
            · rw [lyq_zero]
            · rw [lyq_zero]; exact ho8
          · rintro ⟨j, A, k3, c⟩ g w9 ⟨hj, hk3', ho9, x9⟩
            have hk9 := hk1.ext x9
            have q9 := q1.ext x9
            have z9 := x9.le
            have hlj := hle3 j
            refine J.seq ?_
            refine J.seq ?_
            refine J.region ?_
            refine L.va rfl (X.move (by conv => lhs; whnf)) ?_
            refine L.va rfl (X.fieldAddr rfl Try.underlying54 rfl sz_22 (by decide)) ?_
            refine L.va rfl (X.load rfl sc_22 (by first | exact Ld.blk hk9 rfl)) ?_
            refine L.va rfl (X.len rfl Try.underlying22) ?_
            refine L.va rfl (X.lss rfl rfl) ?_
            refine L.nil ?_
            refine J.dec rfl (fun hlt3 => ?_) (fun hlt3 => ?_)
            · have hjn : j < q.no := by omega
              have hA := q9.o.some_ (by omega)
              obtain ⟨u, v, huv⟩ : ∃ u v, q.o.getD j o0 = (u, v) := ⟨_, _, rfl⟩
              have hgt := gtO (l := q.o) (i := j) (by omega)
              rw [huv] at hgt
              have hnx : lyq nO P4 q.o (j + 1) = lyq nO P4 q.o j ++ [u, bi v] := lyq_next hgt
              have hnl := congrArg List.length hnx
              rw [List.length_append, ← hk3'] at hnl
              simp only [List.length_cons, List.length_nil] at hnl
              refine J.skip ?_
              refine J.seq ?_
              refine J.block ?_
              refine J.seq ?_
              refine J.region ?_
              refine L.va rfl (X.assign (by conv => lhs; whnf)) ?_
              refine L.nil ?_
              refine J.cut (X := Unit) [7, 87, 88, 89, 90, 91, 92] (fun _ => [(7, .int .i64 (bi v))]) (fun _ w' => w' = w9) ?_ ?_
              · skip
                refine J.seq ?_
                refine J.region ?_
                refine L.va rfl (X.fieldAddr rfl Try.underlying54 rfl sz_22 (by decide)) ?_
                refine L.va rfl (X.load rfl sc_22 (by first | exact Ld.blk hk9 rfl | exact hA | exact Ld.flat2 oV_len q9.o hgt (r := 0) rfl | exact Ld.flat2 oV_len q9.o hgt (r := 1) rfl)) ?_
                refine L.va rfl (X.move (by conv => lhs; whnf)) ?_
                refine L.va rfl ((by first | exact X.indexAddrn rfl rfl Try.underlying22 sz_98 (by first | exact Option.some_ne_none _ | exact hA) (by omega) | exact X.indexAddr rfl rfl Try.underlying22 sz_98 (by first | exact Option.some_ne_none _ | exact hA) (by omega))) ?_
                refine L.va rfl (X.fieldP rfl Try.underlying98 rfl sz_4 (by decide) (by first | exact Option.some_ne_none _ | exact hA)) ?_
                refine L.va rfl (X.load rfl sc_4 (by first | exact Ld.blk hk9 rfl | exact hA | exact Ld.flat2 oV_len q9.o hgt (r := 0) rfl | exact Ld.flat2 oV_len q9.o hgt (r := 1) rfl)) ?_
                refine L.nil ?_
                cases v
                · refine J.iteF rfl ?_
                  refine J.skip ?_
                  refine ⟨(), At1 (by first | rfl | exact at_int rfl (by omega) | exact at_slice rfl (by omega) | exact at_int rfl (by simp)), (by (iterate 6 refine Agr.lk rfl ?_); exact Agr.rfl'), ?_⟩
                  exact rfl
                · refine J.iteT rfl ?_
                  refine J.region ?_
                  refine L.va rfl (X.assign (by conv => lhs; whnf)) ?_
                  refine L.nil ?_
                  refine ⟨(), At1 (by first | rfl | exact at_int rfl (by omega) | exact at_slice rfl (by omega) | exact at_int rfl (by simp)), (by (iterate 7 refine Agr.lk rfl ?_); exact Agr.rfl'), ?_⟩
                  exact rfl
              · rintro _ g w9' rfl
                refine J.region ?_
                refine L.va rfl (X.move (by conv => lhs; whnf)) ?_
                refine L.va rfl (X.fieldAddr rfl Try.underlying54 rfl sz_22 (by decide)) ?_
                refine L.va rfl (X.load rfl sc_22 (by first | exact Ld.blk hk9 rfl | exact hA | exact Ld.flat2 oV_len q9.o hgt (r := 0) rfl | exact Ld.flat2 oV_len q9.o hgt (r := 1) rfl)) ?_
                refine L.va rfl (X.move (by conv => lhs; whnf)) ?_
                refine L.va rfl ((by first | exact X.indexAddrn rfl rfl Try.underlying22 sz_98 (by first | exact Option.some_ne_none _ | exact hA) (by omega) | exact X.indexAddr rfl rfl Try.underlying22 sz_98 (by first | exact Option.some_ne_none _ | exact hA) (by omega))) ?_
                refine L.va rfl (X.fieldP rfl Try.underlying98 rfl sz_3 (by decide) (by first | exact Option.some_ne_none _ | exact hA)) ?_
                refine L.va rfl (X.load rfl sc_3 (by first | exact Ld.blk hk9 rfl | exact hA | exact Ld.flat2 oV_len q9.o hgt (r := 0) rfl | exact Ld.flat2 oV_len q9.o hgt (r := 1) rfl)) ?_
                refine L.va rfl (X.move (by conv => lhs; whnf)) ?_
                refine L.bslice (vs := [_, _]) rfl (Evs.cons (by conv => lhs; whnf) (Evs.cons (by conv => lhs; whnf) Evs.nil)) rfl rfl rfl rfl Try.underlying23 sz_3 zr_3 (by decide) ?_
                intro ba wa hba hsa hka hea
                have hoa := World.ownsRow.ext ho9 hea
                have za := hea.le
                refine L.appendQ (q := (lyq nO P4 q.o (j + 1)).length) (ys := lyq nO P4 q.o j ++ [u, bi v]) rfl rfl rfl Try.underlying23 el_3 (hoa) (blk_reads (q := 2) (l := nums .i64 [u, bi v]) hka hka.lt rfl) (by omega) (by simp) (by unfold maxLen; omega) (by omega) ?_
                intro Ab cb wb hob hgb hbb horb
                rw [← hnx] at hob
                refine L.va rfl (X.assign (by conv => lhs; whnf)) ?_
                refine L.nil ?_
                refine J.region ?_
                refine L.va rfl (X.move (by conv => lhs; whnf)) ?_
                refine L.va rfl (X.add rfl rfl (by omega)) ?_
                refine L.va rfl (X.assign (by conv => lhs; whnf)) ?_
                refine L.nil ?_
                refine ⟨(j + 1, Ab, (lyq nO P4 q.o (j + 1)).length, cb), At2 (by first | rfl | exact at_int rfl (by omega) | exact at_slice rfl (by omega) | exact at_int rfl (by simp)) (by first | rfl | exact at_int rfl (by omega) | exact at_slice rfl (by omega) | exact at_int rfl (by simp)), (by (iterate 14 refine Agr.lk rfl ?_); refine Agr.lk rfl ?_; refine Agr.hav rfl ?_; (iterate 6 refine Agr.lk rfl ?_); exact Agr.lk rfl (Agr.hav rfl Agr.rfl')), ?_⟩
                exact ⟨⟨by omega, rfl, hob, (x9.trans hea).grw hgb (fun g hg => (own_ofT hoa hg).2)⟩, by show q.no - (j + 1) < q.no - j; omega⟩
            · obtain rfl : j = q.o.length := by omega
              rw [lyq_all] at ho9 hk3'
              rw [List.length_append] at hk3'
              refine J.exit ?_
              refine J.seq ?_
              refine J.region ?_
              refine L.va rfl (X.move (by conv => lhs; whnf)) ?_
              refine L.va rfl (X.fieldAddr rfl Try.underlying54 rfl sz_3 (by decide)) ?_
              refine L.va rfl (X.load rfl sc_3 (by first | exact Ld.blk hk9 rfl)) ?_
              refine L.bslice (vs := [_]) rfl (Evs.cons (by conv => lhs; whnf) Evs.nil) rfl rfl rfl rfl Try.underlying23 sz_3 zr_3 (by decide) ?_
              intro ba wa hba hsa hka hea
              have hoa := World.ownsRow.ext ho9 hea
              have za := hea.le
              have hl9 : (P4 ++ q.o.flatMap nO ++ [q.m]).length = k3 + 1 := by simp only [List.length_append, List.length_cons, List.length_nil]; omega
              refine L.appendQ (q := (P4 ++ q.o.flatMap nO ++ [q.m]).length) (ys := P4 ++ q.o.flatMap nO ++ [q.m]) rfl rfl rfl Try.underlying23 el_3 (hoa) (blk_reads (q := 1) (l := nums .i64 [q.m]) hka hka.lt rfl) (by omega) (by simp) (by unfold maxLen; omega) (by omega) ?_
              intro Ab cb wb hob hgb hbb horb
              refine L.va rfl (X.assign (by conv => lhs; whnf)) ?_
              refine L.nil ?_
              refine J.ret ?_
              refine fin1 ?_
              exact ⟨Ab, cb, rfl, own_lower hob z1, he1.trans ((x9.trans hea).grw hgb (fun g hg => (own_ofT hoa hg).2))⟩
theorem len_cu : ∀ l : List Int, l.length ≤ (l.flatMap cu).length
  | [] => Nat.le_refl _
  | x :: t => by
    have h1 := len_cu t
    rw [List.flatMap_cons, List.length_append, List.length_cons, cu_length]
    omega
theorem rqput {q : Qu} {w : World} (hq : q.At w.heap.size w) (F : QFits (qcOf q)) : Calls Try.prog 42 #[q.val] w fun e w' => ∃ A' c', e = .returned (.slice A' (qb (qcOf q)).length c') ∧ w'.ownsRow w.heap.size 5 1 (.slice A' (qb (qcOf q)).length c') (qb (qcOf q)).length (nums .u8 (qb (qcOf q))) ∧ Ext w w' := by
  have hbd := qnum_bd F
  have hql := qb_le F
  obtain ⟨l, hl⟩ : ∃ l, l = qnum (qcOf q) := ⟨_, rfl⟩
  have eq : qb (qcOf q) = l.flatMap cu := by rw [hl, qnum_cu]
  rw [eq] at hql
  have hll := len_cu l
  rw [← hl] at hbd
  refine enter Try.func42 rfl (by kernel_rfl) ?_
  refine J.seq ?_
  refine J.region ?_
  refine L.boxA (l := [_, _, _, _, _]) rfl rfl ?_
  intro b1 w1 hb1 hs1 hk1 he1
  have hk1 : Blk w1 b1 54 q.vs.toArray := hk1
  have z1 := he1.le
  refine L.va rfl (X.assign (by conv => lhs; whnf)) ?_
  refine L.nil ?_
  refine J.seq ?_
  refine J.region ?_
  refine L.va rfl (X.assign (by conv => lhs; whnf)) ?_
  refine L.nil ?_
  refine J.seq ?_
  refine J.region ?_
  refine L.va rfl ((by first | exact X.loadAgg rfl (range_l hk1) Try.underlying54 rfl (by kernel_rfl) | exact X.loadAgg rfl (range_blk hk1) Try.underlying54 rfl (by kernel_rfl))) ?_
  refine L.call rfl en_113 rfl (rnumbers ((hq.ext he1).more z1) F) ?_
  rintro e w2 ⟨A2, c2, rfl, ho2, he2⟩
  refine ⟨_, rfl, ?_⟩
  rw [← hl] at ho2 ⊢
  have hr2 := Reads.of_own ho2
  have z2 := he2.le
  rw [eq]
  refine L.va rfl (X.assign (by conv => lhs; whnf)) ?_
  refine L.nil ?_
  refine J.seq ?_
  refine J.seq ?_
  refine J.region ?_
  refine L.va rfl (X.assign (by conv => lhs; whnf)) ?_
  refine L.nil ?_
  refine J.block ?_
  refine J.loop (X := Nat × Option Addr × Nat × Nat) [3, 5, 8, 9, 10, 11, 12, 13, 14, 15, 16, 17, 18, 19, 20, 21] (fun (i, A, k, c) => [(5, .int .i64 (i : Int)), (3, .slice A k c)]) (fun (i, A, k, c) w' => i ≤ l.length ∧ k = (lyq cu [] l i).length ∧ w'.ownsRow w2.heap.size 5 1 (.slice A k c) k (nums .u8 (lyq cu [] l i)) ∧ Ext w2 w') (fun (i, _) => l.length - i) ((0, none, 0, 0)) (At2 (by first | rfl | exact at_int rfl (by omega) | exact at_slice rfl (by omega) | exact at_int rfl (by simp)) (by first | rfl | exact at_int rfl (by omega) | exact at_slice rfl (by omega) | exact at_int rfl (by simp))) ?_ ?_
  · refine ⟨Nat.zero_le _, ?_, ?_, Ext.refl _⟩
    · rw [lyq_zero]; rfl
    · rw [lyq_zero]; exact own_nilN _ _ _ _
  · rintro ⟨i, A, k, c⟩ g w3 ⟨hi, hk, ho3, x3⟩
    have hr3 := hr2.ext x3
    have z3 := x3.le
    refine J.seq ?_
    refine J.seq ?_
    refine J.region ?_
    refine L.va rfl (X.move (by conv => lhs; whnf)) ?_
    refine L.va rfl (X.move (by conv => lhs; whnf)) ?_
    refine L.va rfl (X.len rfl Try.underlying23) ?_
    refine L.va rfl (X.lss rfl rfl) ?_
    refine L.nil ?_
    refine J.dec rfl (fun hlt => ?_) (fun hlt => ?_)
    · have hin : i < l.length := by omega
      have hA := hr3.some_ (by omega)
      have hx : l[i]? = some (l.getD i 0) := by rw [List.getD, List.getElem?_eq_getElem hin]; rfl
      have hxb := hbd _ (List.mem_of_getElem? hx)
      have hnx := lyq_next (enc := cu) (h := []) hx
      have hnl := congrArg List.length hnx
      rw [List.length_append, ← hk, cu_length] at hnl
      have hb : (lyq cu [] l (i + 1)).length ≤ 800000 := by
        have h1 : (lyq cu [] l (i + 1)).length ≤ (l.flatMap cu).length := by
          unfold lyq
          rw [List.nil_append]
          have e : l.flatMap cu = (l.take (i + 1)).flatMap cu ++ (l.drop (i + 1)).flatMap cu := by rw [← List.flatMap_append, List.take_append_drop]
          rw [e, List.length_append]
          omega
        omega
      refine J.skip ?_
      refine J.seq ?_
      refine J.block ?_
      refine J.region ?_
      refine L.va rfl (X.move (by conv => lhs; whnf)) ?_
      refine L.va rfl (X.move (by conv => lhs; whnf)) ?_
      refine L.va rfl (X.move (by conv => lhs; whnf)) ?_
      refine L.va rfl ((by first | exact X.index1n rfl rfl Try.underlying23 sz_3 (by first | exact Option.some_ne_none _ | exact hr3.some_ (by omega) | exact hA) (by omega) | exact X.index1 rfl rfl Try.underlying23 sz_3 (by first | exact Option.some_ne_none _ | exact hr3.some_ (by omega) | exact hA) (by omega))) ?_
      refine L.va rfl (X.load rfl sc_3 (by first | exact Ld.num hr3 (by omega) | exact hA)) ?_
      refine L.va rfl ((by first | exact X.convU rfl is_3 Try.underlying90 (by omega) | exact X.convw rfl is_3 Try.underlying90)) ?_
      refine L.call rfl en_114 rfl (ref_U (l.getD i 0) w3 hxb.1 (by omega)) ?_
      rintro e w4 ⟨A4, c4, rfl, ho4, he4⟩
      refine ⟨_, rfl, ?_⟩
      have z4 := he4.le
      refine L.appendQ (q := (lyq cu [] l (i + 1)).length) (ys := lyq cu [] l i ++ cu (l.getD i 0)) rfl rfl rfl Try.underlying30 el_5 ((World.ownsRow.ext ho3 he4)) ((Reads.of_own ho4)) (by omega) (by simp) (by unfold maxLen; omega) (by omega) ?_
      intro A5 c5 w5 ho5 hg5 hb5 hor5
      rw [← hnx] at ho5
      refine L.va rfl (X.assign (by conv => lhs; whnf)) ?_
      refine L.nil ?_
      refine J.region ?_
      refine L.va rfl (X.move (by conv => lhs; whnf)) ?_
      refine L.va rfl (X.add rfl rfl (by omega)) ?_
      refine L.va rfl (X.assign (by conv => lhs; whnf)) ?_
      refine L.nil ?_
      refine ⟨(i + 1, A5, (lyq cu [] l (i + 1)).length, c5), At2 (by first | rfl | exact at_int rfl (by omega) | exact at_slice rfl (by omega) | exact at_int rfl (by simp)) (by first | rfl | exact at_int rfl (by omega) | exact at_slice rfl (by omega) | exact at_int rfl (by simp)), (by (iterate 16 refine Agr.lk rfl ?_); exact Agr.lk rfl (Agr.hav rfl Agr.rfl')), ?_⟩
      exact ⟨⟨by omega, rfl, ho5, (x3.trans he4).low hb5 (Nat.le_refl _)⟩, by show l.length - (i + 1) < l.length - i; omega⟩
    · obtain rfl : i = l.length := by omega
      rw [lyq_all, List.nil_append] at ho3 hk
      subst hk
      refine J.exit ?_
      refine J.seq ?_
      refine J.region ?_
      refine L.va rfl (X.move (by conv => lhs; whnf)) ?_
      refine L.va rfl (X.assign (by conv => lhs; whnf)) ?_
      refine L.nil ?_
      refine J.ret ?_
      refine fin1 ?_
      exact ⟨A, c, rfl, own_lower ho3 (by omega), (he1.trans he2).trans x3⟩
end Go.Proofs.Ytlipeplfjkgamaa
namespace Go.Proofs.Ytlipeplfjkgamaa
set_option maxRecDepth 100000
open Go.RowKit H
set_option linter.unusedVariables false
theorem rqsame {a b : Qu} {w : World} (ha : a.At w.heap.size w) (hb : b.At w.heap.size w) : Calls Try.prog 37 #[a.val, b.val] w fun e w' => e = .returned (.bool (decide (a.Eqv b))) ∧ Ext w w' := by
  have z0 : (a.g : Int) = (b.g : Int) ↔ a.g = b.g := by omega
  have lc1 := ha.lc
  have lc2 := hb.lc
  have lo1 := ha.lo
  have lo2 := hb.lo
  have mc1 := ha.mc
  have mc2 := hb.mc
  have mo1 := ha.mo
  have mo2 := hb.mo
  unfold maxLen at mc1 mc2 mo1 mo2
  refine enter Try.func37 rfl (by kernel_rfl) ?_
  refine J.seq ?_
  refine J.region ?_
  refine L.boxA (l := [_, _, _, _, _]) rfl rfl ?_
  intro b1 w1 hb1 hs1 hk1 he1
  refine L.boxA (l := [_, _, _, _, _]) rfl rfl ?_
  intro b2 w2 hb2 hs2 hk2 he2
  have hk12 := hk1.ext he2
  have he := he1.trans he2
  have z2 := he.le
  have hk12 : Blk w2 b1 54 a.vs.toArray := hk12
  have hk2 : Blk w2 b2 54 b.vs.toArray := hk2
  have ha2 := ha.ext he
  have hb2 := hb.ext he
  refine L.va rfl (X.assign (by conv => lhs; whnf)) ?_
  refine L.nil ?_
  refine J.seq ?_
  refine J.seq ?_
  refine J.region ?_
  refine L.va rfl (X.fieldAddr rfl Try.underlying54 rfl sz_50 (by decide)) ?_
  refine L.va rfl (X.load rfl sc_50 (by first | exact Ld.blk hk2 rfl | exact Ld.blk hk12 rfl)) ?_
  refine L.va rfl (X.fieldAddr rfl Try.underlying54 rfl sz_50 (by decide)) ?_
  refine L.va rfl (X.load rfl sc_50 (by first | exact Ld.blk hk2 rfl | exact Ld.blk hk12 rfl)) ?_
  refine L.va rfl (X.neq rfl rfl) ?_
  refine L.va rfl (X.move (by conv => lhs; whnf)) ?_
  refine L.caseNdec (k := 12) rfl (fun h1 => ?_) (fun h1 => ?_)
  · refine L.no rfl ?_
    refine L.no rfl ?_
    refine L.no rfl ?_
    refine L.no rfl ?_
    refine L.no rfl ?_
    refine L.va rfl (X.pickT rfl (by conv => lhs; whnf)) ?_
    refine L.va rfl (X.move (by conv => lhs; whnf)) ?_
    refine L.no rfl ?_
    refine L.no rfl ?_
    refine L.no rfl ?_
    refine L.no rfl ?_
    refine L.no rfl ?_
    refine L.no rfl ?_
    refine L.no rfl ?_
    refine L.va rfl (X.pickT rfl (by conv => lhs; whnf)) ?_
    refine L.va rfl (X.move (by conv => lhs; whnf)) ?_
    refine L.no rfl ?_
    refine L.no rfl ?_
    refine L.no rfl ?_
    refine L.no rfl ?_
    refine L.no rfl ?_
    refine L.no rfl ?_
    refine L.no rfl ?_
    refine L.va rfl (X.pickT rfl (by conv => lhs; whnf)) ?_
    refine L.va rfl (X.move (by conv => lhs; whnf)) ?_
    refine L.no rfl ?_
    refine L.no rfl ?_
    refine L.no rfl ?_
    refine L.no rfl ?_
    refine L.no rfl ?_
    refine L.no rfl ?_
    refine L.va rfl (X.pickT rfl (by conv => lhs; whnf)) ?_
    refine L.nil ?_
    refine J.iteT rfl ?_
    rw [show decide (a.Eqv b) = false from decide_eq_false (fun e => h1 (z0.2 e.g))]
    refine J.seq ?_
    refine J.region ?_
    refine L.va rfl (X.assign (by conv => lhs; whnf)) ?_
    refine L.nil ?_
    refine J.ret ?_
    refine thn_ret <| ?_
    refine fin1 ?_
    exact ⟨rfl, he⟩
  refine L.va rfl (X.fieldAddr rfl Try.underlying54 rfl sz_3 (by decide)) ?_
  refine L.va rfl (X.load rfl sc_3 (by first | exact Ld.blk hk2 rfl | exact Ld.blk hk12 rfl)) ?_
  refine L.va rfl (X.fieldAddr rfl Try.underlying54 rfl sz_3 (by decide)) ?_
  refine L.va rfl (X.load rfl sc_3 (by first | exact Ld.blk hk2 rfl | exact Ld.blk hk12 rfl)) ?_
  refine L.va rfl (X.neq rfl rfl) ?_
  refine L.va rfl (X.pickF rfl (by conv => lhs; whnf)) ?_
  refine L.va rfl (X.move (by conv => lhs; whnf)) ?_
  refine L.caseNdec (k := 19) rfl (fun h2 => ?_) (fun h2 => ?_)
  · refine L.no rfl ?_
    refine L.no rfl ?_
    refine L.no rfl ?_
    refine L.no rfl ?_
    refine L.no rfl ?_
    refine L.no rfl ?_
    refine L.no rfl ?_
    refine L.va rfl (X.pickT rfl (by conv => lhs; whnf)) ?_
    refine L.va rfl (X.move (by conv => lhs; whnf)) ?_
    refine L.no rfl ?_
    refine L.no rfl ?_
    refine L.no rfl ?_
    refine L.no rfl ?_
    refine L.no rfl ?_
    refine L.no rfl ?_
    refine L.no rfl ?_
    refine L.va rfl (X.pickT rfl (by conv => lhs; whnf)) ?_
    refine L.va rfl (X.move (by conv => lhs; whnf)) ?_
    refine L.no rfl ?_
    refine L.no rfl ?_
    refine L.no rfl ?_
    refine L.no rfl ?_
    refine L.no rfl ?_
    refine L.no rfl ?_
    refine L.va rfl (X.pickT rfl (by conv => lhs; whnf)) ?_
    refine L.nil ?_
    refine J.iteT rfl ?_
    rw [show decide (a.Eqv b) = false from decide_eq_false (fun e => h2 e.m)]
    refine J.seq ?_
    refine J.region ?_
    refine L.va rfl (X.assign (by conv => lhs; whnf)) ?_
    refine L.nil ?_
    refine J.ret ?_
    refine thn_ret <| ?_
    refine fin1 ?_
    exact ⟨rfl, he⟩
  refine L.va rfl (X.fieldAddr rfl Try.underlying54 rfl sz_52 (by decide)) ?_
  refine L.va rfl (X.load rfl sc_52 (by first | exact Ld.blk hk2 rfl | exact Ld.blk hk12 rfl)) ?_
  refine L.va rfl (X.len rfl Try.underlying52) ?_
  refine L.va rfl (X.fieldAddr rfl Try.underlying54 rfl sz_52 (by decide)) ?_
  refine L.va rfl (X.load rfl sc_52 (by first | exact Ld.blk hk2 rfl | exact Ld.blk hk12 rfl)) ?_
  refine L.va rfl (X.len rfl Try.underlying52) ?_
  refine L.va rfl (X.neq rfl rfl) ?_
  refine L.va rfl (X.pickF rfl (by conv => lhs; whnf)) ?_
  refine L.va rfl (X.move (by conv => lhs; whnf)) ?_
  refine L.caseNdec (k := 28) rfl (fun h3 => ?_) (fun h3 => ?_)
  · refine L.no rfl ?_
    refine L.no rfl ?_
    refine L.no rfl ?_
    refine L.no rfl ?_
    refine L.no rfl ?_
    refine L.no rfl ?_
    refine L.no rfl ?_
    refine L.va rfl (X.pickT rfl (by conv => lhs; whnf)) ?_
    refine L.va rfl (X.move (by conv => lhs; whnf)) ?_
    refine L.no rfl ?_
    refine L.no rfl ?_
    refine L.no rfl ?_
    refine L.no rfl ?_
    refine L.no rfl ?_
    refine L.no rfl ?_
    refine L.va rfl (X.pickT rfl (by conv => lhs; whnf)) ?_
    refine L.nil ?_
    refine J.iteT rfl ?_
    rw [show decide (a.Eqv b) = false from decide_eq_false (fun e => h3 (by rw [← lc1, ← lc2, e.c]))]
    refine J.seq ?_
    refine J.region ?_
    refine L.va rfl (X.assign (by conv => lhs; whnf)) ?_
    refine L.nil ?_
    refine J.ret ?_
    refine thn_ret <| ?_
    refine fin1 ?_
    exact ⟨rfl, he⟩
  refine L.va rfl (X.fieldAddr rfl Try.underlying54 rfl sz_22 (by decide)) ?_
  refine L.va rfl (X.load rfl sc_22 (by first | exact Ld.blk hk2 rfl | exact Ld.blk hk12 rfl)) ?_
  refine L.va rfl (X.len rfl Try.underlying22) ?_
  refine L.va rfl (X.fieldAddr rfl Try.underlying54 rfl sz_22 (by decide)) ?_
  refine L.va rfl (X.load rfl sc_22 (by first | exact Ld.blk hk2 rfl | exact Ld.blk hk12 rfl)) ?_
  refine L.va rfl (X.len rfl Try.underlying22) ?_
  refine L.va rfl (X.neq rfl rfl) ?_
  refine L.va rfl (X.pickF rfl (by conv => lhs; whnf)) ?_
  refine L.va rfl (X.move (by conv => lhs; whnf)) ?_
  refine L.caseNdec (k := 37) rfl (fun h4 => ?_) (fun h4 => ?_)
  · refine L.no rfl ?_
    refine L.no rfl ?_
    refine L.no rfl ?_
    refine L.no rfl ?_
    refine L.no rfl ?_
    refine L.no rfl ?_
    refine L.va rfl (X.pickT rfl (by conv => lhs; whnf)) ?_
    refine L.nil ?_
    refine J.iteT rfl ?_
    rw [show decide (a.Eqv b) = false from decide_eq_false (fun e => h4 (by rw [← lo1, ← lo2, e.o]))]
    refine J.seq ?_
    refine J.region ?_
    refine L.va rfl (X.assign (by conv => lhs; whnf)) ?_
    refine L.nil ?_
    refine J.ret ?_
    refine thn_ret <| ?_
    refine fin1 ?_
    exact ⟨rfl, he⟩
  refine L.va rfl (X.fieldAddr rfl Try.underlying54 rfl sz_51 (by decide)) ?_
  refine L.va rfl (X.load rfl sc_51 (by first | exact Ld.blk hk2 rfl | exact Ld.blk hk12 rfl)) ?_
  refine L.va rfl (X.fieldAddr rfl Try.underlying54 rfl sz_51 (by decide)) ?_
  refine L.va rfl (X.load rfl sc_51 (by first | exact Ld.blk hk2 rfl | exact Ld.blk hk12 rfl)) ?_
  refine L.call rfl en_101 rfl (rsame28 (ha2.f.more z2) (hb2.f.more z2)) ?_
  rintro e w3 ⟨rfl, he3⟩
  refine ⟨_, rfl, ?_⟩
  have he03 := he.trans he3
  have z3 := he03.le
  have ha3 := ha2.ext he3
  have hb3 := hb2.ext he3
  replace hk2 := hk2.ext he3
  replace hk12 := hk12.ext he3
  refine L.va rfl (X.not rfl) ?_
  refine L.va rfl (X.pickF rfl (by conv => lhs; whnf)) ?_
  refine L.nil ?_
  by_cases h5 : a.f.l.map Fi.key = b.f.l.map Fi.key
  · rw [decide_eq_true h5]
    refine J.iteF rfl ?_
    refine J.skip ?_
    refine J.seq ?_
    refine J.seq ?_
    refine J.region ?_
    refine L.va rfl (X.assign (by conv => lhs; whnf)) ?_
    refine L.nil ?_
    refine J.block ?_
    refine J.loop (X := Nat) [4, 5, 45, 46, 47, 48, 49, 50, 51, 52, 53, 54, 55, 56, 57, 58, 59, 60, 61, 62] (fun i => [(5, .int .i64 (i : Int))]) (fun i w' => i ≤ a.nc ∧ (∀ j, j < i → a.c.getD j c0 = b.c.getD j c0) ∧ Ext w3 w') (fun i => a.nc - i) (0) (At1 (by first | rfl | exact at_int rfl (by omega) | exact at_slice rfl (by omega) | exact at_int rfl (by simp))) ?_ ?_
    · exact ⟨Nat.zero_le _, fun j hj => absurd hj (by omega), Ext.refl _⟩
    · rintro i g w4 ⟨hi, hP, he4⟩
      have hk4 := hk2.ext he4
      have hk14 := hk12.ext he4
      have k1 := ha3.c.ext he4
      have k2 := hb3.c.ext he4
      refine J.seq ?_
      refine J.seq ?_
      refine J.region ?_
      refine L.va rfl (X.move (by conv => lhs; whnf)) ?_
      refine L.va rfl (X.fieldAddr rfl Try.underlying54 rfl sz_52 (by decide)) ?_
      refine L.va rfl (X.load rfl sc_52 (by first | exact Ld.blk hk4 rfl | exact Ld.blk hk14 rfl)) ?_
      refine L.va rfl (X.len rfl Try.underlying52) ?_
      refine L.va rfl (X.lss rfl rfl) ?_
      refine L.nil ?_
      refine J.dec rfl (fun hlt => ?_) (fun hlt => ?_)
      · have hi1 : i < a.c.length := by omega
        have hi2 : i < b.c.length := by omega
        have hA := k1.some_ (by omega)
        have hB := k2.some_ (by omega)
        refine J.skip ?_
        refine J.seq ?_
        refine J.block ?_
        refine J.seq ?_
        refine J.quiet mixed (by kernel_rfl) ?_
        refine Qt.va rfl (fun w' hw => X.fieldAddr rfl Try.underlying54 rfl sz_52 (by decide)) ?_
        refine Qt.va rfl (fun w' hw => X.load rfl sc_52 (by first | exact Ld.blk (hk4.ext hw) rfl | exact Ld.blk (hk14.ext hw) rfl | exact hA | exact hB)) ?_
        refine Qt.va rfl (fun w' hw => X.move (by conv => lhs; whnf)) ?_
        refine Qt.va rfl (fun w' hw => (by first | exact X.indexAddrn rfl rfl Try.underlying52 sz_130 (by first | exact Option.some_ne_none _ | exact hA | exact hB) (by omega) | exact X.indexAddr rfl rfl Try.underlying52 sz_130 (by first | exact Option.some_ne_none _ | exact hA | exact hB) (by omega))) ?_
        refine Qt.va rfl (fun w' hw => X.loadRow (cs := cV (a.c.getD i c0)) rfl (k1.ext hw) (fun r u hu => flat_row cV_len (gtC hi1) r u hu) (Nat.zero_lt_succ _) Try.underlying130 rfl (by kernel_rfl)) ?_
        refine Qt.va rfl (fun w' hw => X.fieldAddr rfl Try.underlying54 rfl sz_52 (by decide)) ?_
        refine Qt.va rfl (fun w' hw => X.load rfl sc_52 (by first | exact Ld.blk (hk4.ext hw) rfl | exact Ld.blk (hk14.ext hw) rfl | exact hA | exact hB)) ?_
        refine Qt.va rfl (fun w' hw => X.move (by conv => lhs; whnf)) ?_
        refine Qt.va rfl (fun w' hw => (by first | exact X.indexAddrn rfl rfl Try.underlying52 sz_130 (by first | exact Option.some_ne_none _ | exact hA | exact hB) (by omega) | exact X.indexAddr rfl rfl Try.underlying52 sz_130 (by first | exact Option.some_ne_none _ | exact hA | exact hB) (by omega))) ?_
        refine Qt.va rfl (fun w' hw => X.loadRow (cs := cV (b.c.getD i c0)) rfl (k2.ext hw) (fun r u hu => flat_row cV_len (gtC hi2) r u hu) (Nat.zero_lt_succ _) Try.underlying130 rfl (by kernel_rfl)) ?_
        refine Qt.va rfl (fun w' hw => X.neqTwo two_col rfl rfl sc_3 sc_3 (eq_int Try.underlying3) (eq_int Try.underlying3)) ?_
        refine Qt.nil (fun w5 hq => ?_)
        replace hk4 := hk4.ext hq
        replace hk14 := hk14.ext hq
        by_cases hd : a.c.getD i c0 = b.c.getD i c0
        · rw [pneF hd]
          refine J.iteF rfl ?_
          refine J.skip ?_
          refine J.region ?_
          refine L.va rfl (X.move (by conv => lhs; whnf)) ?_
          refine L.va rfl (X.add rfl rfl (by omega)) ?_
          refine L.va rfl (X.assign (by conv => lhs; whnf)) ?_
          refine L.nil ?_
          refine ⟨i + 1, At1 (by first | rfl | exact at_int rfl (by omega) | exact at_slice rfl (by omega) | exact at_int rfl (by simp)), (by (iterate 19 refine Agr.lk rfl ?_); exact Agr.lk rfl (Agr.hav rfl Agr.rfl')), ?_⟩
          refine ⟨⟨by omega, fun j hj => ?_, he4.trans hq⟩, by omega⟩
          rcases Nat.lt_or_ge j i with h | h
          · exact hP j h
          · obtain rfl : j = i := by omega
            exact hd
        · rw [show decide (a.Eqv b) = false from decide_eq_false (fun e => hd (by rw [e.c]))]
          rw [pneT hd]
          refine J.iteT rfl ?_
          refine J.seq ?_
          refine J.region ?_
          refine L.va rfl (X.assign (by conv => lhs; whnf)) ?_
          refine L.nil ?_
          refine J.ret ?_
          refine inB_ret <|  thn_ret <|  thn_ret <|  inB_ret <|  thn_ret <| ?_
          refine fin1 ?_
          exact ⟨rfl, (he03.trans he4).trans hq⟩
      · have hce : a.c = b.c := lst_eq c0 (by omega) (fun j hj => hP j (by omega))
        have he04 := he03.trans he4
        refine J.exit ?_
        refine J.seq ?_
        refine J.seq ?_
        refine J.region ?_
        refine L.va rfl (X.assign (by conv => lhs; whnf)) ?_
        refine L.nil ?_
        refine J.block ?_
        refine J.loop (X := Nat) [4, 6, 63, 64, 65, 66, 67, 68, 69, 70, 71, 72, 73, 74, 75, 76, 77, 78, 79, 80] (fun i => [(6, .int .i64 (i : Int))]) (fun i w' => i ≤ a.no ∧ (∀ j, j < i → a.o.getD j o0 = b.o.getD j o0) ∧ Ext w4 w') (fun i => a.no - i) (0) (At1 (by first | rfl | exact at_int rfl (by omega) | exact at_slice rfl (by omega) | exact at_int rfl (by simp))) ?_ ?_
        · exact ⟨Nat.zero_le _, fun j hj => absurd hj (by omega), Ext.refl _⟩
        · rintro j g w5 ⟨hj, hQ, he5⟩
          have hk5 := hk4.ext he5
          have hk15 := hk14.ext he5
          have k3 := (ha3.o.ext he4).ext he5
          have k4 := (hb3.o.ext he4).ext he5
          refine J.seq ?_
          refine J.seq ?_
          refine J.region ?_
          refine L.va rfl (X.move (by conv => lhs; whnf)) ?_
          refine L.va rfl (X.fieldAddr rfl Try.underlying54 rfl sz_22 (by decide)) ?_
          refine L.va rfl (X.load rfl sc_22 (by first | exact Ld.blk hk5 rfl | exact Ld.blk hk15 rfl)) ?_
          refine L.va rfl (X.len rfl Try.underlying22) ?_
          refine L.va rfl (X.lss rfl rfl) ?_
          refine L.nil ?_
          refine J.dec rfl (fun hlt2 => ?_) (fun hlt2 => ?_)
          · have hi1 : j < a.o.length := by omega
            have hi2 : j < b.o.length := by omega
            have hA := k3.some_ (by omega)
            have hB := k4.some_ (by omega)
            refine J.skip ?_
            refine J.seq ?_
            refine J.block ?_
            refine J.seq ?_
            refine J.quiet mixed (by kernel_rfl) ?_
            refine Qt.va rfl (fun w' hw => X.fieldAddr rfl Try.underlying54 rfl sz_22 (by decide)) ?_
            refine Qt.va rfl (fun w' hw => X.load rfl sc_22 (by first | exact Ld.blk (hk5.ext hw) rfl | exact Ld.blk (hk15.ext hw) rfl | exact hA | exact hB)) ?_
            refine Qt.va rfl (fun w' hw => X.move (by conv => lhs; whnf)) ?_
            refine Qt.va rfl (fun w' hw => (by first | exact X.indexAddrn rfl rfl Try.underlying22 sz_98 (by first | exact Option.some_ne_none _ | exact hA | exact hB) (by omega) | exact X.indexAddr rfl rfl Try.underlying22 sz_98 (by first | exact Option.some_ne_none _ | exact hA | exact hB) (by omega))) ?_
            refine Qt.va rfl (fun w' hw => X.loadRow (cs := oV (a.o.getD j o0)) rfl (k3.ext hw) (fun r u hu => flat_row oV_len (gtO hi1) r u hu) (Nat.zero_lt_succ _) Try.underlying98 rfl (by kernel_rfl)) ?_
            refine Qt.va rfl (fun w' hw => X.fieldAddr rfl Try.underlying54 rfl sz_22 (by decide)) ?_
            refine Qt.va rfl (fun w' hw => X.load rfl sc_22 (by first | exact Ld.blk (hk5.ext hw) rfl | exact Ld.blk (hk15.ext hw) rfl | exact hA | exact hB)) ?_
            refine Qt.va rfl (fun w' hw => X.move (by conv => lhs; whnf)) ?_
            refine Qt.va rfl (fun w' hw => (by first | exact X.indexAddrn rfl rfl Try.underlying22 sz_98 (by first | exact Option.some_ne_none _ | exact hA | exact hB) (by omega) | exact X.indexAddr rfl rfl Try.underlying22 sz_98 (by first | exact Option.some_ne_none _ | exact hA | exact hB) (by omega))) ?_
            refine Qt.va rfl (fun w' hw => X.loadRow (cs := oV (b.o.getD j o0)) rfl (k4.ext hw) (fun r u hu => flat_row oV_len (gtO hi2) r u hu) (Nat.zero_lt_succ _) Try.underlying98 rfl (by kernel_rfl)) ?_
            refine Qt.va rfl (fun w' hw => X.neqTwo two_srt rfl rfl sc_3 sc_4 (eq_int Try.underlying3) (eq_boo Try.underlying4)) ?_
            refine Qt.nil (fun w6 hq => ?_)
            replace hk5 := hk5.ext hq
            replace hk15 := hk15.ext hq
            by_cases hd : a.o.getD j o0 = b.o.getD j o0
            · rw [pneF hd]
              refine J.iteF rfl ?_
              refine J.skip ?_
              refine J.region ?_
              refine L.va rfl (X.move (by conv => lhs; whnf)) ?_
              refine L.va rfl (X.add rfl rfl (by omega)) ?_
              refine L.va rfl (X.assign (by conv => lhs; whnf)) ?_
              refine L.nil ?_
              refine ⟨j + 1, At1 (by first | rfl | exact at_int rfl (by omega) | exact at_slice rfl (by omega) | exact at_int rfl (by simp)), (by (iterate 19 refine Agr.lk rfl ?_); exact Agr.lk rfl (Agr.hav rfl Agr.rfl')), ?_⟩
              refine ⟨⟨by omega, fun q hq' => ?_, he5.trans hq⟩, by omega⟩
              rcases Nat.lt_or_ge q j with h | h
              · exact hQ q h
              · obtain rfl : q = j := by omega
                exact hd
            · rw [show decide (a.Eqv b) = false from decide_eq_false (fun e => hd (by rw [e.o]))]
              rw [pneT hd]
              refine J.iteT rfl ?_
              refine J.seq ?_
              refine J.region ?_
              refine L.va rfl (X.assign (by conv => lhs; whnf)) ?_
              refine L.nil ?_
              refine J.ret ?_
              refine inB_ret <|  thn_ret <|  thn_ret <|  inB_ret <|  thn_ret <| ?_
              refine fin1 ?_
              exact ⟨rfl, (he04.trans he5).trans hq⟩
          · have hoe : a.o = b.o := lst_eq o0 (by omega) (fun q hq' => hQ q (by omega))
            rw [show decide (a.Eqv b) = true from decide_eq_true ⟨by omega, by omega, hce, hoe, h5⟩]
            refine J.exit ?_
            refine J.seq ?_
            refine J.region ?_
            refine L.va rfl (X.assign (by conv => lhs; whnf)) ?_
            refine L.nil ?_
            refine J.ret ?_
            refine fin1 ?_
            exact ⟨rfl, he04.trans he5⟩
  · rw [decide_eq_false h5]
    refine J.iteT rfl ?_
    rw [show decide (a.Eqv b) = false from decide_eq_false (fun e => h5 e.f)]
    refine J.seq ?_
    refine J.region ?_
    refine L.va rfl (X.assign (by conv => lhs; whnf)) ?_
    refine L.nil ?_
    refine J.ret ?_
    refine thn_ret <| ?_
    refine fin1 ?_
    exact ⟨rfl, he03⟩
end Go.Proofs.Ytlipeplfjkgamaa
namespace Go.Proofs.Ytlipeplfjkgamaa
set_option maxRecDepth 100000
open Go.RowKit H
open Byts Cod
set_option linter.unusedVariables false
theorem says_qc {r : Qu} {c : QC} (h : Says r c) : qcOf r = c := by
  obtain ⟨g, f, c', o, m⟩ := c
  obtain ⟨h1, h2, h3, h4, h5⟩ := h
  unfold qcOf
  dsimp only at h1 h2 h3 h4 h5
  rw [h1, h2, h3, h4, h5]
theorem law_QueryGets (w : World) (vs0 : List Value) (a0 : (List ((Str) × (Nm .i64))) × (List (Str)) × (List (Str)) × (List (Nm .u32))) (hl0 : Lay.lies w w.heap.size vs0 a0) (A1 : Option Addr) (n1 c1 : Nat) (xs1 : List (Nm .u8)) (hn1 : n1 ≤ c1) (hc1 : c1 ≤ maxLen) (hA1 : A1 = none → c1 = 0) (hl1 : LiesSlice w w.heap.size A1 n1 xs1) :
    Calls Try.prog 8 #[.agg vs0.toArray, .slice A1 n1 c1] w fun e w' => e = .returned (.bool true) ∧ Below w.heap.size w w' := by
  obtain ⟨s, rfl, hH⟩ := sch_of hl0
  have hr0 := hl1.reads
  have hz : ∀ z ∈ zsOf xs1, 0 ≤ z ∧ z < 256 := zsOf_u8 xs1
  obtain ⟨zs, hzs⟩ : ∃ zs, zs = zsOf xs1 := ⟨_, rfl⟩
  rw [← hzs] at hr0 hz
  unfold maxLen at hc1
  refine enter Try.func8 rfl (by kernel_rfl) ?_
  refine J.seq ?_
  refine J.region ?_
  refine L.boxA (l := [_, _, _, _]) rfl rfl ?_
  intro b1 w1 hb1 hs1 hk1 he1
  refine L.va rfl (X.assign (by conv => lhs; whnf)) ?_
  refine L.nil ?_
  refine J.seq ?_
  refine J.seq ?_
  refine J.region ?_
  refine L.va rfl ((by first | exact X.loadAgg rfl (range_l hk1) Try.underlying49 rfl (by kernel_rfl) | exact X.loadAgg rfl (range_blk hk1) Try.underlying49 rfl (by kernel_rfl))) ?_
  refine L.call rfl en_29 rfl ((hH.ext he1).light) ?_
  rintro e w3 ⟨l1, rfl, hl1', he3⟩
  refine ⟨_, rfl, ?_⟩
  have he3 : Ext w1 w3 := he3
  have he03 := he1.trans he3
  replace hk1 := hk1.ext he3
  refine L.va rfl (X.not rfl) ?_
  refine L.va rfl (X.move (by conv => lhs; whnf)) ?_
  cases l1
  · refine L.caseBT (k := 12) rfl (by rfl) ?_
    refine L.no rfl ?_
    refine L.no rfl ?_
    refine L.no rfl ?_
    refine L.va rfl (X.pickT rfl (by conv => lhs; whnf)) ?_
    refine L.nil ?_
    refine J.iteT rfl ?_
    refine J.seq ?_
    refine J.region ?_
    refine L.call rfl en_31 rfl (awake29 _) ?_
    rintro e w4 ⟨rfl, he4⟩
    refine ⟨_, rfl, ?_⟩
    refine L.va rfl (X.assign (by conv => lhs; whnf)) ?_
    refine L.nil ?_
    refine J.ret ?_
    refine thn_ret <| ?_
    refine fin1 ?_
    exact ⟨rfl, he03.trans he4⟩
  · refine L.caseBF (k := 12) rfl (by rfl) ?_
    refine L.va rfl (X.move (by conv => lhs; whnf)) ?_
    refine L.va rfl (X.len rfl Try.underlying30) ?_
    refine L.va rfl (X.gtr rfl rfl) ?_
    refine L.va rfl (X.pickF rfl (by conv => lhs; whnf)) ?_
    refine L.nil ?_
    refine J.dec rfl (fun hlen => ?_) (fun hlen => ?_)
    · refine J.seq ?_
      refine J.region ?_
      refine L.call rfl en_31 rfl (awake29 _) ?_
      rintro e w4 ⟨rfl, he4⟩
      refine ⟨_, rfl, ?_⟩
      refine L.va rfl (X.assign (by conv => lhs; whnf)) ?_
      refine L.nil ?_
      refine J.ret ?_
      refine thn_ret <| ?_
      refine fin1 ?_
      exact ⟨rfl, he03.trans he4⟩
    · have H3 := (hH.ext he03).here (hl1' rfl)
      have z3 := he03.le
      have hn1000 : n1 ≤ 1000 := by omega
      refine J.skip ?_
      refine J.seq ?_
      refine J.region ?_
      refine L.va rfl ((by first | exact X.loadAgg rfl (range_l hk1) Try.underlying49 rfl (by kernel_rfl) | exact X.loadAgg rfl (range_blk hk1) Try.underlying49 rfl (by kernel_rfl))) ?_
      refine L.va rfl (X.move (by conv => lhs; whnf)) ?_
      refine L.call rfl en_40 rfl (qget (c := c1) H3 ((hr0.ext he03).more z3) hz (by omega)) ?_
      rintro e w4 ⟨r, x, rfl, hr, hG, he4⟩
      refine ⟨_, rfl, ?_⟩
      have he04 := he03.trans he4
      replace hk1 := hk1.ext he4
      refine L.va rfl (X.move (by conv => lhs; whnf)) ?_
      refine L.va rfl (X.extract rfl rfl) ?_
      refine L.va rfl (X.extract rfl rfl) ?_
      refine L.alloc rfl zr_54 ?_
      intro b5 w5 hb5 hs5 hk5 he5
      replace hk1 := hk1.ext he5
      refine L.storeAgg (vs := [_, _, _, _, _]) rfl rfl rfl rfl sz_54 (hk5) rfl ?_
      intro w6 hk6 hg6 hs6
      have he46 : Ext w4 w6 := he5.grw hg6 (by intro g hg; injection hg with hg; omega)
      have hk6 : Blk w6 b5 54 r.vs.toArray := hk6
      have lb1 := hk1.lt
      have n15 : b1 ≠ b5 := by
        intro e
        have h1 := he1.le
        have h2 := he3.le
        have h3 := he4.le
        omega
      have hk16 := hk1.grown hg6 (by intro e; injection e with e; exact n15 e)
      have he36 := he4.trans he46
      have he06 := he03.trans he36
      have H6 := H3.ext he36
      have R6 := hr.ext he46
      refine L.va rfl (X.assign (by conv => lhs; whnf)) ?_
      refine L.nil ?_
      refine J.seq ?_
      refine J.region ?_
      refine L.va rfl ((by first | exact X.loadAgg rfl (range_l hk16) Try.underlying49 rfl (by kernel_rfl) | exact X.loadAgg rfl (range_blk hk16) Try.underlying49 rfl (by kernel_rfl))) ?_
      refine L.va rfl (X.move (by conv => lhs; whnf)) ?_
      refine L.call rfl en_41 rfl (rqget (c := c1) H6 ((hr0.ext he06).more he06.le) hz (by omega) hn1) ?_
      rintro e w7 ⟨r', x', rfl, hr', hG', he7⟩
      refine ⟨_, rfl, ?_⟩
      obtain ⟨ex, ev⟩ := hG.same hG'
      subst ex
      have hk57 := hk6.ext he7
      have he67 := he7
      refine L.va rfl (X.move (by conv => lhs; whnf)) ?_
      refine L.va rfl (X.extract rfl rfl) ?_
      refine L.va rfl (X.extract rfl rfl) ?_
      refine L.alloc rfl zr_54 ?_
      intro b8 w8 hb8 hs8 hk8 he8
      refine L.storeAgg (vs := [_, _, _, _, _]) rfl rfl rfl rfl sz_54 (hk8) rfl ?_
      intro w9 hk9 hg9 hs9
      have he79 : Ext w7 w9 := he8.grw hg9 (by intro g hg; injection hg with hg; omega)
      have hk9 : Blk w9 b8 54 r'.vs.toArray := hk9
      have hk59 := hk57.ext he79
      have he69 := he7.trans he79
      have he09 := he06.trans he69
      have R9 := (R6.ext he69)
      have R9' := (hr'.ext he79)
      have q1 := he46.le
      have q2 := he7.le
      have q3 := he79.le
      refine L.va rfl (X.assign (by conv => lhs; whnf)) ?_
      refine L.nil ?_
      refine J.seq ?_
      refine J.draw (ℓ := 1000000) (S := Ext w9) mixed (fun wa hS hS_h => ?_)
      refine D.va 0 rfl (by kernel_rfl) (fun _ _ _ h => h) rfl (fun w' hw => X.move (by conv => lhs; whnf)) hS ?_
      refine D.va 1 rfl (by kernel_rfl) (fun _ _ _ h => h) rfl (fun w' hw => X.move (by conv => lhs; whnf)) hS ?_
      refine D.va 2 rfl (by kernel_rfl) (fun _ _ _ h => h) rfl (fun w' hw => X.eql rfl rfl) hS ?_
      refine D.va 3 rfl (by kernel_rfl) (fun _ _ _ h => h) rfl (fun w' hw => X.move (by conv => lhs; whnf)) hS ?_
      refine D.caseDecT (k := 33) rfl (by rfl) ?_
      refine D.va 4 rfl (by kernel_rfl) (fun _ _ _ h => h) rfl (fun w' hw => (by first | exact X.loadAgg rfl (range_l (hk59.ext hw)) Try.underlying54 rfl (by kernel_rfl) | exact X.loadAgg rfl (range_blk (hk59.ext hw)) Try.underlying54 rfl (by kernel_rfl) | exact X.loadAgg rfl (range_l (hk9.ext hw)) Try.underlying54 rfl (by kernel_rfl) | exact X.loadAgg rfl (range_blk (hk9.ext hw)) Try.underlying54 rfl (by kernel_rfl))) hS ?_
      refine D.va 5 rfl (by kernel_rfl) (fun _ _ _ h => h) rfl (fun w' hw => (by first | exact X.loadAgg rfl (range_l (hk59.ext hw)) Try.underlying54 rfl (by kernel_rfl) | exact X.loadAgg rfl (range_blk (hk59.ext hw)) Try.underlying54 rfl (by kernel_rfl) | exact X.loadAgg rfl (range_l (hk9.ext hw)) Try.underlying54 rfl (by kernel_rfl) | exact X.loadAgg rfl (range_blk (hk9.ext hw)) Try.underlying54 rfl (by kernel_rfl))) hS ?_
      refine D.one 6 (by kernel_rfl) rfl ?_
      refine L.call rfl en_37 rfl (rqsame (a := r') (b := r) ((R9'.ext hS).more (by have := hS.le; omega)) ((R9.ext hS).more (by have := hS.le; omega))) ?_
      rintro e wb ⟨rfl, heb⟩
      refine ⟨_, rfl, ?_⟩
      have hS1 := hS.trans heb
      refine L.nil ?_
      refine ⟨fun _ => hS1, ?_⟩
      refine D.va 7 rfl (by kernel_rfl) (fun _ _ _ h => h) rfl (fun w' hw => X.pickT rfl (by conv => lhs; whnf)) hS1 ?_
      refine D.va 8 rfl (by kernel_rfl) (fun _ _ _ h => h) rfl (fun w' hw => X.move (by conv => lhs; whnf)) hS1 ?_
      refine D.caseBT (k := 38) rfl (by exact decide_eq_true ⟨ev.g.symm, ev.m.symm, ev.c.symm, ev.o.symm, ev.f.symm⟩) ?_
      refine D.va 9 rfl (by kernel_rfl) (fun _ _ _ h => h) rfl (fun w' hw => X.move (by conv => lhs; whnf)) hS1 ?_
      refine D.va 10 rfl (by kernel_rfl) (fun _ _ _ h => h) rfl (fun w' hw => X.neq rfl rfl) hS1 ?_
      refine D.va 11 rfl (by kernel_rfl) (fun _ _ _ h => h) rfl (fun w' hw => X.move (by conv => lhs; whnf)) hS1 ?_
      by_cases hx : x = 0
      · subst hx
        have hs0 : s.code = 0 := Decidable.byContradiction fun h => absurd (hG'.bad h).1 (by decide)
        have hE : rdE zs (h4 zs).2 = 0 := Decidable.byContradiction fun h => h (hG'.cut hs0 h).1.symm
        obtain ⟨a, a1, _, _, _, a5⟩ := hG'.not hs0 hE
        have hra := a5 rfl
        subst hra
        have eqc := says_qc a1
        have F : QFits (qcOf r') := by rw [eqc]; exact qg_fits hz
        have eqb : qb (qcOf r') = zs := by rw [eqc]; exact qb_qg hz hE
        refine D.caseNdecF (k := 41) rfl (by rfl) ?_
        refine D.va 12 rfl (by kernel_rfl) (fun _ _ _ h => h) rfl (fun w' hw => (by first | exact X.loadAgg rfl (range_l (hk59.ext hw)) Try.underlying54 rfl (by kernel_rfl) | exact X.loadAgg rfl (range_blk (hk59.ext hw)) Try.underlying54 rfl (by kernel_rfl) | exact X.loadAgg rfl (range_l (hk9.ext hw)) Try.underlying54 rfl (by kernel_rfl) | exact X.loadAgg rfl (range_blk (hk9.ext hw)) Try.underlying54 rfl (by kernel_rfl))) hS1 ?_
        refine D.va 15 rfl (by kernel_rfl) (fun _ _ _ h => h) rfl (fun w' hw => X.move (by conv => lhs; whnf)) hS1 ?_
        refine D.va 16 rfl (by kernel_rfl) (fun _ _ _ h => h) rfl (fun w' hw => X.conv rfl (((hr0.ext he09).ext hw).conv Try.underlying30 Try.underlying5 Try.underlying9)) hS1 ?_
        refine D.one 13 (by kernel_rfl) rfl ?_
        refine L.call rfl en_42 rfl (rqput (q := r') ((R9'.ext hS1).more (by have := hS1.le; omega)) F) ?_
        rintro e wc ⟨Ac, cc, rfl, hoc, hec⟩
        refine ⟨_, rfl, ?_⟩
        have hS2 := hS1.trans hec
        refine L.nil ?_
        refine ⟨fun _ => hS2, ?_⟩
        rw [eqb] at hoc
        rw [eqb]
        refine D.one 14 (by kernel_rfl) rfl ?_
        refine L.va rfl (X.conv rfl ((own_reads hoc).conv Try.underlying30 Try.underlying5 Try.underlying9)) ?_
        refine L.nil ?_
        refine ⟨fun _ => hS2, ?_⟩
        refine D.va 17 rfl (by kernel_rfl) (fun _ _ _ h => h) rfl (fun w' hw => X.eqlS rfl rfl) hS2 ?_
        refine D.va 18 rfl (by kernel_rfl) (fun _ _ _ h => h) rfl (fun w' hw => X.pickF rfl (by conv => lhs; whnf)) hS2 ?_
        refine D.va 19 rfl (by kernel_rfl) (fun _ _ _ h => h) rfl (fun w' hw => X.pickT rfl (by conv => lhs; whnf)) hS2 ?_
        refine D.va 20 rfl (by kernel_rfl) (fun _ _ _ h => h) rfl (fun w' hw => X.move (by conv => lhs; whnf)) hS2 ?_
        refine D.caseDecT (k := 50) rfl (by rfl) ?_
        refine D.one 21 (by kernel_rfl) rfl ?_
        refine L.call rfl en_31 rfl (awake29 wc) ?_
        rintro e wd ⟨rfl, hed⟩
        refine ⟨_, rfl, ?_⟩
        have hS3 := hS2.trans hed
        refine L.nil ?_
        refine ⟨fun _ => hS3, ?_⟩
        refine D.va 22 rfl (by kernel_rfl) (fun _ _ _ h => h) rfl (fun w' hw => X.pickT rfl (by conv => lhs; whnf)) hS3 ?_
        refine D.va 23 rfl (by kernel_rfl) (fun _ _ _ h => h) rfl (fun w' hw => X.assign (by conv => lhs; whnf)) hS3 ?_
        refine D.done (by kernel_rfl) ?_
        replace hk59 := hk59.ext hS3
        replace hk9 := hk9.ext hS3
        refine J.ret ?_
        refine fin1 ?_
        exact ⟨rfl, he09.trans hS3⟩
      · refine D.caseNdecT (k := 41) rfl (by exact hx) ?_
        refine D.no 12 rfl (by kernel_rfl) (fun _ _ _ h => h) rfl hS1 ?_
        refine D.no 13 rfl (by kernel_rfl) (fun _ _ _ h => h) rfl hS1 ?_
        refine D.no 14 rfl (by kernel_rfl) (fun _ _ _ h => h) rfl hS1 ?_
        refine D.no 15 rfl (by kernel_rfl) (fun _ _ _ h => h) rfl hS1 ?_
        refine D.no 16 rfl (by kernel_rfl) (fun _ _ _ h => h) rfl hS1 ?_
        refine D.no 17 rfl (by kernel_rfl) (fun _ _ _ h => h) rfl hS1 ?_
        refine D.va 18 rfl (by kernel_rfl) (fun _ _ _ h => h) rfl (fun w' hw => X.pickT rfl (by conv => lhs; whnf)) hS1 ?_
        refine D.va 19 rfl (by kernel_rfl) (fun _ _ _ h => h) rfl (fun w' hw => X.pickT rfl (by conv => lhs; whnf)) hS1 ?_
        refine D.va 20 rfl (by kernel_rfl) (fun _ _ _ h => h) rfl (fun w' hw => X.move (by conv => lhs; whnf)) hS1 ?_
        refine D.one 21 (by kernel_rfl) rfl ?_
        refine L.call rfl en_31 rfl (awake29 wb) ?_
        rintro e wc ⟨rfl, hec⟩
        refine ⟨_, rfl, ?_⟩
        have hS2 := hS1.trans hec
        refine L.nil ?_
        refine ⟨fun _ => hS2, ?_⟩
        refine D.va 22 rfl (by kernel_rfl) (fun _ _ _ h => h) rfl (fun w' hw => X.pickT rfl (by conv => lhs; whnf)) hS2 ?_
        refine D.va 23 rfl (by kernel_rfl) (fun _ _ _ h => h) rfl (fun w' hw => X.assign (by conv => lhs; whnf)) hS2 ?_
        refine D.done (by kernel_rfl) ?_
        replace hk59 := hk59.ext hS2
        replace hk9 := hk9.ext hS2
        refine J.ret ?_
        refine fin1 ?_
        exact ⟨rfl, he09.trans hS2⟩
end Go.Proofs.Ytlipeplfjkgamaa
