/-
  The disk's laws: the reference's New and Load; deeds as arguments; awake.
-/
import Derived.Test.YtdmfikedojgjbaaWDiskK
namespace Go.Proofs.Ytdmfikedojgjbaa
set_option maxRecDepth 100000
open Go.RowKit H
set_option linter.unusedVariables false
/-- a reference's disk in the making -/
structure RMk (w w' : World) (b2 b3 i : Nat) (A : Option Addr) (c : Nat) (kp : List Cell) (F : Nat → List Int) : Prop where
  h2 : Blk w' b2 44 #[.slice none 0 0, .slice none 0 0, .bool false, .int .i64 0, .int .i64 0, .int .i64 0, .int .i64 0]
  h3 : Blk w' b3 44 #[.slice A i c, .slice none 0 0, .bool false, .int .i64 (-1), .int .i64 0, .int .i64 0, .int .i64 0]
  hk : w'.ownsRow w.heap.size 30 1 (.slice A i c) i (kp.map (·.1))
  kd : ∀ x ∈ kp, Dat w' x.1 x.2
  hz : kp.map (·.2) = (List.range i).map F
  hl : kp.length = i
  he : Ext w w'
theorem rstep {w w2 w5 w6 w7 : World} {b2 b3 i : Nat} {A A6 : Option Addr} {c c4 c6 : Nat} {A4 : Option Addr} {kp : List Cell} {F : Nat → List Int} (M : RMk w w2 b2 b3 i A c kp F) (hb2 : w.heap.size ≤ b2) (hb3 : w.heap.size ≤ b3) (hne : b2 ≠ b3) (he : Ext w2 w5) (hD : Dat w5 (.slice A4 1024 c4) (F i))
    (ho6 : w6.ownsRow w.heap.size 30 1 (.slice A6 (i + 1) c6) (i + 1) ((kp ++ [(Value.slice A4 1024 c4, F i)]).map (·.1))) (hg6 : w5.grownBy w6 (Value.ownBlock (.slice A i c)))
    (hb36 : Blk w6 b3 44 #[.slice A i c, .slice none 0 0, .bool false, .int .i64 (-1), .int .i64 0, .int .i64 0, .int .i64 0]) (hg7 : w6.grownBy w7 (some b3)) (hb37 : Blk w7 b3 44 #[.slice A6 (i + 1) c6, .slice none 0 0, .bool false, .int .i64 (-1), .int .i64 0, .int .i64 0, .int .i64 0]) :
    RMk w w7 b2 b3 (i + 1) A6 c6 (kp ++ [(Value.slice A4 1024 c4, F i)]) F := by
  have hp5 := M.hk.ext he
  have hnk : ∀ g, (Value.slice A i c).ownBlock = some g → ¬ IsT w5 g 5 := fun g hg ht => absurd ((own_isT hp5 hg).1.fun_ ht) (by decide)
  have hnd : ∀ g, some b3 = some g → ¬ IsT w6 g 5 := fun g hg ht => by
    injection hg with hg
    subst hg
    exact absurd (hb36.isT.fun_ ht) (by decide)
  refine ⟨((M.h2.ext he).grown hg6 (fun e => own_blk_ne hp5 (M.h2.ext he) (by decide) e.symm)).grown hg7 (by intro e; injection e with e; exact hne e), hb37, ho6.kept hg7 (.inr (own_blk_ne ho6 hb36 (by decide))), fun x hx => ?_, ?_, ?_, ?_⟩
  · rcases List.mem_append.1 hx with hx | hx
    · exact (((M.kd x hx).ext he).grown hg6 hnk).grown hg7 hnd
    · obtain rfl : x = (Value.slice A4 1024 c4, F i) := by simpa using hx
      exact (hD.grown hg6 hnk).grown hg7 hnd
  · rw [List.map_append, M.hz, List.range_succ, List.map_append]
    rfl
  · rw [List.length_append, M.hl]
    rfl
  · exact ((M.he.trans he).grw hg6 (fun g hg => (own_isT hp5 hg).2)).grw hg7 (by intro g hg; injection hg with hg; omega)
/-- what it comes to -/
theorem rdone {w w2 w3 : World} {b2 b3 q : Nat} {A : Option Addr} {c : Nat} {kp : List Cell} {F : Nat → List Int} (M : RMk w w2 b2 b3 q A c kp F) (hb2 : w.heap.size ≤ b2) (hq : q ≤ 8192) (hg : w2.grownBy w3 (some b2)) {N0 : Nat} (hN0 : N0 ≤ w.heap.size) :
    ∃ r : Rk, r.v = .agg #[.slice A q c, .slice none 0 0, .bool false, .int .i64 (-1), .int .i64 0, .int .i64 0, .int .i64 0] ∧ r.At N0 w3 ∧ r.abs = ⟨(List.range q).map F, [], false, -1, 0, 0, 0⟩ ∧ Ext w w3 ∧ ∀ g, r.K.ownBlock = some g → w.heap.size ≤ g := by
  have he3 : Ext w w3 := M.he.grw hg (by intro g hg; injection hg with hg; omega)
  have hk3 := M.hk.kept hg (.inr (own_blk_ne M.hk M.h2 (by decide)))
  have hz3 := he3.le
  refine ⟨⟨A, c, none, 0, kp, [], false, -1, 0, 0, 0⟩, ?_, ⟨?_, own_nil _ _ _ _, fun x hx => .inl ((M.kd x hx).grown hg ?_), (fun x hx => by cases hx), ?_, by omega⟩, ?_, he3, ?_⟩
  · unfold Rk.v Rk.vals Rk.K
    dsimp only
    rw [M.hl]
    rfl
  · unfold Rk.K
    dsimp only
    rw [M.hl]
    exact hk3.mono hN0
  · intro g hg ht
    injection hg with hg
    subst hg
    exact absurd (M.h2.isT.fun_ ht) (by decide)
  · dsimp only
    rw [M.hl]
    exact hq
  · unfold Rk.abs abs_
    dsimp only
    rw [M.hz]
    rfl
  · intro g hg
    have hg' : Value.ownBlock (.slice A kp.length c) = some g := hg
    rw [M.hl] at hg'
    exact (hk3.lt g hg').1
theorem refnew {w : World} (q : Nat) (hq : q ≤ 8192) {N0 : Nat} (hN0 : N0 ≤ w.heap.size) : Calls Try.prog 26 #[.int .i64 (q : Int)] w fun e w' =>
    ∃ r : Rk, e = .returned r.v ∧ r.At N0 w' ∧ r.abs = ⟨(List.range q).map (fun _ => List.replicate 1024 0), [], false, -1, 0, 0, 0⟩ ∧ Ext w w' ∧ ∀ g, r.K.ownBlock = some g → w.heap.size ≤ g := by
  refine enter Try.func26 rfl (by kernel_rfl) ?_
  refine J.seq ?_
  refine J.region ?_
  -- alloc
  refine L.alloc rfl zr_44 ?_
  intro b2 w1 hb2 hs1 hk2 he1
  refine L.nil ?_
  refine J.seq ?_
  refine J.region ?_
  refine L.va rfl (X.build (l := [_, _, _, _, _, _, _]) (Evs.cons (by conv => lhs; whnf) Evs.nil) (bld_run Try.underlying44 (bp_44 Try.underlying44) zr_44 rfl)) ?_
  -- alloc
  refine L.alloc rfl zr_44 ?_
  intro b3 w2 hb3 hs2 hk3 he2
  -- store
  refine L.storeAgg (vs := [_, _, _, _, _, _, _]) rfl rfl rfl rfl sz_44 (hk3) rfl ?_
  intro w3 hk33 hg3 hs3
  have hk23 := (hk2.ext he2).grown hg3 (by intro e; injection e with e; omega)
  have he3 : Ext w w3 := (he1.trans he2).grw hg3 (by intro g hg; injection hg with hg; omega)
  refine L.nil ?_
  refine J.seq ?_
  refine J.seq ?_
  refine J.region ?_
  refine L.va rfl (X.assign (by conv => lhs; whnf)) ?_
  refine L.nil ?_
  refine J.block ?_
  -- loop
  refine J.loop (X := Nat × Option Addr × Nat × List Cell) [4, 6, 7, 8, 9, 10, 11, 12, 13, 14, 15, 16] (fun x => [(4, .int .i64 (x.1 : Int))]) (fun x w' => x.1 ≤ q ∧ RMk w w' b2 b3 x.1 x.2.1 x.2.2.1 x.2.2.2 (fun _ => List.replicate 1024 0)) (fun x => q - x.1) ((0, none, 0, [])) (At1 (by first | rfl | exact at_int rfl (by omega) | exact at_slice rfl (by omega) | exact at_int rfl (by simp))) ?_ ?_
  · exact ⟨Nat.zero_le _, hk23, hk33, own_nil _ _ _ _, (fun x hx => by cases hx), rfl, rfl, he3⟩
  · rintro ⟨i, A, c, kp⟩ g w4 ⟨hi, M⟩
    dsimp only at hi M
    have q1 : ((i, A, c, kp) : Nat × Option Addr × Nat × List Cell).1 = i := rfl
    refine J.seq ?_
    refine J.seq ?_
    refine J.region ?_
    refine L.va rfl (X.move (by conv => lhs; whnf)) ?_
    refine L.va rfl (X.move (by conv => lhs; whnf)) ?_
    refine L.va rfl (X.lss rfl rfl) ?_
    refine L.nil ?_
    -- cond
    refine J.dec rfl (fun hlt => ?_) (fun hlt => ?_)
    · have hlt' : i < q := by dsimp only at hlt; omega
      refine J.skip ?_
      refine J.seq ?_
      refine J.block ?_
      -- draw
      refine J.draw (ℓ := 6) (S := (fun w' => Blk w' b3 44 #[.slice A i c, .slice none 0 0, .bool false, .int .i64 (-1), .int .i64 0, .int .i64 0, .int .i64 0])) mixed (fun w5 hSE hS_h => ?_)
      have hS : ((fun w' => Blk w' b3 44 #[.slice A i c, .slice none 0 0, .bool false, .int .i64 (-1), .int .i64 0, .int .i64 0, .int .i64 0])) w5 := M.h3.ext hSE
      -- t12
      refine D.va 0 rfl (by kernel_rfl) (fun _ _ _ h => h) rfl (fun w' hw => X.fieldAddr rfl Try.underlying44 rfl sz_41 (by decide)) hS ?_
      refine D.va 1 rfl (by kernel_rfl) (fun _ _ _ h => h) rfl (fun w' hw => X.load rfl sc_41 (Ld.blk hw rfl)) hS ?_
      -- makeSlice
      refine D.one 2 (by kernel_rfl) rfl ?_
      refine L.make (q := 1024) (c := 1024) rfl rfl rfl Try.underlying30 el_5 (by omega) ?_
      intro b6 w6 hb6 hs6 hk6 he6
      have hS1 := hS.ext he6
      refine L.nil ?_
      refine ⟨fun _ => hS1, ?_⟩
      rw [made_nums] at hk6
      have hD6 : Dat w6 (.slice (some ⟨b6, 0, none⟩) 1024 1024) (List.replicate 1024 0) := Dat.of_own (base := 0) (by
        have := blk_own1 (base := 0) (q := 1024) hk6 (Nat.zero_le _) (by decide) (by simp [nums])
        exact this)
      -- buildSlice
      refine D.one 3 (by kernel_rfl) rfl ?_
      refine L.bslice (vs := [_]) rfl (Evs.cons (by conv => lhs; whnf) Evs.nil) rfl rfl rfl rfl Try.underlying41 sz_30 zr_30 (by decide) ?_
      intro b7 w7 hb7 hs7 hk7 he7
      have hS2 := hS1.ext he7
      refine L.nil ?_
      refine ⟨fun _ => hS2, ?_⟩
      have he57 : Ext w4 w7 := (hSE.trans he6).trans he7
      have hp7 := M.hk.ext he57
      have hz7 := (M.he.trans he57).le
      have hne7 : some b3 ≠ Value.ownBlock (.slice A i c) := fun e => own_blk_ne hp7 hS2 (by decide) e.symm
      -- append
      refine D.one 4 (by kernel_rfl) rfl ?_
      refine L.appendV (q := i + 1) (ys := (kp ++ [(Value.slice (some ⟨b6, 0, none⟩) 1024 1024, List.replicate 1024 0)]).map (fun p : Cell ↦ p.1)) rfl rfl rfl Try.underlying41 el_30 (hp7) (blk_readsN (sz := 1) (q := 1) (l := [.slice (some ⟨b6, 0, none⟩) 1024 1024]) hk7 (by omega : b7 < w7.heap.size) rfl) (by first | rfl | exact strs_ones _ | assumption) (by omega) (by simp) (by unfold maxLen; omega) (by omega) ?_
      intro A8 c8 w8 ho8 hg8 hb8 hor8
      have hS3 := hS2.grown hg8 hne7
      refine L.nil ?_
      refine ⟨fun _ => hS3, ?_⟩
      refine D.va 5 rfl (by kernel_rfl) (fun _ _ _ h => h) rfl (fun w' hw => X.fieldAddr rfl Try.underlying44 rfl sz_41 (by decide)) hS3 ?_
      -- store
      refine D.one 6 (by kernel_rfl) rfl ?_
      refine L.store rfl rfl (by conv => lhs; whnf) rfl sz_41 (hS3) (by first | decide | exact Nat.le_of_ble_eq_true rfl) ?_
      intro w9 hk9 hg9 hs9
      refine L.nil ?_
      refine ⟨fun h => absurd rfl h, ?_⟩
      refine D.done (by kernel_rfl) ?_
      refine J.region ?_
      refine L.va rfl (X.move (by conv => lhs; whnf)) ?_
      refine L.va rfl (X.add rfl rfl (by omega)) ?_
      refine L.va rfl (X.assign (by conv => lhs; whnf)) ?_
      refine L.nil ?_
      -- loopend
      refine ⟨(i + 1, A8, c8, kp ++ [(Value.slice (some ⟨b6, 0, none⟩) 1024 1024, List.replicate 1024 0)]), At1 (by first | rfl | exact at_int rfl (by omega) | exact at_slice rfl (by omega) | exact at_int rfl (by simp)), (by (iterate 12 refine Agr.lk rfl ?_); exact Agr.lk rfl (Agr.hav rfl Agr.rfl')), ?_⟩
      exact ⟨⟨by dsimp only; omega, rstep M (by omega) (by omega) (by omega) he57 (hD6.ext he7) ho8 hg8 hS3 hg9 hk9⟩, by dsimp only; omega⟩
    · obtain rfl : i = q := by dsimp only at hlt; omega
      have hk4 := M.h3
      refine J.exit ?_
      refine J.seq ?_
      refine J.region ?_
      refine L.va rfl ((by first | exact X.loadAgg rfl (range_l hk4) Try.underlying44 rfl (by kernel_rfl) | exact X.loadAgg rfl (range_blk hk4) Try.underlying44 rfl (by kernel_rfl))) ?_
      -- store
      refine L.storeAgg (vs := [_, _, _, _, _, _, _]) rfl rfl rfl rfl sz_44 (M.h2) rfl ?_
      intro w5 hk5 hg5 hs5
      refine L.nil ?_
      -- ret
      refine J.ret ?_
      -- results [['ResultVar.cell', 2, 44]]
      obtain ⟨r, e, k1, k2, k3, k4⟩ := rdone M (by omega) hq hg5 hN0
      refine finC rfl (run_cell hk5 Try.underlying44 rfl (by kernel_rfl)) ?_
      exact ⟨r, by rw [e], k1, k2, k3, k4⟩
theorem refload {w : World} (A0 : Option Addr) (q c0 : Nat) (zs : List Int) (hr : Reads w w.heap.size 1 A0 (q * 1024) (nums .u8 zs)) (hc : q * 1024 ≤ c0) (hq : q ≤ 8192) {N0 : Nat} (hN0 : N0 ≤ w.heap.size) : Calls Try.prog 28 #[.slice A0 (q * 1024) c0] w fun e w' =>
    ∃ r : Rk, e = .returned r.v ∧ r.At N0 w' ∧ r.abs = ⟨(List.range q).map (ck zs), [], false, -1, 0, 0, 0⟩ ∧ Ext w w' ∧ ∀ g, r.K.ownBlock = some g → w.heap.size ≤ g := by
  have e0 : ((q * 1024 : Nat) : Int) / 1024 = q := by omega
  refine enter Try.func28 rfl (by kernel_rfl) ?_
  refine J.seq ?_
  refine J.region ?_
  -- alloc
  refine L.alloc rfl zr_44 ?_
  intro b2 w1 hb2 hs1 hk2 he1
  refine L.nil ?_
  refine J.seq ?_
  refine J.region ?_
  refine L.va rfl (X.build (l := [_, _, _, _, _, _, _]) (Evs.cons (by conv => lhs; whnf) Evs.nil) (bld_run Try.underlying44 (bp_44 Try.underlying44) zr_44 rfl)) ?_
  -- alloc
  refine L.alloc rfl zr_44 ?_
  intro b3 w2 hb3 hs2 hk3 he2
  -- store
  refine L.storeAgg (vs := [_, _, _, _, _, _, _]) rfl rfl rfl rfl sz_44 (hk3) rfl ?_
  intro w3 hk33 hg3 hs3
  have hk23 := (hk2.ext he2).grown hg3 (by intro e; injection e with e; omega)
  have he3 : Ext w w3 := (he1.trans he2).grw hg3 (by intro g hg; injection hg with hg; omega)
  refine L.nil ?_
  refine J.seq ?_
  refine J.seq ?_
  refine J.region ?_
  refine L.va rfl (X.assign (by conv => lhs; whnf)) ?_
  refine L.nil ?_
  refine J.block ?_
  -- loop
  refine J.loop (X := Nat × Option Addr × Nat × List Cell) [4, 6, 7, 8, 9, 10, 11, 12, 13, 14, 15, 16, 17, 18, 19, 20, 21, 22, 23, 24, 25, 26] (fun x => [(4, .int .i64 (x.1 : Int))]) (fun x w' => x.1 ≤ q ∧ RMk w w' b2 b3 x.1 x.2.1 x.2.2.1 x.2.2.2 (ck zs)) (fun x => q - x.1) ((0, none, 0, [])) (At1 (by first | rfl | exact at_int rfl (by omega) | exact at_slice rfl (by omega) | exact at_int rfl (by simp))) ?_ ?_
  · exact ⟨Nat.zero_le _, hk23, hk33, own_nil _ _ _ _, (fun x hx => by cases hx), rfl, rfl, he3⟩
  · rintro ⟨i, A, c, kp⟩ g w4 ⟨hi, M⟩
    dsimp only at hi M
    have q1 : ((i, A, c, kp) : Nat × Option Addr × Nat × List Cell).1 = i := rfl
    refine J.seq ?_
    refine J.seq ?_
    refine J.region ?_
    refine L.va rfl (X.move (by conv => lhs; whnf)) ?_
    refine L.va rfl (X.move (by conv => lhs; whnf)) ?_
    refine L.va rfl (X.len rfl Try.underlying30) ?_
    refine L.va rfl (X.quo rfl rfl (by omega)) ?_
    refine L.va rfl (X.lss rfl rfl) ?_
    refine L.nil ?_
    -- cond
    refine J.dec rfl (fun hlt => ?_) (fun hlt => ?_)
    · have hlt' : i < q := by
        have h7 : ((i : Nat) : Int) < ((q * 1024 : Nat) : Int) / 1024 := hlt
        omega
      refine J.skip ?_
      refine J.seq ?_
      refine J.block ?_
      -- draw
      refine J.draw (ℓ := 14) (S := (fun w' => Blk w' b3 44 #[.slice A i c, .slice none 0 0, .bool false, .int .i64 (-1), .int .i64 0, .int .i64 0, .int .i64 0])) mixed (fun w5 hSE hS_h => ?_)
      have hS : ((fun w' => Blk w' b3 44 #[.slice A i c, .slice none 0 0, .bool false, .int .i64 (-1), .int .i64 0, .int .i64 0, .int .i64 0])) w5 := M.h3.ext hSE
      -- t14
      -- t22
      refine D.va 0 rfl (by kernel_rfl) (fun _ _ _ h => h) rfl (fun w' hw => X.fieldAddr rfl Try.underlying44 rfl sz_41 (by decide)) hS ?_
      refine D.va 1 rfl (by kernel_rfl) (fun _ _ _ h => h) rfl (fun w' hw => X.load rfl sc_41 (Ld.blk hw rfl)) hS ?_
      refine D.va 3 rfl (by kernel_rfl) (fun _ _ _ h => h) rfl (fun w' hw => X.move (by conv => lhs; whnf)) hS ?_
      refine D.va 4 rfl (by kernel_rfl) (fun _ _ _ h => h) rfl (fun w' hw => X.move (by conv => lhs; whnf)) hS ?_
      refine D.va 5 rfl (by kernel_rfl) (fun _ _ _ h => h) rfl (fun w' hw => X.mul rfl rfl (by omega)) hS ?_
      refine D.va 6 rfl (by kernel_rfl) (fun _ _ _ h => h) rfl (fun w' hw => X.move (by conv => lhs; whnf)) hS ?_
      refine D.va 7 rfl (by kernel_rfl) (fun _ _ _ h => h) rfl (fun w' hw => X.mul rfl rfl (by omega)) hS ?_
      refine D.va 8 rfl (by kernel_rfl) (fun _ _ _ h => h) rfl (fun w' hw => X.add rfl rfl (by omega)) hS ?_
      refine D.va 9 rfl (by kernel_rfl) (fun _ _ _ h => h) rfl (fun w' hw => X.slicen (i := 1024 * i) (j := 1024 * i + 1024) rfl rfl rfl Try.underlying30 sz_5 (by omega)) hS ?_
      -- buildSlice
      have E5 : Ext w w5 := M.he.trans hSE
      have hrp := part_nums (c := c0) (i := 1024 * i) (j := 1024 * i + 1024) (hr.ext E5) (by omega) (by omega) hc
      rw [show 1024 * i + 1024 - 1024 * i = 1024 by omega] at hrp
      have e22 : (zs.drop (1024 * i)).take 1024 = ck zs i := rfl
      rw [e22] at hrp
      rw [show 1024 * i + 1024 - 1024 * i = 1024 by omega]
      refine D.one 2 (by kernel_rfl) rfl ?_
      refine L.bslice (vs := []) rfl Evs.nil rfl rfl rfl rfl Try.underlying30 sz_5 zr_5 (by decide) ?_
      intro b6 w6 hb6 hs6 hk6 he6
      have hS1 := hS.ext he6
      refine L.nil ?_
      refine ⟨fun _ => hS1, ?_⟩
      have ho6 : w6.ownsRow b6 5 1 (.slice (some ⟨b6, 0, none⟩) 0 0) 0 (nums .u8 []) := blk_own1 (q := 0) hk6 (Nat.le_refl _) (by decide) rfl
      -- append
      refine D.one 10 (by kernel_rfl) rfl ?_
      refine L.appendQ (q := 1024) (ys := ck zs i) rfl rfl rfl Try.underlying30 el_5 (ho6) (hrp.ext he6) (by omega) (by simp) (by unfold maxLen; omega) (by omega) ?_
      intro A7 c7 w7 ho7 hg7 hb7 hor7
      have hS2 := hS1.grown hg7 (fun e ↦ own_blk_ne ho6 hS1 (by decide) e.symm)
      refine L.nil ?_
      refine ⟨fun _ => hS2, ?_⟩
      have hD7 := Dat.of_own ho7
      have he57 : Ext w4 w7 := (hSE.trans he6).grw hg7 (fun g hg ↦ by have := (own_isT ho6 hg).2; have := Ext.le hSE; omega)
      -- buildSlice
      refine D.one 11 (by kernel_rfl) rfl ?_
      refine L.bslice (vs := [_]) rfl (Evs.cons (by conv => lhs; whnf) Evs.nil) rfl rfl rfl rfl Try.underlying41 sz_30 zr_30 (by decide) ?_
      intro b8 w8 hb8 hs8 hk8 he8
      have hS3 := hS2.ext he8
      refine L.nil ?_
      refine ⟨fun _ => hS3, ?_⟩
      have he58 := he57.trans he8
      have hp8 := M.hk.ext he58
      have hz8 := (M.he.trans he58).le
      have hne8 : some b3 ≠ Value.ownBlock (.slice A i c) := fun e => own_blk_ne hp8 hS3 (by decide) e.symm
      -- append
      refine D.one 12 (by kernel_rfl) rfl ?_
      refine L.appendV (q := i + 1) (ys := (kp ++ [(Value.slice A7 1024 c7, ck zs i)]).map (fun p : Cell ↦ p.1)) rfl rfl rfl Try.underlying41 el_30 (hp8) (blk_readsN (sz := 1) (q := 1) (l := [.slice A7 1024 c7]) hk8 (by omega : b8 < w8.heap.size) rfl) (by first | rfl | exact strs_ones _ | assumption) (by omega) (by simp) (by unfold maxLen; omega) (by omega) ?_
      intro A9 c9 w9 ho9 hg9 hb9 hor9
      have hS4 := hS3.grown hg9 hne8
      refine L.nil ?_
      refine ⟨fun _ => hS4, ?_⟩
      refine D.va 13 rfl (by kernel_rfl) (fun _ _ _ h => h) rfl (fun w' hw => X.fieldAddr rfl Try.underlying44 rfl sz_41 (by decide)) hS4 ?_
      -- store
      refine D.one 14 (by kernel_rfl) rfl ?_
      refine L.store rfl rfl (by conv => lhs; whnf) rfl sz_41 (hS4) (by first | decide | exact Nat.le_of_ble_eq_true rfl) ?_
      intro w10 hk10 hg10 hs10
      refine L.nil ?_
      refine ⟨fun h => absurd rfl h, ?_⟩
      refine D.done (by kernel_rfl) ?_
      refine J.region ?_
      refine L.va rfl (X.move (by conv => lhs; whnf)) ?_
      refine L.va rfl (X.add rfl rfl (by omega)) ?_
      refine L.va rfl (X.assign (by conv => lhs; whnf)) ?_
      refine L.nil ?_
      -- loopend
      refine ⟨(i + 1, A9, c9, kp ++ [(Value.slice A7 1024 c7, ck zs i)]), At1 (by first | rfl | exact at_int rfl (by omega) | exact at_slice rfl (by omega) | exact at_int rfl (by simp)), (by (iterate 22 refine Agr.lk rfl ?_); exact Agr.lk rfl (Agr.hav rfl Agr.rfl')), ?_⟩
      exact ⟨⟨by dsimp only; omega, rstep M (by omega) (by omega) (by omega) he58 (hD7.ext he8) ho9 hg9 hS4 hg10 hk10⟩, by dsimp only; omega⟩
    · obtain rfl : i = q := by
        have h7 : ¬ ((i : Nat) : Int) < ((q * 1024 : Nat) : Int) / 1024 := hlt
        omega
      have hk4 := M.h3
      refine J.exit ?_
      refine J.seq ?_
      refine J.region ?_
      refine L.va rfl ((by first | exact X.loadAgg rfl (range_l hk4) Try.underlying44 rfl (by kernel_rfl) | exact X.loadAgg rfl (range_blk hk4) Try.underlying44 rfl (by kernel_rfl))) ?_
      -- store
      refine L.storeAgg (vs := [_, _, _, _, _, _, _]) rfl rfl rfl rfl sz_44 (M.h2) rfl ?_
      intro w5 hk5 hg5 hs5
      refine L.nil ?_
      -- ret
      refine J.ret ?_
      -- results [['ResultVar.cell', 2, 44]]
      obtain ⟨r, e, k1, k2, k3, k4⟩ := rdone M (by omega) hq hg5 hN0
      refine finC rfl (run_cell hk5 Try.underlying44 rfl (by kernel_rfl)) ?_
      exact ⟨r, by rw [e], k1, k2, k3, k4⟩
/-- deeds, as an argument has them -/
theorem deeds_of {w : World} {N n : Nat} {A : Option Addr} {xs : List ((Nm .i64) × (Nm .i64) × (List (Nm .u8)) × Bool × (List Bool))} (h : LiesSlice w N A n xs) : ∃ ds : List Dm, DmsAt ds A n N w := by
  obtain ⟨l, h1, h2, h3⟩ := h.rows (X := Dm) (f := Dm.vals) (g := fun x => x.At N w) (fun x => rfl) (fun us a hl => by
    obtain ⟨u1, v1, rfl, e1, u2, v2, rfl, e2, u3, v3, rfl, ⟨dA, dn, dc, rfl, k1, k2, _, k3⟩, u4, v4, rfl, e4, kA, kn, kc, rfl, m1, m2, _, m3⟩ := hl
    obtain rfl : u1 = [.int .i64 a.1.z] := e1
    obtain rfl : u2 = [.int .i64 a.2.1.z] := e2
    obtain rfl : u4 = [.bool a.2.2.2.1] := e4
    exact ⟨⟨a.1.z, a.2.1.z, dA, dn, dc, a.2.2.2.1, kA, kn, kc, zsOf a.2.2.1, a.2.2.2.2⟩, rfl, k3.reads, m3.bools, zsOf_u8 _, a.2.1.i64, by dsimp only; omega⟩)
  exact ⟨l, h2, h3, h1⟩
end Go.Proofs.Ytdmfikedojgjbaa
