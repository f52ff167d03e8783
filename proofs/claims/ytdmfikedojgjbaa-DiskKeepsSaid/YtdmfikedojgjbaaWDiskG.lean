/-
  The reference's disk: With, Now, Image.
-/
import Derived.Test.YtdmfikedojgjbaaWDiskF
namespace Go.Proofs.Ytdmfikedojgjbaa
set_option maxRecDepth 100000
open Go.RowKit H
set_option linter.unusedVariables false
/-- a reference's disk in memory -/
structure Rk where
  (kA : Option Addr) (kc : Nat) (pA : Option Addr) (pc : Nat) (kp : List Cell) (pp : List (Nat × Cell)) (off : Bool) (left rd wr fl : Int)
namespace Rk
abbrev K (r : Rk) : Value := .slice r.kA r.kp.length r.kc
abbrev P (r : Rk) : Value := .slice r.pA r.pp.length r.pc
abbrev vals (r : Rk) : List Value := [r.K, r.P, .bool r.off, .int .i64 r.left, .int .i64 r.rd, .int .i64 r.wr, .int .i64 r.fl]
abbrev v (r : Rk) : Value := .agg r.vals.toArray
def abs (r : Rk) : Ds := abs_ r.kp r.pp r.off r.left r.rd r.wr r.fl
structure At (r : Rk) (N : Nat) (w : World) : Prop where
  hk : w.ownsRow N 30 1 r.K r.kp.length (r.kp.map (·.1))
  hp : w.ownsRow N 178 2 r.P r.pp.length (pcs r.pp)
  kd : ∀ x ∈ r.kp, RD N w x.1 x.2
  pd : ∀ x ∈ r.pp, x.1 < r.kp.length ∧ RD N w x.2.1 x.2.2
  h1 : r.kp.length ≤ 8192
  hN : N ≤ w.heap.size
/-- the kept sectors' block is the same or a new one -/
def Fr (r' r : Rk) (w : World) : Prop := ∀ g, r'.K.ownBlock = some g → r.K.ownBlock = some g ∨ w.heap.size ≤ g
variable {r : Rk} {N : Nat} {w w' : World}
theorem Fr.refl (r : Rk) (w : World) : Fr r r w := fun g hg => .inl hg
theorem At.ext (h : r.At N w) (he : Ext w w') : r.At N w' :=
  ⟨h.hk.ext he, h.hp.ext he, fun x hx => (h.kd x hx).ext he h.hN, fun x hx => ⟨(h.pd x hx).1, (h.pd x hx).2.ext he h.hN⟩, h.h1, Nat.le_trans h.hN he.le⟩
theorem own_kq {v : Dk} {N' e size n : Nat} {C : Nat → Prop} {x : Value} {xs : List Value} (h : w.ownsRow N e size x n xs) (k : Kq v.kb v.d C w w') (h1 : x.ownBlock ≠ some v.kb) (h2 : x.ownBlock ≠ some v.d) (h3 : e ≠ 123) : w'.ownsRow N e size x n xs := by
  refine ⟨h.1, ?_⟩
  rcases h.2 with h | ⟨b, cap, cur, rfl, hb, hh, h4⟩
  · exact .inl h
  · refine .inr ⟨b, cap, cur, rfl, hb, ?_, h4⟩
    exact k.same (t := 0) hh (fun e => h1 (by rw [← e]; rfl)) (fun e => h2 (by rw [← e]; rfl)) (fun ht => absurd ((show IsT w b _ from ⟨cur, hh⟩).fun_ ht) h3)
theorem At.kq {v : Dk} {N' : Nat} {C : Nat → Prop} (h : r.At N w) (hv : v.At N' C w) (k : Kq v.kb v.d C w w') (hN : N ≤ N') (h1 : r.K.ownBlock ≠ some v.kb) : r.At N w' :=
  ⟨own_kq (N' := N') h.hk k h1 (own_blk_ne h.hk hv.hb (by decide)) (by decide), own_kq (N' := N') h.hp k (fun e => absurd ((own_isT h.hp e).1.fun_ hv.kT.1) (by decide)) (own_blk_ne h.hp hv.hb (by decide)) (by decide),
   fun x hx => (h.kd x hx).kq hv k hN, fun x hx => ⟨(h.pd x hx).1, (h.pd x hx).2.kq hv k hN⟩, h.h1, Nat.le_trans h.hN k.size⟩
theorem At.kRd (h : r.At N w) : Reads w w.heap.size 1 r.kA r.kp.length (r.kp.map (·.1)) := Reads.of_own h.hk
theorem At.pRd (h : r.At N w) : Reads w w.heap.size 2 r.pA r.pp.length (pcs r.pp) := Reads.of_own h.hp
theorem At.kLd (h : r.At N w) {i : Nat} (hi : i < r.kp.length) : Ld w (H.pA r.kA i) (r.kp.getD i c0).1 := by
  have h1 := Ld.rd h.kRd (j := i) (by omega)
  have : (r.kp.map (·.1)).getD i undef = (r.kp.getD i c0).1 := by simp [List.getD, hi]
  rwa [this] at h1
theorem At.pLdA (h : r.At N w) {i : Nat} (hi : i < r.pp.length) : Ld w (H.pA r.pA (i * 2)) (.int .i64 ((r.pp.getD i p0).1 : Int)) := by
  have h1 := Ld.rd h.pRd (j := i * 2) (by omega)
  have h2 := Dk.pcs_row hi 0 _ rfl
  rw [Nat.add_zero] at h2
  rw [List.getD, h2] at h1
  exact h1
theorem At.pLdB (h : r.At N w) {i : Nat} (hi : i < r.pp.length) : Ld w (H.pA r.pA (i * 2 + 1)) (r.pp.getD i p0).2.1 := by
  have h1 := Ld.rd h.pRd (j := i * 2 + 1) (by omega)
  have h2 := Dk.pcs_row hi 1 _ rfl
  rw [List.getD, h2] at h1
  exact h1
theorem At.kDat (h : r.At N w) {i : Nat} (hi : i < r.kp.length) : RD N w (r.kp.getD i c0).1 (r.kp.getD i c0).2 := by
  have : r.kp.getD i c0 = r.kp[i] := by simp [List.getD, hi]
  rw [this]
  exact h.kd _ (List.getElem_mem hi)
theorem At.pDat (h : r.At N w) {i : Nat} (hi : i < r.pp.length) : (r.pp.getD i p0).1 < r.kp.length ∧ RD N w (r.pp.getD i p0).2.1 (r.pp.getD i p0).2.2 := by
  have : r.pp.getD i p0 = r.pp[i] := by simp [List.getD, hi]
  rw [this]
  exact h.pd _ (List.getElem_mem hi)
theorem At.nowDat (h : r.At N w) {i : Nat} (hi : i < r.kp.length) (k : Nat) (hk : k ≤ r.pp.length) : RD N w (nowI r.kp c0 r.pp i k).1 (nowI r.kp c0 r.pp i k).2 :=
  nowI_mem (p := fun x : Cell => RD N w x.1 x.2) hi h.kd (fun x hx => (h.pd x hx).2) k hk
theorem At.kone (h : r.At N w) : ((r.kp.map (·.1)).all (·.oneCell')) = true := by
  rw [List.all_eq_true]
  intro y hy
  obtain ⟨x, hx, rfl⟩ := List.mem_map.1 hy
  exact (h.kd x hx).one
theorem At.pone (h : r.At N w) : ((pcs r.pp).all (·.oneCell')) = true := by
  rw [List.all_eq_true]
  intro y hy
  obtain ⟨x, hx, hy⟩ := List.mem_flatMap.1 hy
  simp only [List.mem_cons, List.not_mem_nil, or_false] at hy
  rcases hy with rfl | rfl
  · rfl
  · exact (h.pd x hx).2.one
theorem At.with_ (h : r.At N w) (a : Int) (i : Nat) (ha : a = (i : Int)) (hi : i < r.kp.length) (x : Cell) (hx : RD N w x.1 x.2) : Calls Try.prog 102 #[r.v, .int .i64 a, x.1] w fun e w' =>
    ∃ kA kc, e = .returned (Rk.v { r with kA := kA, kc := kc, kp := r.kp.set i x }) ∧ At { r with kA := kA, kc := kc, kp := r.kp.set i x } N w' ∧ Ext w w' ∧ ∀ g, Value.ownBlock (.slice kA r.kp.length kc) = some g → w.heap.size ≤ g := by
  subst ha
  obtain ⟨x1, zs⟩ := x
  obtain ⟨A0, cx, e0, _⟩ := hx.slice h.hN
  dsimp only at e0
  subst e0
  refine enter Try.func102 rfl (by kernel_rfl) ?_
  refine J.seq ?_
  refine J.region ?_
  -- box
  refine L.boxA (l := [_, _, _, _, _, _, _]) rfl rfl ?_
  intro b1 w1 hb1 hs1 hk1 he1
  -- alloc
  refine L.alloc rfl zr_44 ?_
  intro b2 w2 hb2 hs2 hk2 he2
  refine L.nil ?_
  refine J.seq ?_
  refine J.region ?_
  -- buildSlice
  refine L.bslice (vs := []) rfl Evs.nil rfl rfl rfl rfl Try.underlying41 sz_30 zr_30 (by decide) ?_
  intro b3 w3 hb3 hs3 hk3 he3
  have he03 := (he1.trans he2).trans he3
  have H3 := h.ext he03
  replace hk1 := (hk1.ext he2).ext he3
  replace hk2 := hk2.ext he3
  have h1k := h.kone
  have hh1 := h.h1
  refine L.va rfl (X.fieldAddr rfl Try.underlying44 rfl sz_41 (by decide)) ?_
  refine L.va rfl (X.load rfl sc_41 (by first | exact Ld.blk hk1 rfl)) ?_
  -- append
  have ho3 : w3.ownsRow w.heap.size 30 1 (.slice (some ⟨b3, 0, none⟩) 0 0) 0 [] := blk_own1 (q := 0) hk3 (by omega : w.heap.size ≤ b3) (by decide) rfl
  refine L.appendV (q := r.kp.length) (ys := r.kp.map (·.1)) rfl rfl rfl Try.underlying41 el_30 (ho3) (H3.kRd) (by first | rfl | exact strs_ones _ | assumption) (by omega) (by simp) (by unfold maxLen; omega) (by omega) ?_
  intro A4 c4 w4 ho4 hg4 hb4 hor4
  have hne1 : some b1 ≠ some b3 := by intro e; injection e with e; omega
  have hne2 : some b2 ≠ some b3 := by intro e; injection e with e; omega
  replace hk1 := hk1.grown hg4 hne1
  replace hk2 := hk2.grown hg4 hne2
  refine L.va rfl (X.fieldAddr rfl Try.underlying44 rfl sz_41 (by decide)) ?_
  -- store
  refine L.store rfl rfl (by conv => lhs; whnf) rfl sz_41 (hk1) (by first | decide | exact Nat.le_of_ble_eq_true rfl) ?_
  intro w5 hk5 hg5 hs5
  have ho5 := ho4.kept hg5 (.inr (own_blk_ne ho4 hk1 (by decide)))
  refine L.nil ?_
  refine J.seq ?_
  refine J.region ?_
  refine L.va rfl (X.fieldAddr rfl Try.underlying44 rfl sz_41 (by decide)) ?_
  refine L.va rfl (X.load rfl sc_41 (by first | exact Ld.blk hk5 rfl | exact Ld.own ho5 (by omega))) ?_
  refine L.va rfl (X.move (by conv => lhs; whnf)) ?_
  refine L.va rfl (X.move (by conv => lhs; whnf)) ?_
  refine L.va rfl ((by first | exact X.index1n rfl rfl Try.underlying41 sz_30 (by first | exact Option.some_ne_none _ | exact own_ne ho5 (by omega)) (by omega) | exact X.index1 rfl rfl Try.underlying41 sz_30 (by first | exact Option.some_ne_none _ | exact own_ne ho5 (by omega)) (by omega))) ?_
  -- store
  refine L.storeO rfl rfl (by conv => lhs; whnf) rfl sz_30 (ho5) (by omega) ?_
  intro w6 ho6 hg6 hb6 hs6
  rw [show (r.kp.map (·.1)).set i (Value.slice A0 1024 cx) = (r.kp.set i (Value.slice A0 1024 cx, zs)).map (·.1) from by rw [List.map_set]] at ho6
  have hk6 := hk5.grown hg6 (fun e => own_blk_ne ho5 hk5 (by decide) e.symm)
  have hk26 := (hk2.grown hg5 (by intro e; injection e with e; omega)).grown hg6 (fun e => own_blk_ne ho5 (hk2.grown hg5 (by intro e; injection e with e; omega)) (by decide) e.symm)
  refine L.nil ?_
  refine J.seq ?_
  refine J.region ?_
  refine L.va rfl ((by first | exact X.loadAgg rfl (range_l hk6) Try.underlying44 rfl (by kernel_rfl) | exact X.loadAgg rfl (range_blk hk6) Try.underlying44 rfl (by kernel_rfl))) ?_
  -- store
  refine L.storeAgg (vs := [_, _, _, _, _, _, _]) rfl rfl rfl rfl sz_44 (hk26) rfl ?_
  intro w7 hk7 hg7 hs7
  refine L.nil ?_
  -- ret
  refine J.ret ?_
  -- results [['ResultVar.cell', 6, 44]]
  have hlen : (r.kp.set i (Value.slice A0 1024 cx, zs)).length = r.kp.length := List.length_set
  have he4 : Ext w w4 := he03.grw hg4 (fun g hg => (own_isT ho3 hg).2)
  have he5 : Ext w w5 := he4.grw hg5 (by intro g hg; injection hg with hg; omega)
  have he6 : Ext w w6 := he5.grw hg6 (fun g hg => (own_isT ho5 hg).2)
  have he7 : Ext w w7 := he6.grw hg7 (by intro g hg; injection hg with hg; omega)
  have ho7 := ho6.kept hg7 (.inr (own_blk_ne ho6 hk26 (by decide)))
  have H7 := h.ext he7
  refine finC rfl (run_cell hk7 Try.underlying44 rfl (by kernel_rfl)) ?_
  refine ⟨A4, c4, ?_, ⟨?_, H7.hp, fun y hy => ?_, fun y hy => ?_, ?_, H7.hN⟩, he7, fun g hg => (ho7.lt g hg).1⟩
  · unfold Rk.v Rk.vals Rk.K
    dsimp only
    rw [hlen]
  · unfold Rk.K
    dsimp only
    rw [hlen]
    exact ho7.mono h.hN
  · rcases List.mem_or_eq_of_mem_set hy with hm | hm
    · exact H7.kd y hm
    · rw [hm]; exact hx.ext he7 h.hN
  · dsimp only
    rw [hlen]
    exact H7.pd y hy
  · dsimp only
    rw [hlen]
    exact h.h1
theorem At.now_ (h : r.At N w) (a : Int) (i : Nat) (ha : a = (i : Int)) (hi : i < r.kp.length) (hm : r.pp.length ≤ 1000000) : Calls Try.prog 103 #[r.v, .int .i64 a] w fun e w' =>
    e = .returned (nowI r.kp c0 r.pp i r.pp.length).1 ∧ Ext w w' := by
  subst ha
  refine enter Try.func103 rfl (by kernel_rfl) ?_
  refine J.seq ?_
  refine J.region ?_
  -- box
  refine L.boxA (l := [_, _, _, _, _, _, _]) rfl rfl ?_
  intro b1 w1 hb1 hs1 hk1 he1
  have H1 := h.ext he1
  have hR1 := H1.kRd
  have hl1 := H1.kLd hi
  -- t11
  refine L.va rfl (X.assign (by conv => lhs; whnf)) ?_
  refine L.nil ?_
  refine J.seq ?_
  refine J.region ?_
  refine L.va rfl (X.fieldAddr rfl Try.underlying44 rfl sz_41 (by decide)) ?_
  refine L.va rfl (X.load rfl sc_41 (by first | exact Ld.blk hk1 rfl | exact Ld.rd hR1 (by omega))) ?_
  refine L.va rfl (X.move (by conv => lhs; whnf)) ?_
  refine L.va rfl ((by first | exact X.index1n rfl rfl Try.underlying41 sz_30 (by first | exact Option.some_ne_none _ | exact hR1.some_ (by omega)) (by omega) | exact X.index1 rfl rfl Try.underlying41 sz_30 (by first | exact Option.some_ne_none _ | exact hR1.some_ (by omega)) (by omega))) ?_
  refine L.va rfl (X.load rfl sc_30 hl1) ?_
  refine L.va rfl (X.assign (by conv => lhs; whnf)) ?_
  refine L.nil ?_
  refine J.seq ?_
  refine J.seq ?_
  refine J.region ?_
  refine L.va rfl (X.assign (by conv => lhs; whnf)) ?_
  refine L.nil ?_
  refine J.block ?_
  -- loop
  refine J.loop (X := Nat) [5, 6, 12, 13, 14, 15, 16, 17, 18, 19, 20, 21, 22, 23, 24, 25, 26, 27, 28, 29, 30, 31, 32] (fun j => [(6, .int .i64 (j : Int)), (5, (nowI r.kp c0 r.pp i j).1)]) (fun j w' => j ≤ r.pp.length ∧ w' = w1) (fun j => r.pp.length - j) (0) (At2 (by first | rfl | exact at_int rfl (by omega) | exact at_slice rfl (by omega) | exact at_int rfl (by simp)) (by first | rfl | exact at_int rfl (by omega) | exact at_slice rfl (by omega) | exact at_int rfl (by simp))) ?_ ?_
  · exact ⟨Nat.zero_le _, rfl⟩
  · rintro j g w2 ⟨hj, rfl⟩
    refine J.seq ?_
    refine J.seq ?_
    refine J.region ?_
    refine L.va rfl (X.move (by conv => lhs; whnf)) ?_
    refine L.va rfl (X.fieldAddr rfl Try.underlying44 rfl sz_42 (by decide)) ?_
    refine L.va rfl (X.load rfl sc_42 (by first | exact Ld.blk hk1 rfl | exact Ld.rd hR1 (by omega))) ?_
    refine L.va rfl (X.len rfl Try.underlying42) ?_
    refine L.va rfl (X.lss rfl rfl) ?_
    refine L.nil ?_
    -- cond
    refine J.dec rfl (fun hlt => ?_) (fun hlt => ?_)
    · have hj4 : j < r.pp.length := by omega
      have hpA := H1.pRd.some_ (by omega : 0 < r.pp.length)
      have hl2 := H1.pLdA hj4
      have hl3 := H1.pLdB hj4
      have hn : nowI r.kp c0 r.pp i (j + 1) = if (r.pp.getD j p0).1 = i then (r.pp.getD j p0).2 else nowI r.kp c0 r.pp i j := rfl
      -- t24
      -- t32
      refine J.skip ?_
      refine J.seq ?_
      refine J.block ?_
      refine J.seq ?_
      refine J.region ?_
      refine L.va rfl (X.fieldAddr rfl Try.underlying44 rfl sz_42 (by decide)) ?_
      refine L.va rfl (X.load rfl sc_42 (by first | exact Ld.blk hk1 rfl | exact Ld.rd hR1 (by omega) | exact hpA)) ?_
      refine L.va rfl (X.move (by conv => lhs; whnf)) ?_
      refine L.va rfl ((by first | exact X.indexAddrn rfl rfl Try.underlying42 sz_178 (by first | exact Option.some_ne_none _ | exact hR1.some_ (by omega) | exact hpA) (by omega) | exact X.indexAddr rfl rfl Try.underlying42 sz_178 (by first | exact Option.some_ne_none _ | exact hR1.some_ (by omega) | exact hpA) (by omega))) ?_
      refine L.va rfl (X.fieldP rfl Try.underlying178 rfl sz_3 (by decide) (by first | exact Option.some_ne_none _ | exact hR1.some_ (by omega) | exact hpA)) ?_
      refine L.va rfl (X.load rfl sc_3 hl2) ?_
      refine L.va rfl (X.move (by conv => lhs; whnf)) ?_
      refine L.va rfl (X.eql rfl rfl) ?_
      refine L.nil ?_
      -- cond
      refine J.dec rfl (fun heq => ?_) (fun heq => ?_)
      · have heq' : (r.pp.getD j p0).1 = i := by have h7 : ((r.pp.getD j p0).1 : Int) = (i : Int) := heq; omega
        rw [if_pos heq'] at hn
        refine J.region ?_
        refine L.va rfl (X.fieldAddr rfl Try.underlying44 rfl sz_42 (by decide)) ?_
        refine L.va rfl (X.load rfl sc_42 (by first | exact Ld.blk hk1 rfl | exact Ld.rd hR1 (by omega) | exact hpA)) ?_
        refine L.va rfl (X.move (by conv => lhs; whnf)) ?_
        refine L.va rfl ((by first | exact X.indexAddrn rfl rfl Try.underlying42 sz_178 (by first | exact Option.some_ne_none _ | exact hR1.some_ (by omega) | exact hpA) (by omega) | exact X.indexAddr rfl rfl Try.underlying42 sz_178 (by first | exact Option.some_ne_none _ | exact hR1.some_ (by omega) | exact hpA) (by omega))) ?_
        refine L.va rfl (X.fieldP rfl Try.underlying178 rfl sz_30 (by decide) (by first | exact Option.some_ne_none _ | exact hR1.some_ (by omega) | exact hpA)) ?_
        refine L.va rfl (X.load rfl sc_30 hl3) ?_
        refine L.va rfl (X.assign (by conv => lhs; whnf)) ?_
        refine L.nil ?_
        refine J.region ?_
        refine L.va rfl (X.move (by conv => lhs; whnf)) ?_
        refine L.va rfl (X.add rfl rfl (by omega)) ?_
        refine L.va rfl (X.assign (by conv => lhs; whnf)) ?_
        refine L.nil ?_
        -- loopend
        refine ⟨j + 1, At2 (at_int rfl (by omega)) ((show _ = (nowI r.kp c0 r.pp i (j + 1)).1 from by rw [hn]; rfl)), (by (iterate 23 refine Agr.lk rfl ?_); exact Agr.lk rfl (Agr.hav rfl Agr.rfl')), ?_⟩
        exact ⟨⟨by omega, rfl⟩, by omega⟩
      · have heq' : ¬ (r.pp.getD j p0).1 = i := by
          intro h7
          apply heq
          show ((r.pp.getD j p0).1 : Int) = (i : Int)
          omega
        rw [if_neg heq'] at hn
        refine J.skip ?_
        refine J.region ?_
        refine L.va rfl (X.move (by conv => lhs; whnf)) ?_
        refine L.va rfl (X.add rfl rfl (by omega)) ?_
        refine L.va rfl (X.assign (by conv => lhs; whnf)) ?_
        refine L.nil ?_
        -- loopend
        refine ⟨j + 1, At2 (at_int rfl (by omega)) ((show _ = (nowI r.kp c0 r.pp i (j + 1)).1 from by rw [hn]; rfl)), (by (iterate 16 refine Agr.lk rfl ?_); exact Agr.lk rfl (Agr.hav rfl Agr.rfl')), ?_⟩
        exact ⟨⟨by omega, rfl⟩, by omega⟩
    · obtain rfl : j = r.pp.length := by omega
      refine J.exit ?_
      refine J.seq ?_
      refine J.region ?_
      refine L.va rfl (X.move (by conv => lhs; whnf)) ?_
      refine L.va rfl (X.assign (by conv => lhs; whnf)) ?_
      refine L.nil ?_
      -- ret
      refine J.ret ?_
      refine fin1 ?_
      exact ⟨rfl, he1⟩
theorem At.image_ (h : r.At N w) : Calls Try.prog 104 #[r.v] w fun e w' =>
    ∃ A c, e = .returned (.slice A (r.kp.length * 1024) c) ∧ w'.ownsRow w.heap.size 5 1 (.slice A (r.kp.length * 1024) c) (r.kp.length * 1024) (nums .u8 (r.kp.map (·.2)).flatten) ∧ Ext w w' := by
  have hh1 := h.h1
  have hdl : (r.kp.map (·.2)).length = r.kp.length := by simp
  refine enter Try.func104 rfl (by kernel_rfl) ?_
  refine J.seq ?_
  refine J.region ?_
  -- box
  refine L.boxA (l := [_, _, _, _, _, _, _]) rfl rfl ?_
  intro b1 w1 hb1 hs1 hk1 he1
  refine L.va rfl (X.assign (by conv => lhs; whnf)) ?_
  refine L.nil ?_
  refine J.seq ?_
  refine J.region ?_
  refine L.va rfl (X.assign (by conv => lhs; whnf)) ?_
  refine L.nil ?_
  refine J.seq ?_
  refine J.seq ?_
  refine J.region ?_
  refine L.va rfl (X.assign (by conv => lhs; whnf)) ?_
  refine L.nil ?_
  refine J.block ?_
  -- loop
  refine J.loop (X := Nat × Option Addr × Nat) [3, 4, 5, 6, 7, 8, 9, 10, 11, 12, 13, 14, 15, 16, 17, 18] (fun x => [(4, .int .i64 (x.1 : Int)), (3, .slice x.2.1 (x.1 * 1024) x.2.2)]) (fun x w' => x.1 ≤ r.kp.length ∧ w'.ownsRow w.heap.size 5 1 (.slice x.2.1 (x.1 * 1024) x.2.2) (x.1 * 1024) (nums .u8 (((r.kp.map (·.2)).take x.1).flatten)) ∧ Blk w' b1 44 r.vals.toArray ∧ Ext w w') (fun x => r.kp.length - x.1) ((0, none, 0)) (At2 (by first | rfl | exact at_int rfl (by omega) | exact at_slice rfl (by omega) | exact at_int rfl (by simp)) (by first | rfl | exact at_int rfl (by omega) | exact at_slice rfl (by omega) | exact at_int rfl (by simp))) ?_ ?_
  · exact ⟨Nat.zero_le _, own_nilN _ _ _ _, hk1, he1⟩
  · rintro ⟨i, A, c⟩ g w2 ⟨hi, ho2, hk2, he2⟩
    dsimp only at hi ho2
    have q1 : ((i, A, c) : Nat × Option Addr × Nat).1 = i := rfl
    have hk2 : Blk w2 b1 44 #[r.K, r.P, .bool r.off, .int .i64 r.left, .int .i64 r.rd, .int .i64 r.wr, .int .i64 r.fl] := hk2
    have H2 := h.ext he2
    have hz2 := he2.le
    refine J.seq ?_
    refine J.seq ?_
    refine J.region ?_
    refine L.va rfl (X.move (by conv => lhs; whnf)) ?_
    refine L.va rfl (X.fieldAddr rfl Try.underlying44 rfl sz_41 (by decide)) ?_
    refine L.va rfl (X.load rfl sc_41 (by first | exact Ld.blk hk2 rfl)) ?_
    refine L.va rfl (X.len rfl Try.underlying41) ?_
    refine L.va rfl (X.lss rfl rfl) ?_
    refine L.nil ?_
    -- cond
    refine J.dec rfl (fun hlt => ?_) (fun hlt => ?_)
    · have hil : i < r.kp.length := by dsimp only at hlt; omega
      obtain ⟨A5, c5, e5, hr5⟩ := (H2.kDat hil).slice H2.hN
      have hl5 := H2.kLd hil
      rw [e5] at hl5
      have hR2 := H2.kRd
      have hn := flat_take (l := r.kp.map (·.2)) (i := i) (by omega)
      have hg : (r.kp.map (·.2)).getD i [] = (r.kp.getD i c0).2 := getD_map (g := fun x : Cell => x.2) (l := r.kp) (i := i) (z := c0)
      rw [hg] at hn
      -- t17
      refine J.skip ?_
      refine J.seq ?_
      refine J.block ?_
      refine J.region ?_
      refine L.va rfl (X.move (by conv => lhs; whnf)) ?_
      refine L.va rfl (X.fieldAddr rfl Try.underlying44 rfl sz_41 (by decide)) ?_
      refine L.va rfl (X.load rfl sc_41 (by first | exact Ld.blk hk2 rfl | exact Ld.rd hR2 (by omega))) ?_
      refine L.va rfl (X.move (by conv => lhs; whnf)) ?_
      refine L.va rfl ((by first | exact X.index1n rfl rfl Try.underlying41 sz_30 (by first | exact Option.some_ne_none _ | exact hR2.some_ (by omega)) (by omega) | exact X.index1 rfl rfl Try.underlying41 sz_30 (by first | exact Option.some_ne_none _ | exact hR2.some_ (by omega)) (by omega))) ?_
      refine L.va rfl (X.load rfl sc_30 hl5) ?_
      -- append
      refine L.appendQ (q := (i + 1) * 1024) (ys := ((r.kp.map (·.2)).take i).flatten ++ (r.kp.getD i c0).2) rfl rfl rfl Try.underlying30 el_5 (ho2) (hr5) (by omega) (by simp) (by unfold maxLen; omega) (by omega) ?_
      intro A3 c3 w3 ho3 hg3 hb3 hor3
      rw [← hn] at ho3
      have hk3 := hk2.grown hg3 (fun e => own_blk_ne ho2 hk2 (by decide) e.symm)
      refine L.va rfl (X.assign (by conv => lhs; whnf)) ?_
      refine L.nil ?_
      refine J.region ?_
      refine L.va rfl (X.move (by conv => lhs; whnf)) ?_
      refine L.va rfl (X.add rfl rfl (by omega)) ?_
      refine L.va rfl (X.assign (by conv => lhs; whnf)) ?_
      refine L.nil ?_
      -- loopend
      refine ⟨(i + 1, A3, c3), At2 (by first | rfl | exact at_int rfl (by omega) | exact at_slice rfl (by omega) | exact at_int rfl (by simp)) (by first | rfl | exact at_int rfl (by omega) | exact at_slice rfl (by omega) | exact at_int rfl (by simp)), (by (iterate 16 refine Agr.lk rfl ?_); exact Agr.lk rfl (Agr.hav rfl Agr.rfl')), ?_⟩
      exact ⟨⟨by dsimp only; omega, ho3, hk3, he2.low hb3 (Nat.le_refl _)⟩, by dsimp only; omega⟩
    · obtain rfl : i = r.kp.length := by dsimp only at hlt; omega
      rw [List.take_of_length_le (by omega)] at ho2
      refine J.exit ?_
      refine J.seq ?_
      refine J.region ?_
      refine L.va rfl (X.move (by conv => lhs; whnf)) ?_
      refine L.va rfl (X.assign (by conv => lhs; whnf)) ?_
      refine L.nil ?_
      -- ret
      refine J.ret ?_
      refine fin1 ?_
      exact ⟨A, c, rfl, ho2, he2⟩
end Rk
end Go.Proofs.Ytdmfikedojgjbaa
