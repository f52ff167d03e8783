/-
  A space of pages in memory; is, Kind, Free, Fresh, gather, Take, Drop.
-/
import Derived.Test.YtdmfikedojgjbaaFreePlain
import Derived.Test.YtdmfikedojgjbaaWHeapB
namespace Go.Proofs.Ytdmfikedojgjbaa
set_option maxRecDepth 100000
open Go.RowKit H
set_option linter.unusedVariables false
structure Sp where
  (d : Nat) (kA : Option Addr) (kc : Nat) (fA : Option Addr) (fc : Nat) (ks fr : List Int)
namespace Sp
abbrev kinds (s : Sp) : Value := .slice s.kA s.ks.length s.kc
abbrev free (s : Sp) : Value := .slice s.fA s.fr.length s.fc
abbrev ptr (s : Sp) : Value := .pointer (some ⟨s.d, 0, none⟩)
/-- its blocks -/
def T (s : Sp) : Nat → Prop := fun g => g = s.d ∨ s.kinds.ownBlock = some g ∨ s.free.ownBlock = some g
structure At (s : Sp) (N : Nat) (w : World) : Prop where
  hb : Blk w s.d 83 #[s.kinds, s.free]
  hk : w.ownsRow N 3 1 s.kinds s.ks.length (nums .i64 s.ks)
  hf : w.ownsRow N 3 1 s.free s.fr.length (nums .i64 s.fr)
  hne : ∀ g, s.kinds.ownBlock = some g → s.free.ownBlock ≠ some g
  hN : N ≤ s.d
  hl : 1 ≤ s.ks.length ∧ s.ks.length ≤ 8193
  hfl : s.fr.length ≤ 8193
variable {s : Sp} {N : Nat} {w w' : World}
theorem At.hq (h : s.At N w) : Hq N w s.d s.kinds s.fA s.fc s.fr := ⟨h.hb, h.hf⟩
theorem At.nsz (h : s.At N w) : N ≤ w.heap.size := Nat.le_of_lt (Nat.lt_of_le_of_lt h.hN h.hb.lt)
theorem At.ext (h : s.At N w) (he : Ext w w') : s.At N w' := ⟨h.hb.ext he, h.hk.ext he, h.hf.ext he, h.hne, h.hN, h.hl, h.hfl⟩
theorem At.tN (h : s.At N w) : ∀ g, s.T g → N ≤ g ∧ g < w.heap.size := by
  rintro g (rfl | hg | hg)
  · exact ⟨h.hN, h.hb.lt⟩
  · exact h.hk.lt g hg
  · exact h.hf.lt g hg
theorem At.below {s : Sp} (h : s.At N w) (k : Chg s.T w w') : Below N w w' := k.below h.nsz (fun g hg => (h.tN g hg).1)
theorem At.is_ (h : s.At N w) : Calls Try.prog 73 #[s.ptr] w fun e w' => e = .returned (.bool true) ∧ w = w' := by
  have hb := h.hb
  have hl := h.hl
  refine enter Try.func73 rfl (by kernel_rfl) ?_
  refine J.seq ?_
  refine J.region ?_
  refine L.va rfl (X.assign (by conv => lhs; whnf)) ?_
  refine L.nil ?_
  refine J.seq ?_
  refine J.region ?_
  refine L.va rfl (X.move (by conv => lhs; whnf)) ?_
  refine L.va rfl (X.neqPn rfl rfl (by kernel_rfl)) ?_
  refine L.va rfl (X.move (by conv => lhs; whnf)) ?_
  -- case t5
  refine L.caseBT (k := 5) rfl (by rfl) ?_
  refine L.va rfl (X.move (by conv => lhs; whnf)) ?_
  refine L.va rfl (X.nilCheck rfl) ?_
  refine L.va rfl (X.fieldAddr rfl Try.underlying83 rfl sz_62 (by decide)) ?_
  refine L.va rfl (X.load rfl sc_62 (by first | exact Ld.blk hb rfl)) ?_
  refine L.va rfl (X.len rfl Try.underlying62) ?_
  refine L.va rfl (X.gtr rfl rfl) ?_
  refine L.va rfl (X.pickT rfl (by conv => lhs; whnf)) ?_
  refine L.va rfl (X.assign (by conv => lhs; whnf)) ?_
  refine L.nil ?_
  -- ret
  refine J.ret ?_
  refine fin1 ?_
  exact ⟨by
    show Ending.returned (.bool (decide ((s.ks.length : Int) > 0))) = _
    rw [decide_eq_true (by omega)], rfl⟩
theorem At.kind_ (h : s.At N w) (p : Int) : Calls Try.prog 41 #[s.ptr, .int .i64 p] w fun e w' => e = .returned (.int .i64 (if p < 1 ∨ (s.ks.length : Int) ≤ p then -1 else s.ks.getD p.toNat 0)) ∧ w = w' := by
  have hb := h.hb
  have hl := h.hl
  have hr := Reads.of_own h.hk
  refine enter Try.func41 rfl (by kernel_rfl) ?_
  refine J.seq ?_
  refine J.region ?_
  refine L.va rfl (X.assign (by conv => lhs; whnf)) ?_
  refine L.nil ?_
  refine J.seq ?_
  refine J.seq ?_
  refine J.region ?_
  refine L.va rfl (X.move (by conv => lhs; whnf)) ?_
  -- callfn (*bushel/free.Space).is
  refine L.call rfl en_73 rfl (h.is_) ?_
  rintro e _ ⟨rfl, rfl⟩
  refine ⟨_, rfl, ?_⟩
  refine L.va rfl (X.not rfl) ?_
  refine L.va rfl (X.move (by conv => lhs; whnf)) ?_
  -- case t8
  refine L.caseBF (k := 8) rfl (by rfl) ?_
  refine L.va rfl (X.move (by conv => lhs; whnf)) ?_
  refine L.va rfl (X.lss rfl rfl) ?_
  refine L.va rfl (X.pickF rfl (by conv => lhs; whnf)) ?_
  refine L.va rfl (X.move (by conv => lhs; whnf)) ?_
  -- case t12
  refine L.caseDec (k := 12) rfl (fun h1 => ?_) (fun h1 => ?_)
  · rw [if_pos (.inl h1)]
    refine L.no rfl ?_
    refine L.no rfl ?_
    refine L.no rfl ?_
    refine L.no rfl ?_
    refine L.no rfl ?_
    refine L.no rfl ?_
    refine L.no rfl ?_
    refine L.va rfl (X.pickT rfl (by conv => lhs; whnf)) ?_
    refine L.nil ?_
    -- cond
    refine J.iteT rfl ?_
    refine J.seq ?_
    refine J.region ?_
    refine L.va rfl (X.assign (by conv => lhs; whnf)) ?_
    refine L.nil ?_
    -- ret
    refine J.ret ?_
    refine thn_ret <| ?_
    refine fin1 ?_
    exact ⟨rfl, rfl⟩
  · refine L.va rfl (X.move (by conv => lhs; whnf)) ?_
    refine L.va rfl (X.move (by conv => lhs; whnf)) ?_
    refine L.va rfl (X.nilCheck rfl) ?_
    refine L.va rfl (X.fieldAddr rfl Try.underlying83 rfl sz_62 (by decide)) ?_
    refine L.va rfl (X.load rfl sc_62 (by first | exact Ld.blk hb rfl)) ?_
    refine L.va rfl (X.len rfl Try.underlying62) ?_
    refine L.va rfl (X.geq rfl rfl) ?_
    refine L.va rfl (X.pickF rfl (by conv => lhs; whnf)) ?_
    refine L.nil ?_
    -- cond
    refine J.dec rfl (fun h2 => ?_) (fun h2 => ?_)
    · rw [if_pos (.inr h2)]
      refine J.seq ?_
      refine J.region ?_
      refine L.va rfl (X.assign (by conv => lhs; whnf)) ?_
      refine L.nil ?_
      -- ret
      refine J.ret ?_
      refine thn_ret <| ?_
      refine fin1 ?_
      exact ⟨rfl, rfl⟩
    · rw [if_neg (by omega)]
      -- t26
      -- t27
      refine J.skip ?_
      refine J.seq ?_
      refine J.region ?_
      refine L.va rfl (X.move (by conv => lhs; whnf)) ?_
      refine L.va rfl (X.nilCheck rfl) ?_
      refine L.va rfl (X.fieldAddr rfl Try.underlying83 rfl sz_62 (by decide)) ?_
      refine L.va rfl (X.load rfl sc_62 (by first | exact Ld.blk hb rfl)) ?_
      refine L.va rfl (X.move (by conv => lhs; whnf)) ?_
      refine L.va rfl (X.index1 rfl rfl Try.underlying62 sz_3 (hr.some_ (by omega)) (by omega)) ?_
      refine L.va rfl (X.load rfl sc_3 (Ld.num hr (j := p.toNat) (by omega))) ?_
      refine L.va rfl (X.assign (by conv => lhs; whnf)) ?_
      refine L.nil ?_
      -- ret
      refine J.ret ?_
      refine fin1 ?_
      exact ⟨rfl, rfl⟩
theorem At.free_ (h : s.At N w) : Calls Try.prog 34 #[s.ptr] w fun e w' => e = .returned (.int .i64 (s.fr.length : Int)) ∧ w = w' := by
  have hb := h.hb
  refine enter Try.func34 rfl (by kernel_rfl) ?_
  refine J.seq ?_
  refine J.region ?_
  refine L.va rfl (X.assign (by conv => lhs; whnf)) ?_
  refine L.nil ?_
  refine J.seq ?_
  refine J.seq ?_
  refine J.region ?_
  refine L.va rfl (X.move (by conv => lhs; whnf)) ?_
  -- callfn (*bushel/free.Space).is
  refine L.call rfl en_73 rfl (h.is_) ?_
  rintro e _ ⟨rfl, rfl⟩
  refine ⟨_, rfl, ?_⟩
  refine L.va rfl (X.not rfl) ?_
  refine L.nil ?_
  -- cond
  refine J.iteF rfl ?_
  refine J.skip ?_
  refine J.seq ?_
  refine J.region ?_
  refine L.va rfl (X.move (by conv => lhs; whnf)) ?_
  refine L.va rfl (X.nilCheck rfl) ?_
  refine L.va rfl (X.fieldAddr rfl Try.underlying83 rfl sz_81 (by decide)) ?_
  refine L.va rfl (X.load rfl sc_81 (by first | exact Ld.blk hb rfl)) ?_
  refine L.va rfl (X.len rfl Try.underlying81) ?_
  refine L.va rfl (X.assign (by conv => lhs; whnf)) ?_
  refine L.nil ?_
  -- ret
  refine J.ret ?_
  refine fin1 ?_
  exact ⟨rfl, rfl⟩
theorem At.fresh_ (h : s.At N w) : Calls Try.prog 42 #[s.ptr] w fun e w' => ∃ A c, e = .returned (.slice A (fK 2 s.ks s.ks.length).length c) ∧ w'.ownsRow w.heap.size 3 1 (.slice A (fK 2 s.ks s.ks.length).length c) (fK 2 s.ks s.ks.length).length (nums .i64 (fK 2 s.ks s.ks.length)) ∧ Ext w w' := by
  have hb := h.hb
  have hl := h.hl
  have hr := Reads.of_own h.hk
  refine enter Try.func42 rfl (by kernel_rfl) ?_
  refine J.seq ?_
  refine J.region ?_
  refine L.va rfl (X.assign (by conv => lhs; whnf)) ?_
  refine L.nil ?_
  refine J.seq ?_
  refine J.seq ?_
  refine J.region ?_
  refine L.va rfl (X.move (by conv => lhs; whnf)) ?_
  -- callfn (*bushel/free.Space).is
  refine L.call rfl en_73 rfl (h.is_) ?_
  rintro e _ ⟨rfl, rfl⟩
  refine ⟨_, rfl, ?_⟩
  refine L.va rfl (X.not rfl) ?_
  refine L.nil ?_
  -- cond
  refine J.iteF rfl ?_
  refine J.skip ?_
  refine J.seq ?_
  refine J.region ?_
  refine L.va rfl (X.assign (by conv => lhs; whnf)) ?_
  refine L.nil ?_
  refine J.seq ?_
  refine J.seq ?_
  refine J.region ?_
  refine L.va rfl (X.move (by conv => lhs; whnf)) ?_
  refine L.va rfl (X.nilCheck rfl) ?_
  refine L.va rfl (X.fieldAddr rfl Try.underlying83 rfl sz_62 (by decide)) ?_
  refine L.va rfl (X.load rfl sc_62 (by first | exact Ld.blk hb rfl)) ?_
  refine L.va rfl (X.len rfl Try.underlying62) ?_
  refine L.va rfl (X.move (by conv => lhs; whnf)) ?_
  refine L.nil ?_
  refine J.block ?_
  -- loop
  refine J.loop (X := Nat × Option Addr × Nat) [3, 4, 5, 14, 15, 16, 17, 18, 19, 20, 21, 22, 23, 24, 25] (fun x => [(14, .int .i64 (x.1 : Int)), (3, .slice x.2.1 (fK 2 s.ks x.1).length x.2.2)]) (fun x w' => x.1 ≤ s.ks.length ∧ w'.ownsRow w.heap.size 3 1 (.slice x.2.1 (fK 2 s.ks x.1).length x.2.2) (fK 2 s.ks x.1).length (nums .i64 (fK 2 s.ks x.1)) ∧ Ext w w') (fun x => s.ks.length - x.1) ((0, none, 0)) (At2 (by first | rfl | exact at_int rfl (by omega) | exact at_slice rfl (by omega) | exact at_int rfl (by simp)) (by first | rfl | exact at_int rfl (by omega) | exact at_slice rfl (by omega) | exact at_int rfl (by simp))) ?_ ?_
  · exact ⟨Nat.zero_le _, own_nilN _ _ _ _, Ext.refl _⟩
  · rintro ⟨i, A, c⟩ g w2 ⟨hi, ho, he⟩
    dsimp only at hi ho
    have q1 : ((i, A, c) : Nat × Option Addr × Nat).1 = i := rfl
    have hr2 := hr.ext he
    have hz := he.le
    have hfl := fK_len 2 s.ks i
    have hs := fK_succ 2 s.ks i
    refine J.seq ?_
    refine J.region ?_
    refine L.va rfl (X.lss rfl rfl) ?_
    refine L.nil ?_
    refine J.seq ?_
    -- cond
    refine J.dec rfl (fun hlt => ?_) (fun hlt => ?_)
    · have hil : i < s.ks.length := by dsimp only at hlt; omega
      refine J.skip ?_
      refine J.seq ?_
      refine J.block ?_
      refine J.seq ?_
      refine J.region ?_
      refine L.va rfl (X.move (by conv => lhs; whnf)) ?_
      refine L.va rfl ((by first | exact X.index1n rfl rfl Try.underlying62 sz_3 (by first | exact Option.some_ne_none _ | exact hr2.some_ (by omega)) (by omega) | exact X.index1 rfl rfl Try.underlying62 sz_3 (by first | exact Option.some_ne_none _ | exact hr2.some_ (by omega)) (by omega))) ?_
      refine L.va rfl (X.load rfl sc_3 (by first | exact Ld.num hr2 (by omega))) ?_
      refine L.va rfl (X.assign (by conv => lhs; whnf)) ?_
      refine L.va rfl (X.assign (by conv => lhs; whnf)) ?_
      refine L.nil ?_
      refine J.seq ?_
      refine J.region ?_
      refine L.va rfl (X.move (by conv => lhs; whnf)) ?_
      refine L.va rfl (X.eql rfl rfl) ?_
      refine L.nil ?_
      -- cond
      refine J.dec rfl (fun h2 => ?_) (fun h2 => ?_)
      · rw [if_pos h2] at hs
        have hsl : (fK 2 s.ks (i + 1)).length = (fK 2 s.ks i).length + 1 := by rw [hs]; simp
        refine J.region ?_
        refine L.va rfl (X.move (by conv => lhs; whnf)) ?_
        refine L.va rfl (X.move (by conv => lhs; whnf)) ?_
        -- buildSlice
        refine L.bslice (vs := [_]) rfl (Evs.cons (by conv => lhs; whnf) Evs.nil) rfl rfl rfl rfl Try.underlying62 sz_3 zr_3 (by decide) ?_
        intro b3 w3 hb3 hs3 hk3 he3
        have ho3 := ho.ext he3
        -- append
        refine L.appendQ (q := (fK 2 s.ks (i + 1)).length) (ys := fK 2 s.ks i ++ [(i : Int)]) rfl rfl rfl Try.underlying62 el_3 (ho3) (blk_readsN (sz := 1) (q := 1) (l := nums .i64 [(i : Int)]) hk3 hk3.lt rfl) (by omega) (by simp) (by unfold maxLen; omega) (by omega) ?_
        intro A4 c4 w4 ho4 hg4 hb4 hor4
        rw [← hs] at ho4
        refine L.va rfl (X.assign (by conv => lhs; whnf)) ?_
        refine L.nil ?_
        refine J.region ?_
        refine L.va rfl (X.add rfl rfl (by omega)) ?_
        refine L.va rfl (X.move (by conv => lhs; whnf)) ?_
        refine L.nil ?_
        -- loopend
        refine ⟨(i + 1, A4, c4), At2 (by first | rfl | exact at_int rfl (by omega) | exact at_slice rfl (by omega) | exact at_int rfl (by simp)) (by first | rfl | exact at_int rfl (by omega) | exact at_slice rfl (by omega) | exact at_int rfl (by simp)), (by (iterate 15 refine Agr.lk rfl ?_); exact Agr.lk rfl (Agr.hav rfl Agr.rfl')), ?_⟩
        exact ⟨⟨by dsimp only; omega, ho4, (he.trans he3).low hb4 (Nat.le_refl _)⟩, by dsimp only; omega⟩
      · rw [if_neg h2, List.append_nil] at hs
        refine J.skip ?_
        refine J.region ?_
        refine L.va rfl (X.add rfl rfl (by omega)) ?_
        refine L.va rfl (X.move (by conv => lhs; whnf)) ?_
        refine L.nil ?_
        -- loopend
        refine ⟨(i + 1, A, c), At2 (at_int rfl (by omega)) (at_slice rfl (by rw [hs])), (by (iterate 10 refine Agr.lk rfl ?_); exact Agr.lk rfl (Agr.hav rfl Agr.rfl')), ?_⟩
        exact ⟨⟨by dsimp only; omega, by dsimp only; rw [hs]; exact ho, he⟩, by dsimp only; omega⟩
    · obtain rfl : i = s.ks.length := by dsimp only at hlt; omega
      refine J.exit ?_
      refine J.seq ?_
      refine J.region ?_
      refine L.va rfl (X.move (by conv => lhs; whnf)) ?_
      refine L.va rfl (X.assign (by conv => lhs; whnf)) ?_
      refine L.nil ?_
      -- ret
      refine J.ret ?_
      refine fin1 ?_
      exact ⟨A, c, rfl, ho, he⟩
/-- the free pages gathered anew -/
theorem At.gather_ (h : s.At N w) : Calls Try.prog 72 #[s.ptr] w fun e w' => e = .returned (.tuple #[]) ∧ ∃ A c, At { s with fA := A, fc := c, fr := initH (fK 0 s.ks s.ks.length) ((fK 0 s.ks s.ks.length).length / 2) } N w' ∧ Chg (· = s.d) w w' ∧ (∀ g, Value.ownBlock (.slice A (fK 0 s.ks s.ks.length).length c) = some g → w.heap.size ≤ g) := by
  have hb := h.hb
  have hl := h.hl
  refine enter Try.func72 rfl (by kernel_rfl) ?_
  refine J.seq ?_
  refine J.region ?_
  refine L.va rfl (X.move (by conv => lhs; whnf)) ?_
  refine L.va rfl (X.nilCheck rfl) ?_
  refine L.va rfl (X.fieldAddr rfl Try.underlying83 rfl sz_81 (by decide)) ?_
  -- store
  refine L.store rfl rfl (by conv => lhs; whnf) rfl sz_81 (hb) (by first | decide | exact Nat.le_of_ble_eq_true rfl) ?_
  intro w1 hb1 hg1 hs1
  have hk1 := h.hk.kept hg1 (.inr (own_blk_ne h.hk hb (by decide)))
  have K1 : Chg (· = s.d) w w1 := .of_grown hg1 (fun g hg => by injection hg with hg; exact hg.symm)
  have hz1 := h.nsz
  refine L.nil ?_
  refine J.seq ?_
  refine J.seq ?_
  refine J.region ?_
  refine L.va rfl (X.move (by conv => lhs; whnf)) ?_
  refine L.va rfl (X.nilCheck rfl) ?_
  refine L.va rfl (X.fieldAddr rfl Try.underlying83 rfl sz_62 (by decide)) ?_
  refine L.va rfl (X.load rfl sc_62 (by first | exact Ld.blk hb1 rfl)) ?_
  refine L.va rfl (X.len rfl Try.underlying62) ?_
  refine L.va rfl (X.move (by conv => lhs; whnf)) ?_
  refine L.nil ?_
  refine J.block ?_
  -- loop
  refine J.loop (X := Nat × Option Addr × Nat) [2, 3, 12, 13, 14, 15, 16, 17, 18, 19, 20, 21, 22, 23, 24, 25, 26, 27, 28, 29] (fun x => [(12, .int .i64 (x.1 : Int))]) (fun x w' => x.1 ≤ s.ks.length ∧ Hq w.heap.size w' s.d s.kinds x.2.1 x.2.2 (fK 0 s.ks x.1) ∧ w'.ownsRow N 3 1 s.kinds s.ks.length (nums .i64 s.ks) ∧ Chg (· = s.d) w w') (fun x => s.ks.length - x.1) ((0, none, 0)) (At1 (by first | rfl | exact at_int rfl (by omega) | exact at_slice rfl (by omega) | exact at_int rfl (by simp))) ?_ ?_
  · exact ⟨Nat.zero_le _, ⟨hb1, own_nilN _ _ _ _⟩, hk1, K1⟩
  · rintro ⟨i, A, c⟩ g w2 ⟨hi, H, hk, K⟩
    dsimp only at hi H
    have q1 : ((i, A, c) : Nat × Option Addr × Nat).1 = i := rfl
    have hr2 := Reads.of_own hk
    have hz := K.size
    have hfl := fK_len 0 s.ks i
    have hs := fK_succ 0 s.ks i
    have hb2 := H.hb
    refine J.seq ?_
    refine J.region ?_
    refine L.va rfl (X.lss rfl rfl) ?_
    refine L.nil ?_
    refine J.seq ?_
    -- cond
    refine J.dec rfl (fun hlt => ?_) (fun hlt => ?_)
    · have hil : i < s.ks.length := by dsimp only at hlt; omega
      refine J.skip ?_
      refine J.seq ?_
      refine J.block ?_
      refine J.seq ?_
      refine J.region ?_
      refine L.va rfl (X.move (by conv => lhs; whnf)) ?_
      refine L.va rfl ((by first | exact X.index1n rfl rfl Try.underlying62 sz_3 (by first | exact Option.some_ne_none _ | exact hr2.some_ (by omega)) (by omega) | exact X.index1 rfl rfl Try.underlying62 sz_3 (by first | exact Option.some_ne_none _ | exact hr2.some_ (by omega)) (by omega))) ?_
      refine L.va rfl (X.load rfl sc_3 (by first | exact Ld.num hr2 (by omega) | exact Ld.blk hb2 rfl)) ?_
      refine L.va rfl (X.assign (by conv => lhs; whnf)) ?_
      refine L.va rfl (X.assign (by conv => lhs; whnf)) ?_
      refine L.nil ?_
      refine J.seq ?_
      refine J.region ?_
      refine L.va rfl (X.move (by conv => lhs; whnf)) ?_
      refine L.va rfl (X.eql rfl rfl) ?_
      refine L.nil ?_
      -- cond
      refine J.dec rfl (fun h2 => ?_) (fun h2 => ?_)
      · rw [if_pos h2] at hs
        have hsl : (fK 0 s.ks (i + 1)).length = (fK 0 s.ks i).length + 1 := by rw [hs]; simp
        refine J.region ?_
        refine L.va rfl (X.move (by conv => lhs; whnf)) ?_
        refine L.va rfl (X.move (by conv => lhs; whnf)) ?_
        refine L.va rfl (X.nilCheck rfl) ?_
        refine L.va rfl (X.fieldAddr rfl Try.underlying83 rfl sz_81 (by decide)) ?_
        refine L.va rfl (X.load rfl sc_81 (by first | exact Ld.num hr2 (by omega) | exact Ld.blk hb2 rfl)) ?_
        refine L.va rfl (X.move (by conv => lhs; whnf)) ?_
        -- buildSlice
        refine L.bslice (vs := [_]) rfl (Evs.cons (by conv => lhs; whnf) Evs.nil) rfl rfl rfl rfl Try.underlying81 sz_3 zr_3 (by decide) ?_
        intro b3 w3 hb3 hs3 hk3 he3
        have ho3 := H.hf.ext he3
        have hkk3 := hk.ext he3
        have hb3' := hb2.ext he3
        -- append
        refine L.appendQ (q := (fK 0 s.ks (i + 1)).length) (ys := fK 0 s.ks i ++ [(i : Int)]) rfl rfl rfl Try.underlying81 el_3 (ho3) (blk_readsN (sz := 1) (q := 1) (l := nums .i64 [(i : Int)]) hk3 hk3.lt rfl) (by omega) (by simp) (by unfold maxLen; omega) (by omega) ?_
        intro A4 c4 w4 ho4 hg4 hb4 hor4
        rw [← hs] at ho4
        have hb4' := hb3'.grown hg4 (fun e => own_blk_ne ho3 hb3' (by decide) e.symm)
        have hkk4 := hkk3.kept hg4 (by
          cases hv : s.kinds.ownBlock with
          | none => exact .inl rfl
          | some g =>
            refine .inr fun e => ?_
            have k1 := (ho3.lt g e.symm).1
            have k2 := (h.hk.lt g hv).2
            omega)
        refine L.va rfl (X.nilCheck rfl) ?_
        refine L.va rfl (X.fieldAddr rfl Try.underlying83 rfl sz_81 (by decide)) ?_
        -- store
        refine L.store rfl rfl (by conv => lhs; whnf) rfl sz_81 (hb4') (by first | decide | exact Nat.le_of_ble_eq_true rfl) ?_
        intro w5 hb5 hg5 hs5
        refine L.nil ?_
        refine J.region ?_
        refine L.va rfl (X.add rfl rfl (by omega)) ?_
        refine L.va rfl (X.move (by conv => lhs; whnf)) ?_
        refine L.nil ?_
        -- loopend
        refine ⟨(i + 1, A4, c4), At1 (by first | rfl | exact at_int rfl (by omega) | exact at_slice rfl (by omega) | exact at_int rfl (by simp)), (by (iterate 20 refine Agr.lk rfl ?_); exact Agr.lk rfl (Agr.hav rfl Agr.rfl')), ?_⟩
        have K4 : Chg (· = s.d) w w4 := ⟨hg4.os.trans ((Below.os he3).trans K.os), hg4.tape.trans ((Below.tape he3).trans K.tape), hg4.output.trans ((Below.output he3).trans K.output), by have := hg4.size; have := he3.le; omega, fun g hg hne => (hg4.block g (by have := he3.le; omega) (fun e => by have := (ho3.lt g e.symm).1; omega)).trans ((Below.block he3 g (by omega)).trans (K.block g hg hne))⟩
        refine ⟨⟨by dsimp only; omega, ⟨hb5, ho4.kept hg5 (.inr (own_blk_ne ho4 hb4' (by decide)))⟩, hkk4.kept hg5 (.inr (own_blk_ne hkk4 hb4' (by decide))), K4.trans (S' := (· = s.d)) (.of_grown hg5 (fun g hg => by injection hg with hg; exact hg.symm)) (fun _ _ hh => hh)⟩, by dsimp only; omega⟩
      · rw [if_neg h2, List.append_nil] at hs
        refine J.skip ?_
        refine J.region ?_
        refine L.va rfl (X.add rfl rfl (by omega)) ?_
        refine L.va rfl (X.move (by conv => lhs; whnf)) ?_
        refine L.nil ?_
        -- loopend
        refine ⟨(i + 1, A, c), At1 (by first | rfl | exact at_int rfl (by omega) | exact at_slice rfl (by omega) | exact at_int rfl (by simp)), (by (iterate 10 refine Agr.lk rfl ?_); exact Agr.lk rfl (Agr.hav rfl Agr.rfl')), ?_⟩
        exact ⟨⟨by dsimp only; omega, by dsimp only; rw [hs]; exact H, hk, K⟩, by dsimp only; omega⟩
    · obtain rfl : i = s.ks.length := by dsimp only at hlt; omega
      have hne : ∀ g, s.kinds.ownBlock = some g → Value.ownBlock (.slice A (fK 0 s.ks s.ks.length).length c) ≠ some g := fun g hg e => by
        have k1 := (H.hf.lt g e).1
        have k2 := (h.hk.lt g hg).2
        omega
      refine J.exit ?_
      refine J.region ?_
      refine L.va rfl (X.move (by conv => lhs; whnf)) ?_
      refine L.va rfl (X.nilCheck rfl) ?_
      refine L.va rfl (X.fieldAddr rfl Try.underlying83 rfl sz_81 (by decide)) ?_
      refine L.va rfl (X.mkI rfl Try.underlying129 rfl) ?_
      -- callfn container/heap.Init
      refine L.call rfl en_105 rfl (H.init_ (by omega)) ?_
      rintro e w3 ⟨rfl, H3, hg3⟩
      refine ⟨_, rfl, ?_⟩
      refine L.nil ?_
      -- end
      refine fin0 (.inr rfl) ?_
      have hlen := initH_length (fK 0 s.ks s.ks.length) ((fK 0 s.ks s.ks.length).length / 2)
      refine ⟨rfl, A, c, ⟨H3.hb, hk.kept hg3 ?_, H3.hf.mono hz1, ?_, h.hN, h.hl, by dsimp only; rw [hlen]; omega⟩, K.trans (S' := fun g => Value.ownBlock (.slice A (fK 0 s.ks s.ks.length).length c) = some g) (.of_grown hg3 (fun g hg => hg)) (fun g hg hh => by have := (H.hf.lt g hh).1; omega), fun g hg => (H.hf.lt g hg).1⟩
      · cases hv : s.kinds.ownBlock with
        | none => exact .inl rfl
        | some g => exact .inr fun e => hne g hv e.symm
      · intro g hg e
        have e' : Value.ownBlock (.slice A (initH (fK 0 s.ks s.ks.length) ((fK 0 s.ks s.ks.length).length / 2)).length c) = some g := e
        rw [hlen] at e'
        exact hne g hg e'
end Sp
end Go.Proofs.Ytdmfikedojgjbaa
