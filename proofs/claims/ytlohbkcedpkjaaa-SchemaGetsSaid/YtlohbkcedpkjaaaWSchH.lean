/-
  A schema's texts read, in the program and in the reference.
-/
import Derived.Test.YtlohbkcedpkjaaaWBufT
import Derived.Test.YtlohbkcedpkjaaaWSchG
import Derived.Test.YtlohbkcedpkjaaaSchCodePlain
namespace Go.Proofs.Ytlohbkcedpkjaaa
set_option maxRecDepth 100000
open Go.RowKit H
open Byts Cod
set_option linter.unusedVariables false
theorem strs_map_snoc (l : List (List Int)) (x : List Int) : strs ((l ++ [x]).map strOfNums) = strs (l.map strOfNums) ++ [.string (strOfNums x)] := by simp [strs]
theorem rdX_bd {zs : List Int} (hz : ∀ z ∈ zs, 0 ≤ z ∧ z < 256) {most : Int} (h0 : 0 ≤ most) {s : RS} (h : Fit zs s) : ∃ k : Nat, (rdU zs most s).1 = (k : Int) ∧ (k : Int) ≤ most ∧ rdX zs most s = rdL (fun s => rdT zs 16 s) k (rdU zs most s).2 := by
  have := rdU_fit hz most h0 h
  refine ⟨(rdU zs most s).1.toNat, by omega, by omega, rfl⟩
theorem rdL_next (f : RS → List Int × RS) (k : Nat) (s : RS) : rdL f (k + 1) s = ((rdL f k s).1 ++ [(f (rdL f k s).2).1], (f (rdL f k s).2).2) := rfl
theorem InB.texts {w : World} {b : Nat} {A : Option Addr} {n c : Nat} {zs : List Int} {s : RS} (h : InB w b A n c zs s) (most : Int) (h0 : 0 ≤ most ∧ most ≤ 100) :
    Calls Try.prog 80 #[.pointer (some ⟨b, 0, none⟩), .int .u64 most] w fun e w' => ∃ A' c', e = .returned (.slice A' (rdX zs most s).1.length c') ∧ w'.ownsRow w.heap.size 9 1 (.slice A' (rdX zs most s).1.length c') (rdX zs most s).1.length (strs ((rdX zs most s).1.map strOfNums)) ∧ InB w' b A n c zs (rdX zs most s).2 ∧ Chg (· = b) w w' := by
  obtain ⟨k, hk, hkm, hX⟩ := rdX_bd h.hz h0.1 h.hf
  have hlk := rdL_length (f := fun s => rdT zs 16 s) (rdU zs most s).2
  rw [hX, hlk k]
  refine enter Try.func80 rfl (by kernel_rfl) ?_
  refine J.seq ?_
  refine J.region ?_
  refine L.va rfl (X.assign (by conv => lhs; whnf)) ?_
  refine L.nil ?_
  refine J.seq ?_
  refine J.region ?_
  refine L.va rfl (X.assign (by conv => lhs; whnf)) ?_
  refine L.nil ?_
  refine J.seq ?_
  refine J.seq ?_
  refine J.region ?_
  refine L.va rfl (X.move (by conv => lhs; whnf)) ?_
  refine L.va rfl (X.move (by conv => lhs; whnf)) ?_
  -- callfn (*bushel/buf.In).U
  refine L.call rfl en_78 rfl (h.U most h0.1) ?_
  rintro e w1 ⟨rfl, h1, hc1⟩
  refine ⟨_, rfl, ?_⟩
  have z1 := hc1.size
  rw [hk]
  refine L.va rfl (X.move (by conv => lhs; whnf)) ?_
  refine L.nil ?_
  refine J.block ?_
  -- loop
  refine J.loop (X := Nat × Option Addr × Nat) [5, 9, 10, 11, 12, 13, 14, 15, 16] (fun x => [(9, .int .u64 (x.1 : Int)), (5, .slice x.2.1 x.1 x.2.2)]) (fun x w' => x.1 ≤ k ∧ w'.ownsRow w.heap.size 9 1 (.slice x.2.1 x.1 x.2.2) x.1 (strs ((rdL (fun s => rdT zs 16 s) x.1 (rdU zs most s).2).1.map strOfNums)) ∧ InB w' b A n c zs (rdL (fun s => rdT zs 16 s) x.1 (rdU zs most s).2).2 ∧ Chg (· = b) w w') (fun x => k - x.1) ((0, none, 0)) (At2 (by first | rfl | exact at_int rfl (by omega) | exact at_slice rfl (by omega) | exact at_int rfl (by simp)) (by first | rfl | exact at_int rfl (by omega) | exact at_slice rfl (by omega) | exact at_int rfl (by simp))) ?_ ?_
  · exact ⟨Nat.zero_le _, own_nil _ _ _ _, h1, hc1⟩
  · rintro ⟨i, A2, c2⟩ g w2 ⟨hi, ho2, h2, hc2⟩
    dsimp only at hi ho2 h2
    have q1 : ((i, A2, c2) : Nat × Option Addr × Nat).1 = i := rfl
    have z2 := hc2.size
    refine J.seq ?_
    refine J.region ?_
    refine L.va rfl (X.lss rfl rfl) ?_
    refine L.nil ?_
    refine J.seq ?_
    -- cond
    refine J.dec rfl (fun hlt => ?_) (fun hlt => ?_)
    · have hik : i < k := by dsimp only at hlt; omega
      refine J.skip ?_
      refine J.seq ?_
      refine J.block ?_
      refine J.region ?_
      refine L.va rfl (X.move (by conv => lhs; whnf)) ?_
      refine L.va rfl (X.move (by conv => lhs; whnf)) ?_
      -- callfn (*bushel/buf.In).T
      refine L.call rfl en_79 rfl (h2.T 16 (by decide)) ?_
      rintro e w3 ⟨rfl, h3, hc3⟩
      refine ⟨_, rfl, ?_⟩
      have ho3 := hc3.own ho2 (fun g hg e => own_blkne ho2 h2.hk (by decide) (e ▸ hg))
      have z3 := hc3.size
      -- buildSlice
      refine L.bslice (vs := [_]) rfl (Evs.cons (by conv => lhs; whnf) Evs.nil) rfl rfl rfl rfl Try.underlying31 sz_9 zr_9 (by decide) ?_
      intro b4 w4 hb4 hs4 hk4 he4
      have ho4 := ho3.ext he4
      have h4 := h3.ext he4
      -- append
      refine L.appendV (q := i + 1) (ys := _) rfl rfl rfl Try.underlying31 el_9 (ho4) (blk_readsN (sz := 1) (q := 1) (l := [.string (strOfNums (rdT zs 16 (rdL (fun s => rdT zs 16 s) i (rdU zs most s).2).2).1)]) hk4 hk4.lt rfl) (by first | rfl | exact strs_ones _ | assumption) (by omega) rfl (by unfold maxLen; omega) (by omega) ?_
      intro A5 c5 w5 ho5 hg5 hb5 hor5
      have h5 := h4.chg (S := fun g => (Value.slice A2 i c2).ownBlock = some g) (.of_grown hg5 (fun g e => e)) (own_blkne ho4 h4.hk (by decide)) (fun g hg e => own_apart h4.ho ho4 (by decide) hg e)
      refine L.va rfl (X.assign (by conv => lhs; whnf)) ?_
      refine L.nil ?_
      refine J.region ?_
      refine L.va rfl (X.addU rfl rfl (by omega)) ?_
      refine L.va rfl (X.move (by conv => lhs; whnf)) ?_
      refine L.nil ?_
      -- loopend
      refine ⟨(i + 1, A5, c5), At2 (by first | rfl | exact at_int rfl (by omega) | exact at_slice rfl (by omega) | exact at_int rfl (by simp)) (by first | rfl | exact at_int rfl (by omega) | exact at_slice rfl (by omega) | exact at_int rfl (by simp)), (by (iterate 9 refine Agr.lk rfl ?_); exact Agr.lk rfl (Agr.hav rfl Agr.rfl')), ?_⟩
      refine ⟨⟨by dsimp only; omega, ?_, h5, ?_⟩, by dsimp only; omega⟩
      · dsimp only
        rw [rdL_next, strs_map_snoc]
        exact ho5
      · exact (hc2.trans hc3 (fun _ _ => id)).trans (.of_ext he4) (S' := (· = b)) (fun _ _ => id) |>.new hg5 (fun g hg => (ho4.lt g hg).1)
    · obtain rfl : i = k := by dsimp only at hlt; omega
      refine J.exit ?_
      refine J.seq ?_
      refine J.region ?_
      refine L.va rfl (X.move (by conv => lhs; whnf)) ?_
      refine L.va rfl (X.assign (by conv => lhs; whnf)) ?_
      refine L.nil ?_
      -- ret
      refine J.ret ?_
      refine fin1 ?_
      exact ⟨A2, c2, rfl, ho2, h2, hc2⟩
theorem RdB.list {w : World} {b : Nat} {A : Option Addr} {n c : Nat} {zs : List Int} {s : RS} (h : RdB w b A n c zs s) (most : Int) (h0 : 0 ≤ most ∧ most ≤ 100) :
    Calls Try.prog 84 #[.pointer (some ⟨b, 0, none⟩), .int .u64 most] w fun e w' => ∃ A' c', e = .returned (.slice A' (rdX zs most s).1.length c') ∧ w'.ownsRow w.heap.size 9 1 (.slice A' (rdX zs most s).1.length c') (rdX zs most s).1.length (strs ((rdX zs most s).1.map strOfNums)) ∧ RdB w' b A n c zs (rdX zs most s).2 ∧ Chg (· = b) w w' := by
  obtain ⟨k, hk, hkm, hX⟩ := rdX_bd h.hz h0.1 h.hf
  have hlk := rdL_length (f := fun s => rdT zs 16 s) (rdU zs most s).2
  rw [hX, hlk k]
  have hbl := h.hk.lt
  refine enter Try.func84 rfl (by kernel_rfl) ?_
  refine J.seq ?_
  refine J.region ?_
  refine L.va rfl (X.assign (by conv => lhs; whnf)) ?_
  refine L.nil ?_
  refine J.seq ?_
  refine J.region ?_
  refine L.va rfl (X.assign (by conv => lhs; whnf)) ?_
  refine L.nil ?_
  refine J.seq ?_
  refine J.region ?_
  refine L.va rfl (X.move (by conv => lhs; whnf)) ?_
  refine L.va rfl (X.move (by conv => lhs; whnf)) ?_
  -- callfn (*bushel/bushelref11.Reader).U
  refine L.call rfl en_82 rfl (h.rU most h0.1) ?_
  rintro e w1 ⟨rfl, h1, hc1⟩
  refine ⟨_, rfl, ?_⟩
  have z1 := hc1.size
  rw [hk]
  refine L.va rfl ((by first | exact X.convI rfl is_73 Try.underlying3 (by omega) | exact X.convw rfl is_73 Try.underlying3)) ?_
  refine L.va rfl (X.assign (by conv => lhs; whnf)) ?_
  refine L.nil ?_
  refine J.seq ?_
  refine J.seq ?_
  refine J.region ?_
  refine L.va rfl (X.assign (by conv => lhs; whnf)) ?_
  refine L.nil ?_
  refine J.block ?_
  -- loop
  refine J.loop (X := Nat × Option Addr × Nat) [5, 7, 12, 13, 14, 15, 16, 17, 18, 19, 20, 21] (fun x => [(7, .int .i64 (x.1 : Int)), (5, .slice x.2.1 x.1 x.2.2)]) (fun x w' => x.1 ≤ k ∧ w'.ownsRow w.heap.size 9 1 (.slice x.2.1 x.1 x.2.2) x.1 (strs ((rdL (fun s => rdT zs 16 s) x.1 (rdU zs most s).2).1.map strOfNums)) ∧ RdB w' b A n c zs (rdL (fun s => rdT zs 16 s) x.1 (rdU zs most s).2).2 ∧ Chg (· = b) w w') (fun x => k - x.1) ((0, none, 0)) (At2 (by first | rfl | exact at_int rfl (by omega) | exact at_slice rfl (by omega) | exact at_int rfl (by simp)) (by first | rfl | exact at_int rfl (by omega) | exact at_slice rfl (by omega) | exact at_int rfl (by simp))) ?_ ?_
  · exact ⟨Nat.zero_le _, own_nil _ _ _ _, h1, hc1⟩
  · rintro ⟨i, A2, c2⟩ g w2 ⟨hi, ho2, h2, hc2⟩
    dsimp only at hi ho2 h2
    have q1 : ((i, A2, c2) : Nat × Option Addr × Nat).1 = i := rfl
    have z2 := hc2.size
    refine J.seq ?_
    refine J.seq ?_
    refine J.region ?_
    refine L.va rfl (X.move (by conv => lhs; whnf)) ?_
    refine L.va rfl (X.move (by conv => lhs; whnf)) ?_
    refine L.va rfl (X.lss rfl rfl) ?_
    refine L.nil ?_
    -- cond
    refine J.dec rfl (fun hlt => ?_) (fun hlt => ?_)
    · have hik : i < k := by dsimp only at hlt; omega
      refine J.skip ?_
      refine J.seq ?_
      refine J.block ?_
      refine J.region ?_
      refine L.va rfl (X.move (by conv => lhs; whnf)) ?_
      refine L.va rfl (X.move (by conv => lhs; whnf)) ?_
      -- callfn (*bushel/bushelref11.Reader).T
      refine L.call rfl en_83 rfl (h2.rT 16 (by decide)) ?_
      rintro e w3 ⟨rfl, h3, hc3⟩
      refine ⟨_, rfl, ?_⟩
      have ho3 := hc3.own ho2 (fun g hg e => own_blkne ho2 h2.hk (by decide) (e ▸ hg))
      have z3 := hc3.size
      -- buildSlice
      refine L.bslice (vs := [_]) rfl (Evs.cons (by conv => lhs; whnf) Evs.nil) rfl rfl rfl rfl Try.underlying31 sz_9 zr_9 (by decide) ?_
      intro b4 w4 hb4 hs4 hk4 he4
      have ho4 := ho3.ext he4
      have h4 := h3.ext he4
      -- append
      refine L.appendV (q := i + 1) (ys := _) rfl rfl rfl Try.underlying31 el_9 (ho4) (blk_readsN (sz := 1) (q := 1) (l := [.string (strOfNums (rdT zs 16 (rdL (fun s => rdT zs 16 s) i (rdU zs most s).2).2).1)]) hk4 hk4.lt rfl) (by first | rfl | exact strs_ones _ | assumption) (by omega) rfl (by unfold maxLen; omega) (by omega) ?_
      intro A5 c5 w5 ho5 hg5 hb5 hor5
      have h5 := h4.below (hb5.mono (by omega))
      refine L.va rfl (X.assign (by conv => lhs; whnf)) ?_
      refine L.nil ?_
      refine J.region ?_
      refine L.va rfl (X.move (by conv => lhs; whnf)) ?_
      refine L.va rfl (X.add rfl rfl (by omega)) ?_
      refine L.va rfl (X.assign (by conv => lhs; whnf)) ?_
      refine L.nil ?_
      -- loopend
      refine ⟨(i + 1, A5, c5), At2 (by first | rfl | exact at_int rfl (by omega) | exact at_slice rfl (by omega) | exact at_int rfl (by simp)) (by first | rfl | exact at_int rfl (by omega) | exact at_slice rfl (by omega) | exact at_int rfl (by simp)), (by (iterate 12 refine Agr.lk rfl ?_); exact Agr.lk rfl (Agr.hav rfl Agr.rfl')), ?_⟩
      refine ⟨⟨by dsimp only; omega, ?_, h5, ?_⟩, by dsimp only; omega⟩
      · dsimp only
        rw [rdL_next, strs_map_snoc]
        exact ho5
      · exact (hc2.trans hc3 (fun _ _ => id)).trans (.of_ext he4) (S' := (· = b)) (fun _ _ => id) |>.new hg5 (fun g hg => (ho4.lt g hg).1)
    · obtain rfl : i = k := by dsimp only at hlt; omega
      refine J.exit ?_
      refine J.seq ?_
      refine J.region ?_
      refine L.va rfl (X.move (by conv => lhs; whnf)) ?_
      refine L.va rfl (X.assign (by conv => lhs; whnf)) ?_
      refine L.nil ?_
      -- ret
      refine J.ret ?_
      refine fin1 ?_
      exact ⟨A2, c2, rfl, ho2, h2, hc2⟩
end Go.Proofs.Ytlohbkcedpkjaaa
