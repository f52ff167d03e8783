/-
  All names of a schema, in the reference.
-/
import Derived.Test.YtlipeplfjkgamaaWSchA
import Derived.Test.YtlipeplfjkgamaaWMasks
namespace Go.Proofs.Ytlipeplfjkgamaa
set_option maxRecDepth 100000
open Go.RowKit H
set_option linter.unusedVariables false
theorem grb_new {a b c : World} {r r' : Option Nat} (h : a.grownBy b r) (k : b.grownBy c r') (hr : r' = r ∨ ∃ g, r' = some g ∧ a.heap.size ≤ g) : a.grownBy c r :=
  ⟨k.os.trans h.os, k.tape.trans h.tape, k.output.trans h.output, Nat.le_trans h.size k.size, fun i hi hne => (k.block i (Nat.lt_of_lt_of_le hi h.size) (by
    rcases hr with rfl | ⟨g, rfl, hg⟩
    · exact hne
    · intro he; injection he with he; omega)).trans (h.block i hi hne)⟩
theorem rnames_any (Ad : Option Addr) (nd cd : Nat) (A1 : Option Addr) (n1 c1 : Nat) (A2 : Option Addr) (n2 c2 : Nat) (Av : Option Addr) (nv cv : Nat) (ds : List (ByteArray × Int)) (s1 s2 : List ByteArray) (w : World)
    (hd : Reads w w.heap.size 2 Ad nd (dimsV ds)) (h1 : Reads w w.heap.size 1 A1 n1 (strs s1)) (h2 : Reads w w.heap.size 1 A2 n2 (strs s2)) (hnd : nd ≤ 1000) (hn1 : n1 ≤ 1000) (hn2 : n2 ≤ 1000) :
    Calls Try.prog 85 #[.agg #[.slice Ad nd cd, .slice A1 n1 c1, .slice A2 n2 c2, .slice Av nv cv]] w fun e w' => ∃ A c, e = .returned (.slice A (nd + n1 + n2) c) ∧ w'.ownsRow w.heap.size 9 1 (.slice A (nd + n1 + n2) c) (nd + n1 + n2) (strs (nmL ds s1 s2)) ∧ Ext w w' := by
  have hl : ds.length = nd := by have := hd.1; rw [dimsV_length] at this; omega
  refine enter Try.func85 rfl (by kernel_rfl) ?_
  refine J.seq ?_
  refine J.region ?_
  -- box
  refine L.boxA (l := [_, _, _, _]) rfl rfl ?_
  intro b1 w1 hb1 hs1 hk1 he1
  refine L.va rfl (X.assign (by conv => lhs; whnf)) ?_
  refine L.nil ?_
  refine J.seq ?_
  refine J.region ?_
  refine L.va rfl (X.assign (by conv => lhs; whnf)) ?_
  refine L.nil ?_
  refine J.seq ?_
  refine J.seq ?_
  refine J.region ?_
  refine L.va rfl (X.assign (by conv => lhs; whnf)) ?_
  refine L.nil ?_
  refine J.block ?_
  -- loop
  refine J.loop (X := Nat × Option Addr × Nat) [3, 4, 5, 6, 7, 8, 9, 10, 11, 12, 13, 14, 15, 16, 17, 18, 19, 20] (fun x => [(4, .int .i64 (x.1 : Int)), (3, .slice x.2.1 x.1 x.2.2)]) (fun x w' => x.1 ≤ nd ∧ w'.ownsRow w.heap.size 9 1 (.slice x.2.1 x.1 x.2.2) x.1 (strs ((ds.take x.1).map (·.1))) ∧ Blk w' b1 49 #[.slice Ad nd cd, .slice A1 n1 c1, .slice A2 n2 c2, .slice Av nv cv] ∧ Ext w w') (fun x => nd - x.1) ((0, none, 0)) (At2 (by first | rfl | exact at_int rfl (by omega) | exact at_slice rfl (by omega) | exact at_int rfl (by simp)) (by first | rfl | exact at_int rfl (by omega) | exact at_slice rfl (by omega) | exact at_int rfl (by simp))) ?_ ?_
  · exact ⟨by dsimp only; omega, own_nil _ _ _ _, hk1, he1⟩
  · rintro ⟨i, A, c⟩ g w2 ⟨hi, ho2, hk12, he2⟩
    dsimp only at hi ho2
    have q1 : ((i, A, c) : Nat × Option Addr × Nat).1 = i := rfl
    have hz2 := he2.le
    have hd2 := hd.ext he2
    refine J.seq ?_
    refine J.seq ?_
    refine J.region ?_
    refine L.va rfl (X.move (by conv => lhs; whnf)) ?_
    refine L.va rfl (X.fieldAddr rfl Try.underlying49 rfl sz_45 (by decide)) ?_
    refine L.va rfl (X.load rfl sc_45 (by first | exact Ld.blk hk12 rfl | exact Ld.rd hd2 (by omega))) ?_
    refine L.va rfl (X.len rfl Try.underlying45) ?_
    refine L.va rfl (X.lss rfl rfl) ?_
    refine L.nil ?_
    -- cond
    refine J.dec rfl (fun hlt => ?_) (fun hlt => ?_)
    · have hil : i < ds.length := by rw [hl]; dsimp only at hlt; omega
      -- t18
      refine J.skip ?_
      refine J.seq ?_
      refine J.block ?_
      refine J.region ?_
      refine L.va rfl (X.move (by conv => lhs; whnf)) ?_
      refine L.va rfl (X.fieldAddr rfl Try.underlying49 rfl sz_45 (by decide)) ?_
      refine L.va rfl (X.load rfl sc_45 (by first | exact Ld.blk hk12 rfl | exact Ld.rd hd2 (by omega))) ?_
      refine L.va rfl (X.move (by conv => lhs; whnf)) ?_
      refine L.va rfl ((by first | exact X.indexAddrn rfl rfl Try.underlying45 sz_128 (by first | exact Option.some_ne_none _ | exact hd2.some_ (by omega)) (by omega) | exact X.indexAddr rfl rfl Try.underlying45 sz_128 (by first | exact Option.some_ne_none _ | exact hd2.some_ (by omega)) (by omega))) ?_
      refine L.va rfl (X.fieldP rfl Try.underlying128 rfl sz_9 (by decide) (by first | exact Option.some_ne_none _ | exact hd2.some_ (by omega))) ?_
      refine L.va rfl (X.load rfl sc_9 (Ld.dimS hd2 (by omega))) ?_
      -- buildSlice
      refine L.bslice (vs := [_]) rfl (Evs.cons (by conv => lhs; whnf) Evs.nil) rfl rfl rfl rfl Try.underlying46 sz_9 zr_9 (by decide) ?_
      intro b5 w5 hb5 hs5 hk5 he5
      have hz5 := he5.le
      have hkS := hk12
      -- append
      refine L.appendV (q := i + 1) (ys := strs ((ds.take i).map (·.1)) ++ strs [(ds.getD i d0).1]) rfl rfl rfl Try.underlying46 el_9 (ho2.ext he5) ((blk_reads (q := 1) (l := strs [(ds.getD i d0).1]) hk5 (by omega : b5 < w5.heap.size) rfl)) (by first | rfl | exact strs_ones _ | assumption) (by omega) (by simp) (by unfold maxLen; omega) (by omega) ?_
      intro A6 c6 w6 ho6 hg6 hb6 hor6
      rw [strs_append, ← names_take hil] at ho6
      have he6 : Ext w w6 := (he2.trans he5).low hb6 (Nat.le_refl _)
      have hkS6 := (hkS.ext he5).grown hg6 (fun h => own_blk_ne (ho2.ext he5) (hkS.ext he5) (by decide) h.symm)
      refine L.va rfl (X.assign (by conv => lhs; whnf)) ?_
      refine L.nil ?_
      refine J.region ?_
      refine L.va rfl (X.move (by conv => lhs; whnf)) ?_
      refine L.va rfl (X.add rfl rfl (by omega)) ?_
      refine L.va rfl (X.assign (by conv => lhs; whnf)) ?_
      refine L.nil ?_
      -- loopend
      refine ⟨(i + 1, A6, c6), At2 (by first | rfl | exact at_int rfl (by omega) | exact at_slice rfl (by omega) | exact at_int rfl (by simp)) (by first | rfl | exact at_int rfl (by omega) | exact at_slice rfl (by omega) | exact at_int rfl (by simp)), (by (iterate 18 refine Agr.lk rfl ?_); exact Agr.lk rfl (Agr.hav rfl Agr.rfl')), ?_⟩
      exact ⟨⟨by dsimp only; omega, ho6, hkS6, he6⟩, by dsimp only; omega⟩
    · obtain rfl : i = nd := by dsimp only at hlt; omega
      rw [List.take_of_length_le (by omega)] at ho2
      have r1 := (h1.ext he2).here (by decide : 0 < 1)
      have r2 := (h2.ext he2).here (by decide : 0 < 1)
      refine J.exit ?_
      refine J.seq ?_
      -- draw
      have hne := own_blk_ne ho2 hk12 (by decide)
      refine J.draw (ℓ := 1000000) (S := (fun w' => w2.grownBy w' (Value.slice A i c).ownBlock)) mixed (fun w3 hSE hS_h => ?_)
      have hS : ((fun w' => w2.grownBy w' (Value.slice A i c).ownBlock)) w3 := grown_ext hSE
      refine D.va 0 rfl (by kernel_rfl) (fun _ _ _ h => h) rfl (fun w' hw => X.move (by conv => lhs; whnf)) hS ?_
      refine D.va 1 rfl (by kernel_rfl) (fun _ _ _ h => h) rfl (fun w' hw => X.fieldAddr rfl Try.underlying49 rfl sz_46 (by decide)) hS ?_
      refine D.va 2 rfl (by kernel_rfl) (fun _ _ _ h => h) rfl (fun w' hw => X.load rfl sc_46 (by first | exact Ld.blk (hk12.grown hw (fun h => hne h.symm)) rfl)) hS ?_
      refine D.va 4 rfl (by kernel_rfl) (fun _ _ _ h => h) rfl (fun w' hw => X.fieldAddr rfl Try.underlying49 rfl sz_46 (by decide)) hS ?_
      refine D.va 5 rfl (by kernel_rfl) (fun _ _ _ h => h) rfl (fun w' hw => X.load rfl sc_46 (by first | exact Ld.blk (hk12.grown hw (fun h => hne h.symm)) rfl)) hS ?_
      -- append
      have hz3 := hSE.le
      refine D.one 3 (by kernel_rfl) rfl ?_
      refine L.appendV (q := i + n1) (ys := strs (ds.map (·.1)) ++ strs s1) rfl rfl rfl Try.underlying46 el_9 (ho2.ext hSE) ((r1.ext hSE).here (by decide)) (by first | rfl | exact strs_ones _ | assumption) (by omega) (by simp) (by unfold maxLen; omega) (by omega) ?_
      intro A3 c3 w4 ho3 hg3 hb3 hor3
      have hS1 := grb_trans hS hg3
      refine L.nil ?_
      refine ⟨fun _ => hS1, ?_⟩
      rw [strs_append] at ho3
      have he4 : Ext w w4 := (he2.trans hSE).low hb3 (Nat.le_refl _)
      have hz4 := he4.le
      -- append
      refine D.one 6 (by kernel_rfl) rfl ?_
      refine L.appendV (q := i + n1 + n2) (ys := strs (ds.map (·.1) ++ s1) ++ strs s2) rfl rfl rfl Try.underlying46 el_9 (ho3) ((h2.ext he4).here (by decide)) (by first | rfl | exact strs_ones _ | assumption) (by omega) (by simp) (by unfold maxLen; omega) (by omega) ?_
      intro A4 c4 w5 ho4 hg4 hb4 hor4
      have hS2 := grb_new hS1 hg4 (by rcases hor3 with h | h; exact .inl h; exact .inr ⟨_, h, hz3⟩)
      refine L.nil ?_
      refine ⟨fun _ => hS2, ?_⟩
      rw [strs_append] at ho4
      refine D.va 7 rfl (by kernel_rfl) (fun _ _ _ h => h) rfl (fun w' hw => X.assign (by conv => lhs; whnf)) hS2 ?_
      refine D.done (by kernel_rfl) ?_
      replace hk12 := hk12.grown hS2 (fun h => hne h.symm)
      -- ret
      refine J.ret ?_
      refine fin1 ?_
      exact ⟨A4, c4, rfl, ho4, he4.low hb4 (Nat.le_refl _)⟩
end Go.Proofs.Ytlipeplfjkgamaa
