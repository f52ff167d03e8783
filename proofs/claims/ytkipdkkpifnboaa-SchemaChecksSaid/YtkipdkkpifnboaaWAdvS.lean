/-
  The reference's Choose of package advise, and Masks.
-/
import Derived.Test.YtkipdkkpifnboaaWAdvR
namespace Go.Proofs.Ytkipdkkpifnboaa
open Go.RowKit H
open Mk Ad
set_option linter.unusedVariables false
theorem rmasks_same (A B : Option Addr) (m c1 c2 : Nat) (zs : List Int) (w : World) (h1 : Reads w w.heap.size 1 A m (nums .u32 zs)) (h2 : Reads w w.heap.size 1 B m (nums .u32 zs)) (hm : m ≤ 9223372036854775807) :
    Calls Try.prog 21 #[.slice A m c1, .slice B m c2] w fun e w' => e = .returned (.bool true) ∧ Ext w w' := by
  refine enter Try.func21 rfl (by kernel_rfl) ?_
  refine J.seq ?_
  refine J.region ?_
  refine L.va rfl (X.assign (by conv => lhs; whnf)) ?_
  refine L.nil ?_
  refine J.seq ?_
  refine J.seq ?_
  refine J.region ?_
  refine L.va rfl (X.move (by conv => lhs; whnf)) ?_
  refine L.va rfl (X.len rfl Try.underlying23) ?_
  refine L.va rfl (X.move (by conv => lhs; whnf)) ?_
  refine L.va rfl (X.len rfl Try.underlying23) ?_
  refine L.va rfl (X.neq rfl rfl) ?_
  refine L.nil ?_
  -- cond
  refine J.ndecF rfl (by omega) ?_
  refine J.skip ?_
  refine J.seq ?_
  refine J.seq ?_
  refine J.region ?_
  refine L.va rfl (X.assign (by conv => lhs; whnf)) ?_
  refine L.nil ?_
  refine J.block ?_
  -- loop
  refine J.loop (X := Nat) [4, 5, 11, 12, 13, 14, 15, 16, 17, 18, 19, 20, 21, 22, 23, 24, 25] (fun i => [(5, .int .i64 (i : Int))]) (fun i w' => i ≤ m ∧ Ext w w') (fun i => m - i) (0) (At1 (by first | rfl | exact at_int rfl (by omega) | exact at_slice rfl (by omega) | exact at_int rfl (by simp))) ?_ ?_
  · exact ⟨by omega, Ext.refl _⟩
  · rintro i g w2 ⟨hi, he⟩
    have k1 := h1.ext he
    have k2 := h2.ext he
    refine J.seq ?_
    refine J.seq ?_
    refine J.region ?_
    refine L.va rfl (X.move (by conv => lhs; whnf)) ?_
    refine L.va rfl (X.move (by conv => lhs; whnf)) ?_
    refine L.va rfl (X.len rfl Try.underlying23) ?_
    refine L.va rfl (X.lss rfl rfl) ?_
    refine L.nil ?_
    -- cond
    refine J.dec rfl (fun hlt => ?_) (fun hlt => ?_)
    · refine J.skip ?_
      refine J.seq ?_
      refine J.block ?_
      refine J.seq ?_
      -- draw
      refine J.quiet mixed (by kernel_rfl) ?_
      refine Qt.va rfl (fun w' hw => X.move (by conv => lhs; whnf)) ?_
      refine Qt.va rfl (fun w' hw => X.move (by conv => lhs; whnf)) ?_
      refine Qt.va rfl (fun w' hw => (by first | exact X.index1n rfl rfl Try.underlying23 sz_29 (by first | exact Option.some_ne_none _ | exact k1.some_ (by omega) | exact k2.some_ (by omega)) (by omega) | exact X.index1 rfl rfl Try.underlying23 sz_29 (by first | exact Option.some_ne_none _ | exact k1.some_ (by omega) | exact k2.some_ (by omega)) (by omega))) ?_
      refine Qt.va rfl (fun w' hw => X.load rfl sc_29 (by first | exact Ld.num (k1.ext hw) (by omega) | exact Ld.num (k2.ext hw) (by omega))) ?_
      refine Qt.va rfl (fun w' hw => X.move (by conv => lhs; whnf)) ?_
      refine Qt.va rfl (fun w' hw => X.move (by conv => lhs; whnf)) ?_
      refine Qt.va rfl (fun w' hw => (by first | exact X.index1n rfl rfl Try.underlying23 sz_29 (by first | exact Option.some_ne_none _ | exact k1.some_ (by omega) | exact k2.some_ (by omega)) (by omega) | exact X.index1 rfl rfl Try.underlying23 sz_29 (by first | exact Option.some_ne_none _ | exact k1.some_ (by omega) | exact k2.some_ (by omega)) (by omega))) ?_
      refine Qt.va rfl (fun w' hw => X.load rfl sc_29 (by first | exact Ld.num (k1.ext hw) (by omega) | exact Ld.num (k2.ext hw) (by omega))) ?_
      refine Qt.va rfl (fun w' hw => X.neq rfl rfl) ?_
      refine Qt.nil (fun w3 hq => ?_)
      replace k1 := k1.ext hq
      replace k2 := k2.ext hq
      -- cond
      refine J.ndecF rfl (by omega) ?_
      refine J.skip ?_
      refine J.region ?_
      refine L.va rfl (X.move (by conv => lhs; whnf)) ?_
      refine L.va rfl (X.add rfl rfl (by omega)) ?_
      refine L.va rfl (X.assign (by conv => lhs; whnf)) ?_
      refine L.nil ?_
      -- loopend
      refine ⟨i + 1, At1 (by first | rfl | exact at_int rfl (by omega) | exact at_slice rfl (by omega) | exact at_int rfl (by simp)), (by (iterate 16 refine Agr.lk rfl ?_); exact Agr.lk rfl (Agr.hav rfl Agr.rfl')), ?_⟩
      exact ⟨⟨by omega, he.trans hq⟩, by omega⟩
    · refine J.exit ?_
      refine J.seq ?_
      refine J.region ?_
      refine L.va rfl (X.assign (by conv => lhs; whnf)) ?_
      refine L.nil ?_
      -- ret
      refine J.ret ?_
      refine fin1 ?_
      exact ⟨rfl, he⟩
theorem rchoose_any (A : Option Addr) (q c : Nat) (k : Int) (ss : List Int) (w : World) (hr : Reads w w.heap.size 1 A q (nums .i64 ss)) (hq64 : q ≤ 64) (hq0 : 0 < q) (hS : Ok ss) :
    Calls Try.prog 22 #[.slice A q c, .int .i64 k] w fun e w' => ∃ A' c', e = .returned (.slice A' (grd ss k.toNat []).length c') ∧ w'.ownsRow w.heap.size 29 1 (.slice A' (grd ss k.toNat []).length c') (grd ss k.toNat []).length (nums .u32 (zl (grd ss k.toNat []))) ∧ Ext w w' := by
  have hl : ss.length = q := by have := hr.1; simpa [nums] using this
  have hn : 0 < ss.length := by omega
  refine enter Try.func22 rfl (by kernel_rfl) ?_
  refine J.seq ?_
  refine J.region ?_
  refine L.va rfl (X.assign (by conv => lhs; whnf)) ?_
  refine L.nil ?_
  refine J.seq ?_
  refine J.region ?_
  refine L.va rfl (X.assign (by conv => lhs; whnf)) ?_
  refine L.nil ?_
  refine J.seq ?_
  refine J.block ?_
  -- loop
  refine J.loop (X := List Nat × Option Addr × Nat × Nat) [4, 5, 6, 7, 8, 9, 10, 11, 12, 13, 14, 15, 16, 17, 18, 19, 20, 21, 22, 23, 24, 25, 26, 27, 28, 29, 30, 31, 32, 33, 34, 35, 36, 37, 38, 39, 40, 41, 42, 43, 44, 45, 46] (fun x => [(5, .slice x.2.1 x.2.2.1 x.2.2.2)]) (fun x w' => x.2.2.1 = x.1.length ∧ x.1.Nodup ∧ (∀ v ∈ x.1, v < q) ∧ x.1.length ≤ k.toNat ∧ grd ss k.toNat [] = grd ss (k.toNat - x.1.length) x.1 ∧ w'.ownsRow w.heap.size 29 1 (.slice x.2.1 x.2.2.1 x.2.2.2) x.2.2.1 (nums .u32 (zl x.1)) ∧ Ext w w') (fun x => k.toNat - x.1.length) (([], none, 0, 0)) (At1 (by first | rfl | exact at_int rfl (by omega) | exact at_slice rfl (by omega) | exact at_int rfl (by simp))) ?_ ?_
  · exact ⟨rfl, List.nodup_nil, fun v hv => absurd hv (by simp), by simp, by simp, own_nilN _ _ _ _, Ext.refl _⟩
  · rintro ⟨vs, A2, m, c2⟩ g w2 ⟨h1, hnd, hb, hle, hg, hc2, he2⟩
    dsimp only at h1 hnd hb hle hg hc2
    have hmm : ((vs, A2, m, c2) : List Nat × Option Addr × Nat × Nat).2.2.1 = vs.length := h1
    have hz2 := he2.le
    have hvb : ∀ v ∈ vs, v < ss.length := by rw [hl]; exact hb
    have hm64 := nodup_len q vs hnd hb
    obtain ⟨t1, t2, t3⟩ := top_spec ss (outs ss vs) ss.length
    refine J.seq ?_
    refine J.seq ?_
    refine J.region ?_
    refine L.va rfl (X.move (by conv => lhs; whnf)) ?_
    refine L.va rfl (X.len rfl Try.underlying23) ?_
    refine L.va rfl (X.move (by conv => lhs; whnf)) ?_
    refine L.va rfl (X.lss rfl rfl) ?_
    refine L.nil ?_
    -- cond
    refine J.dec rfl (fun hlt => ?_) (fun hlt => ?_)
    · obtain ⟨j, hj⟩ : ∃ j, k.toNat - vs.length = j + 1 := ⟨k.toNat - vs.length - 1, by omega⟩
      refine J.skip ?_
      refine J.block ?_
      refine J.seq ?_
      refine J.region ?_
      refine L.va rfl (X.move (by conv => lhs; whnf)) ?_
      refine L.va rfl (X.move (by conv => lhs; whnf)) ?_
      -- callfn bushel/bushelref18.Cost
      refine L.call rfl en_19 rfl (rcost_any A q c A2 m c2 ss vs _ ((hr.ext he2).here (by decide)) hq64 hq0 hS (own_reads hc2) (by omega) hb) ?_
      rintro e _ ⟨rfl, rfl⟩
      refine ⟨_, rfl, ?_⟩
      refine L.va rfl (X.assign (by conv => lhs; whnf)) ?_
      refine L.nil ?_
      refine J.seq ?_
      refine J.region ?_
      refine L.va rfl (X.move (by conv => lhs; whnf)) ?_
      refine L.va rfl (X.assign (by conv => lhs; whnf)) ?_
      refine L.va rfl (X.assign (by conv => lhs; whnf)) ?_
      refine L.nil ?_
      -- until
      refine J.cut (X := Int × Int) [7, 8, 9, 10, 19, 20, 21, 22, 23, 24, 25, 26, 27, 28, 29, 30, 31, 32, 33, 34, 35, 36, 37, 38] (fun x => [(7, .int .i64 x.1), (8, .int .i64 x.2)]) (fun x w' => x.2 = (if (top ss (outs ss vs) q).2 = 0 then -1 else ((top ss (outs ss vs) q).1 : Int)) ∧ Ext w2 w') ?_ ?_
      · refine J.seq ?_
        refine J.region ?_
        refine L.va rfl (X.assign (by conv => lhs; whnf)) ?_
        refine L.nil ?_
        refine J.block ?_
        -- loop
        refine J.loop (X := Nat × Int × Int) [7, 8, 9, 10, 19, 20, 21, 22, 23, 24, 25, 26, 27, 28, 29, 30, 31, 32, 33, 34, 35, 36, 37, 38] (fun x => [(9, .int .i64 (x.1 : Int)), (7, .int .i64 x.2.1), (8, .int .i64 x.2.2)]) (fun x w' => x.1 ≤ q ∧ x.2.1 = costL ss vs - (top ss (outs ss vs) x.1).2 ∧ x.2.2 = (if (top ss (outs ss vs) x.1).2 = 0 then -1 else ((top ss (outs ss vs) x.1).1 : Int)) ∧ Ext w2 w') (fun x => q - x.1) ((0, costL ss vs, -1)) (At3 (by first | rfl | exact at_int rfl (by omega) | exact at_slice rfl (by omega) | exact at_int rfl (by simp)) (by first | rfl | exact at_int rfl (by omega) | exact at_slice rfl (by omega) | exact at_int rfl (by simp)) (by first | rfl | exact at_int rfl (by omega) | exact at_slice rfl (by omega) | exact at_int rfl (by simp))) ?_ ?_
        · exact ⟨by dsimp only; omega, by dsimp only [top]; omega, rfl, Ext.refl _⟩
        · rintro ⟨i, low, at_⟩ g w3 ⟨hi, hlow, hat, he3⟩
          dsimp only at hi hlow hat
          have hz3 := he3.le
          have hc3 := hc2.ext he3
          have htn : top ss (outs ss vs) (i + 1) = if (top ss (outs ss vs) i).2 < wth ss (outs ss vs) i then (i, wth ss (outs ss vs) i) else top ss (outs ss vs) i := rfl
          have hti := (top_spec ss (outs ss vs) i).1
          refine J.seq ?_
          refine J.seq ?_
          refine J.region ?_
          refine L.va rfl (X.move (by conv => lhs; whnf)) ?_
          refine L.va rfl (X.move (by conv => lhs; whnf)) ?_
          refine L.va rfl (X.len rfl Try.underlying22) ?_
          refine L.va rfl (X.lss rfl rfl) ?_
          refine L.nil ?_
          -- cond
          refine J.dec rfl (fun hi2 => ?_) (fun hi2 => ?_)
          · have hw := wth_outs hS hn vs hvb i (by omega)
            have hb3 : ∀ v ∈ vs ++ [i], v < q := by
              intro v hv
              rcases List.mem_append.1 hv with h | h
              · exact hb v h
              · obtain rfl : v = i := by simpa using h
                omega
            have e3 : costL ss (vs ++ [i]) = costL ss vs - wth ss (outs ss vs) i := by omega
            refine J.skip ?_
            refine J.seq ?_
            refine J.block ?_
            refine J.seq ?_
            refine J.region ?_
            refine L.va rfl (X.move (by conv => lhs; whnf)) ?_
            -- buildSlice
            refine L.bslice (vs := []) rfl Evs.nil rfl rfl rfl rfl Try.underlying23 sz_29 zr_29 (by decide) ?_
            intro b4 w4 hb4 hs4 hk4 he4
            have ho4 : w4.ownsRow w3.heap.size 29 1 (.slice (some ⟨b4, 0, none⟩) 0 0) 0 (nums .u32 []) := blk_own1 hk4 (by omega) (by decide) rfl
            refine L.va rfl (X.move (by conv => lhs; whnf)) ?_
            -- append
            refine L.appendQ (q := m) (ys := zl vs) rfl rfl rfl Try.underlying23 el_29 (ho4) (own_reads (hc3.ext he4)) (by omega) (by simp) (by unfold maxLen; omega) (by omega) ?_
            intro A5 c5 w5 ho5 hg5 hb5 hor5
            have he5 : Ext w3 w5 := he4.low hb5 (Nat.le_refl _)
            have hz5 := he5.le
            refine L.va rfl (X.move (by conv => lhs; whnf)) ?_
            refine L.va rfl ((by first | exact X.conv32 rfl is_3 Try.underlying29 (by omega) | exact X.convw rfl is_3 Try.underlying29)) ?_
            -- buildSlice
            refine L.bslice (vs := [_]) rfl (Evs.cons (by conv => lhs; whnf) Evs.nil) rfl rfl rfl rfl Try.underlying23 sz_29 zr_29 (by decide) ?_
            intro b6 w6 hb6 hs6 hk6 he6
            -- append
            refine L.appendQ (q := m + 1) (ys := zl vs ++ [(i : Int)]) rfl rfl rfl Try.underlying23 el_29 (ho5.ext he6) ((blk_reads (q := 1) (l := nums .u32 [(i : Int)]) hk6 (by omega : b6 < w6.heap.size) rfl)) (by omega) (by simp) (by unfold maxLen; omega) (by omega) ?_
            intro A7 c7 w7 ho7 hg7 hb7 hor7
            rw [← zl_snoc] at ho7
            have he7 : Ext w3 w7 := (he5.trans he6).low hb7 (Nat.le_refl _)
            -- callfn bushel/bushelref18.Cost
            refine L.call rfl en_19 rfl (rcost_any A q c A7 (m + 1) c7 ss (vs ++ [i]) _ ((hr.ext (he2.trans (he3.trans he7))).here (by decide)) hq64 hq0 hS (own_reads ho7) (by omega) hb3) ?_
            rintro e _ ⟨rfl, rfl⟩
            refine ⟨_, rfl, ?_⟩
            rw [e3]
            refine L.va rfl (X.assign (by conv => lhs; whnf)) ?_
            refine L.nil ?_
            refine J.seq ?_
            refine J.region ?_
            refine L.va rfl (X.move (by conv => lhs; whnf)) ?_
            refine L.va rfl (X.move (by conv => lhs; whnf)) ?_
            refine L.va rfl (X.lss rfl rfl) ?_
            refine L.nil ?_
            -- cond
            refine J.dec rfl (fun hless => ?_) (fun hless => ?_)
            · have hless' : costL ss vs - wth ss (outs ss vs) i < low := hless
              rw [if_pos (by omega)] at htn
              refine J.region ?_
              refine L.va rfl (X.move (by conv => lhs; whnf)) ?_
              refine L.va rfl (X.move (by conv => lhs; whnf)) ?_
              refine L.va rfl (X.assign (by conv => lhs; whnf)) ?_
              refine L.va rfl (X.assign (by conv => lhs; whnf)) ?_
              refine L.nil ?_
              refine J.region ?_
              refine L.va rfl (X.move (by conv => lhs; whnf)) ?_
              refine L.va rfl (X.add rfl rfl (by omega)) ?_
              refine L.va rfl (X.assign (by conv => lhs; whnf)) ?_
              refine L.nil ?_
              -- loopend
              refine ⟨(i + 1, costL ss vs - wth ss (outs ss vs) i, (i : Int)), At3 (by first | rfl | exact at_int rfl (by omega) | exact at_slice rfl (by omega) | exact at_int rfl (by simp)) (by first | rfl | exact at_int rfl (by omega) | exact at_slice rfl (by omega) | exact at_int rfl (by simp)) (by first | rfl | exact at_int rfl (by omega) | exact at_slice rfl (by omega) | exact at_int rfl (by simp)), (by (iterate 24 refine Agr.lk rfl ?_); exact Agr.lk rfl (Agr.hav rfl Agr.rfl')), ?_⟩
              refine ⟨⟨by dsimp only; omega, by dsimp only; rw [htn], ?_, he3.trans he7⟩, by dsimp only; omega⟩
              dsimp only
              rw [htn, if_neg (by dsimp only; omega)]
            · have hless' : ¬ costL ss vs - wth ss (outs ss vs) i < low := hless
              rw [if_neg (by omega)] at htn
              refine J.skip ?_
              refine J.region ?_
              refine L.va rfl (X.move (by conv => lhs; whnf)) ?_
              refine L.va rfl (X.add rfl rfl (by omega)) ?_
              refine L.va rfl (X.assign (by conv => lhs; whnf)) ?_
              refine L.nil ?_
              -- loopend
              refine ⟨(i + 1, low, at_), At3 (by first | rfl | exact at_int rfl (by omega) | exact at_slice rfl (by omega) | exact at_int rfl (by simp)) (by first | rfl | exact at_int rfl (by omega) | exact at_slice rfl (by omega) | exact at_int rfl (by simp)) (by first | rfl | exact at_int rfl (by omega) | exact at_slice rfl (by omega) | exact at_int rfl (by simp)), (by (iterate 20 refine Agr.lk rfl ?_); exact Agr.lk rfl (Agr.hav rfl Agr.rfl')), ?_⟩
              exact ⟨⟨by dsimp only; omega, by dsimp only; rw [htn]; exact hlow, by dsimp only; rw [htn]; exact hat, he3.trans he7⟩, by dsimp only; omega⟩
          · obtain rfl : i = q := by omega
            refine J.exit ?_
            -- cutend
            refine ⟨(low, at_), At2 (by first | rfl | exact at_int rfl (by omega) | exact at_slice rfl (by omega) | exact at_int rfl (by simp)) (by first | rfl | exact at_int rfl (by omega) | exact at_slice rfl (by omega) | exact at_int rfl (by simp)), (by (iterate 4 refine Agr.lk rfl ?_); refine Agr.lk rfl ?_; refine Agr.hav rfl ?_; (iterate 1 refine Agr.lk rfl ?_); exact Agr.rfl'), ?_⟩
            exact ⟨hat, he3⟩
      · rintro ⟨low, at_⟩ g w3 ⟨hat, he3⟩
        dsimp only at hat
        have hz3 := he3.le
        have hc3 := hc2.ext he3
        have hgn := grd_next ss j vs
        rw [hl] at hgn t1 t2 t3
        rw [hj] at hg
        generalize top ss (outs ss vs) q = T at *
        obtain ⟨b, z⟩ := T
        dsimp only at t1 t2 t3 hat hgn
        have hat' : ((low, at_) : Int × Int).2 = at_ := rfl
        refine J.seq ?_
        refine J.seq ?_
        refine J.region ?_
        refine L.va rfl (X.move (by conv => lhs; whnf)) ?_
        refine L.va rfl (X.lss rfl rfl) ?_
        refine L.nil ?_
        -- cond
        refine J.dec rfl (fun hneg => ?_) (fun hneg => ?_)
        · have hz0 : z = 0 := by
            apply Decidable.byContradiction
            intro h
            rw [if_neg h] at hat
            omega
          rw [if_pos hz0] at hgn
          rw [hg, hgn, ← h1]
          refine J.seq ?_
          refine J.region ?_
          refine L.va rfl (X.move (by conv => lhs; whnf)) ?_
          refine L.va rfl (X.assign (by conv => lhs; whnf)) ?_
          refine L.nil ?_
          -- ret
          refine J.ret ?_
          refine thn_ret <|  inB_ret <|  thn_ret <|  inB_ret <|  thn_ret <| ?_
          refine fin1 ?_
          exact ⟨_, _, rfl, by rw [h1] at hc3 ⊢; exact hc3, he2.trans he3⟩
        · have hz0 : z ≠ 0 := by
            intro h
            rw [if_pos h] at hat
            omega
          rw [if_neg hz0] at hgn hat
          obtain ⟨hbq, hwb⟩ := t3 (by omega)
          have hnew : b ∉ vs := by
            intro hmem
            have := again_zero hS hn vs hvb b hmem
            rw [hwb] at this
            exact hz0 this
          have hnd2 := nodup_snoc hnd hnew
          have hb2 : ∀ v ∈ vs ++ [b], v < q := by
            intro v hv
            rcases List.mem_append.1 hv with h | h
            · exact hb v h
            · obtain rfl : v = b := by simpa using h
              exact hbq
          subst hat
          refine J.skip ?_
          refine J.region ?_
          refine L.va rfl (X.move (by conv => lhs; whnf)) ?_
          refine L.va rfl (X.move (by conv => lhs; whnf)) ?_
          refine L.va rfl ((by first | exact X.conv32 rfl is_3 Try.underlying29 (by omega) | exact X.convw rfl is_3 Try.underlying29)) ?_
          -- buildSlice
          refine L.bslice (vs := [_]) rfl (Evs.cons (by conv => lhs; whnf) Evs.nil) rfl rfl rfl rfl Try.underlying23 sz_29 zr_29 (by decide) ?_
          intro b5 w5 hb5 hs5 hk5 he5
          -- append
          refine L.appendQ (q := m + 1) (ys := zl vs ++ [(b : Int)]) rfl rfl rfl Try.underlying23 el_29 (hc3.ext he5) ((blk_reads (q := 1) (l := nums .u32 [(b : Int)]) hk5 (by omega : b5 < w5.heap.size) rfl)) (by omega) (by simp) (by unfold maxLen; omega) (by omega) ?_
          intro A6 c6 w6 ho6 hg6 hb6 hor6
          rw [← zl_snoc] at ho6
          refine L.va rfl (X.assign (by conv => lhs; whnf)) ?_
          refine L.nil ?_
          -- loopend
          refine ⟨(vs ++ [b], A6, m + 1, c6), At1 (by first | rfl | exact at_int rfl (by omega) | exact at_slice rfl (by omega) | exact at_int rfl (by simp)), (by (iterate 8 refine Agr.lk rfl ?_); refine Agr.lk rfl ?_; refine Agr.hav rfl ?_; (iterate 11 refine Agr.lk rfl ?_); exact Agr.lk rfl (Agr.hav rfl Agr.rfl')), ?_⟩
          refine ⟨⟨?_, hnd2, hb2, ?_, ?_, ho6, Below.trans ((he2.trans he3).trans he5) hb6⟩, ?_⟩
          · dsimp only; rw [List.length_append, h1]; rfl
          · dsimp only; rw [List.length_append]; simp only [List.length_cons, List.length_nil]; omega
          · dsimp only; rw [hg, hgn, List.length_append]; simp only [List.length_cons, List.length_nil]; congr 1; omega
          · dsimp only; rw [List.length_append]; simp only [List.length_cons, List.length_nil]; omega
    · have hk0 : k.toNat - vs.length = 0 := by omega
      rw [hk0] at hg
      rw [hg]
      refine J.exit ?_
      refine J.seq ?_
      refine J.region ?_
      refine L.va rfl (X.move (by conv => lhs; whnf)) ?_
      refine L.va rfl (X.assign (by conv => lhs; whnf)) ?_
      refine L.nil ?_
      -- ret
      refine J.ret ?_
      refine fin1 ?_
      exact ⟨A2, c2, by rw [h1]; rfl, by rw [h1] at hc2; exact hc2, he2⟩
end Go.Proofs.Ytkipdkkpifnboaa
